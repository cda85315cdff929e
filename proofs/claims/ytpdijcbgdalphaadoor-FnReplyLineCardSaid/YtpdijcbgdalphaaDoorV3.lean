/- Walks, printed by program. -/
import Derived.Test.YtpdijcbgdalphaaDoorV2
import Derived.Test.YtpdijcbgdalphaaDoorShelf
import Derived.Test.YtpdijcbgdalphaaDoorSxj
import Derived.Test.YtpdijcbgdalphaaDoorSxt
namespace Go.Proofs.YtpdijcbgdalphaaDoor
namespace SX
open Go Go.RowKit
set_option linter.unusedVariables false
set_option linter.unusedSimpArgs false
set_option maxRecDepth 10000
theorem itoa_c (W : World) (n : Int) (hn : i64R n) (htab : Tab Tryd.prog W) : Spec Tryd.prog W [] 51 #[vi n] (RV (.string (bs (Lib.itoa n)))) := Spec.grow (Tryd.strconv_Itoa n hn.1 hn.2 W htab)

theorem iDigits_c (W : World) (n : Int) (hn : i64R n) (htab : Tab Tryd.prog W) : Spec Tryd.prog W [] 34 #[vi n] (RV (.string (bs (Lib.itoa n)))) := by
  refine ENTER0 (N := 5) (vs := [vi n]) Tryd.func34 rfl rfl (Nat.le_of_ble_eq_true rfl) ?_
  refine SEQ (REGION [0] rfl (RUN0 1 [] [(0, I n)] ?_ rfl ?_))
  · as_aux_lemma => kernel_rfl
  refine ENDOPS (NEXT (SEQ (REGION [0, 1, 2] rfl (RUN0 1 [1, 2] [(3, I n)] ?_ rfl ?_))))
  · as_aux_lemma => kernel_rfl
  refine OPC (CALL 51 #[vi n] (some 4) ?_ [] [] _ rfl (RV (.string (bs (Lib.itoa n)))) (fun w hw => itoa_c w n (by first | assumption | exact wr_range _ | (unfold i64R at *; omega) | (simp only [i64R] at *; omega)) (htab.fr hw.fr)) (by rintro _ ⟨⟩; exact Nat.le_of_ble_eq_true rfl) ?_)
  · as_aux_lemma => kernel_rfl
  rintro ⟨⟩
  have hr1 := itoa_len (n := n) (by first | assumption | exact wr_range _ | (unfold i64R at *; omega) | (simp only [i64R] at *; omega))
  refine RUN0 1 [] [(2, .v (.string (bs (Lib.itoa n))))] ?_ rfl ?_
  · as_aux_lemma => kernel_rfl
  refine ENDOPS (NEXT (RET (FIN (.string (bs (Lib.itoa n))) ?_ () ?_ [] ?_)))
  · as_aux_lemma => kernel_rfl
  · simp [RV]
  · rfl

theorem iReqLine_c (W : World) (q : Req) (htab : Tab Tryd.prog W) : Spec Tryd.prog W [] 38 #[.agg #[vi q.kind, vi q.id, vi q.cabin, vi q.from', vi q.size, vi q.tier]] (RV (.string (bs (reqLine q)))) := by
  refine ENTER0 (N := 74) (vs := [.agg #[vi q.kind, vi q.id, vi q.cabin, vi q.from', vi q.size, vi q.tier]]) Tryd.func38 rfl rfl (Nat.le_of_ble_eq_true rfl) ?_
  refine SEQ (REGION [0, 1] rfl (RUN 2 [] [(1, .p 0 0)] [(47, [vi q.kind, vi q.id, vi q.cabin, vi q.from', vi q.size, vi q.tier])] ?_ rfl ?_))
  · as_aux_lemma => kernel_rfl
  refine ENDOPS (NEXT (SEQ (SEQ (REGION [0, 1, 2] rfl (RUN0 1 [1, 2] [(1, .p 0 0), (4, .v (.agg #[vi q.kind, vi q.id, vi q.cabin, vi q.from', vi q.size, vi q.tier]))] ?_ rfl ?_)))))
  · as_aux_lemma => kernel_rfl
  refine OPC (CALL 49 #[.agg #[vi q.kind, vi q.id, vi q.cabin, vi q.from', vi q.size, vi q.tier]] (some 5) ?_ [] [] _ rfl (RV (.bool (reqOk q))) (fun w hw => iReqOk_c w q) (by rintro _ ⟨⟩; exact Nat.le_of_ble_eq_true rfl) ?_)
  · as_aux_lemma => kernel_rfl
  rintro ⟨⟩
  refine RUN0 1 [] [(1, .p 0 0), (6, B (!(reqOk q)))] ?_ rfl ?_
  · as_aux_lemma => kernel_rfl
  refine ENDOPS (NEXT (IF (!(reqOk q)) ?_ (fun bh1 => ?_) (fun bh1 => ?_)))
  · as_aux_lemma => kernel_rfl
  · -- !(reqOk q) = true
    have h1 := bh1
    have h1 := notT h1
    refine SEQ (REGION [0] rfl (RUN0 1 [] [(2, .v (.string (bs ([]))))] ?_ rfl ?_))
    · as_aux_lemma => kernel_rfl
    refine ENDOPS (NEXT (RET (PASS trivial (FIN (.string (bs ([]))) ?_ () ?_ [] ?_))))
    · as_aux_lemma => kernel_rfl
    · (first | (simp [RV, reqLine, reqWord, reqWords, *]; done) | (have h7 : q.kind = 7 := (by omega); simp [RV, reqLine, reqWord, reqWords, *]; done) | (have h9 : ¬ q.from' = -1 := (by omega); simp [RV, reqLine, reqWord, reqWords, *]; done) | (have h9 : q.from' = -1 := (by omega); simp [RV, reqLine, reqWord, reqWords, *]))
    · rfl
  · -- !(reqOk q) = false
    have h1 := bh1
    have h1 := notF h1
    have hq := reqOk_rng h1
    refine SKIP (NEXT (SEQ (SEQ (REGION [0, 1] rfl (RUN0 2 [] [(1, .p 0 0), (8, I q.kind)] ?_ rfl ?_)))))
    · as_aux_lemma => kernel_rfl
    refine ENDOPS (NEXT (BLOCK (SEQ (REGION [0, 1] rfl (RUN0 2 [] [(1, .p 0 0), (8, I q.kind), (9, B (q.kind == 1))] ?_ rfl ?_)))))
    · as_aux_lemma => kernel_rfl
    refine ENDOPS (NEXT (IF (q.kind == 1) ?_ (fun bh2 => ?_) (fun bh2 => ?_)))
    · as_aux_lemma => kernel_rfl
    · -- q.kind == 1 = true
      have h2 := bh2
      have h2 := eq_of_beq h2
      refine SEQ (REGION [0] rfl (RUN0 1 [] [(1, .p 0 0), (3, .v (.string (bs ([45]))))] ?_ rfl ?_))
      · as_aux_lemma => kernel_rfl
      refine ENDOPS (NEXT (SEQ (SEQ (REGION [0, 1, 2] rfl (RUN0 3 [] [(1, .p 0 0), (3, .v (.string (bs ([45])))), (13, B (q.from' != (-1)))] ?_ rfl ?_)))))
      · as_aux_lemma => kernel_rfl
      refine ENDOPS (NEXT (IF (q.from' != (-1)) ?_ (fun bh3 => ?_) (fun bh3 => ?_)))
      · as_aux_lemma => kernel_rfl
      · -- q.from' != (-1) = true
        have h3 := bh3
        have h3 := bne_iff_ne.1 h3
        refine REGION [0, 1, 2, 3] rfl (RUN0 2 [2, 3] [(1, .p 0 0), (15, I q.from')] ?_ rfl ?_)
        · as_aux_lemma => kernel_rfl
        refine OPC (CALL 34 #[vi q.from'] (some 16) ?_ [] [] _ rfl (RV (.string (bs (Lib.itoa q.from')))) (fun w hw => iDigits_c w q.from' (by first | assumption | exact wr_range _ | (unfold i64R at *; omega) | (simp only [i64R] at *; omega)) (htab.fr hw.fr)) (by rintro _ ⟨⟩; exact Nat.le_of_ble_eq_true rfl) ?_)
        · as_aux_lemma => kernel_rfl
        rintro ⟨⟩
        have hr4 := itoa_len (n := q.from') (by first | assumption | exact wr_range _ | (unfold i64R at *; omega) | (simp only [i64R] at *; omega))
        refine RUN0 1 [] [(1, .p 0 0), (3, .v (.string (bs (Lib.itoa q.from'))))] ?_ rfl ?_
        · as_aux_lemma => kernel_rfl
        refine ENDOPS (NEXT (SEQ (REGIONQ ?_ ?_ ?_)))
        · as_aux_lemma => kernel_rfl
        · as_aux_lemma => kernel_rfl
        refine QRUN 2 0 2 [(1, .p 0 0), (3, .v (.string (bs (Lib.itoa q.from')))), (18, I q.id)] ?_ rfl ?_
        · as_aux_lemma => kernel_rfl
        have hr5 := itoa_len (n := q.id) (by first | assumption | exact wr_range _ | (unfold i64R at *; omega) | (simp only [i64R] at *; omega))
        refine QCALL 34 #[vi q.id] (some 19) ?_ (.string (bs (Lib.itoa q.id))) (fun w hw => iDigits_c w q.id (by first | assumption | exact wr_range _ | (unfold i64R at *; omega) | (simp only [i64R] at *; omega)) (htab.fr hw.fr)) (by rintro _ ⟨⟩; exact Nat.le_of_ble_eq_true rfl) ?_
        · as_aux_lemma => kernel_rfl
        refine QRUNV (.binOp .add 9 (.const (.string (bs ([106, 111, 105, 110, 32])))) (.tmp 19) 9) 20 9 ?_ (Nat.le_of_ble_eq_true rfl) (.string (bs (([106, 111, 105, 110, 32]) ++ (Lib.itoa q.id)))) (runs_scat (a := [106, 111, 105, 110, 32]) (b := Lib.itoa q.id) ?_ ?_ (by first | omega | (simp only [List.length_append, List.length_cons, List.length_nil, List.length_take, List.length_drop] at *; omega))) ?_
        · as_aux_lemma => kernel_rfl
        · as_aux_lemma => kernel_rfl
        · as_aux_lemma => kernel_rfl
        refine QRUNV (.binOp .add 9 (.tmp 20) (.const (.string (bs ([32])))) 9) 21 9 ?_ (Nat.le_of_ble_eq_true rfl) (.string (bs ((([106, 111, 105, 110, 32]) ++ (Lib.itoa q.id)) ++ ([32])))) (runs_scat (a := ([106, 111, 105, 110, 32]) ++ (Lib.itoa q.id)) (b := [32]) ?_ ?_ (by first | omega | (simp only [List.length_append, List.length_cons, List.length_nil, List.length_take, List.length_drop] at *; omega))) ?_
        · as_aux_lemma => kernel_rfl
        · as_aux_lemma => kernel_rfl
        · as_aux_lemma => kernel_rfl
        refine QRUN 2 5 7 [(1, .p 0 0), (3, .v (.string (bs (Lib.itoa q.from')))), (21, .v (.string (bs ((([106, 111, 105, 110, 32]) ++ (Lib.itoa q.id)) ++ ([32]))))), (23, I q.cabin)] ?_ rfl ?_
        · as_aux_lemma => kernel_rfl
        have hr6 := itoa_len (n := q.cabin) (by first | assumption | exact wr_range _ | (unfold i64R at *; omega) | (simp only [i64R] at *; omega))
        refine QCALL 34 #[vi q.cabin] (some 24) ?_ (.string (bs (Lib.itoa q.cabin))) (fun w hw => iDigits_c w q.cabin (by first | assumption | exact wr_range _ | (unfold i64R at *; omega) | (simp only [i64R] at *; omega)) (htab.fr hw.fr)) (by rintro _ ⟨⟩; exact Nat.le_of_ble_eq_true rfl) ?_
        · as_aux_lemma => kernel_rfl
        refine QRUNV (.binOp .add 9 (.tmp 21) (.tmp 24) 9) 25 9 ?_ (Nat.le_of_ble_eq_true rfl) (.string (bs (((([106, 111, 105, 110, 32]) ++ (Lib.itoa q.id)) ++ ([32])) ++ (Lib.itoa q.cabin)))) (runs_scat (a := (([106, 111, 105, 110, 32]) ++ (Lib.itoa q.id)) ++ ([32])) (b := Lib.itoa q.cabin) ?_ ?_ (by first | omega | (simp only [List.length_append, List.length_cons, List.length_nil, List.length_take, List.length_drop] at *; omega))) ?_
        · as_aux_lemma => kernel_rfl
        · as_aux_lemma => kernel_rfl
        · as_aux_lemma => kernel_rfl
        refine QRUNV (.binOp .add 9 (.tmp 25) (.const (.string (bs ([32])))) 9) 26 9 ?_ (Nat.le_of_ble_eq_true rfl) (.string (bs ((((([106, 111, 105, 110, 32]) ++ (Lib.itoa q.id)) ++ ([32])) ++ (Lib.itoa q.cabin)) ++ ([32])))) (runs_scat (a := ((([106, 111, 105, 110, 32]) ++ (Lib.itoa q.id)) ++ ([32])) ++ (Lib.itoa q.cabin)) (b := [32]) ?_ ?_ (by first | omega | (simp only [List.length_append, List.length_cons, List.length_nil, List.length_take, List.length_drop] at *; omega))) ?_
        · as_aux_lemma => kernel_rfl
        · as_aux_lemma => kernel_rfl
        · as_aux_lemma => kernel_rfl
        refine QRUN 1 10 11 [(1, .p 0 0), (26, .v (.string (bs ((((([106, 111, 105, 110, 32]) ++ (Lib.itoa q.id)) ++ ([32])) ++ (Lib.itoa q.cabin)) ++ ([32]))))), (27, .v (.string (bs (Lib.itoa q.from'))))] ?_ rfl ?_
        · as_aux_lemma => kernel_rfl
        refine QRUNV (.binOp .add 9 (.tmp 26) (.tmp 27) 9) 28 9 ?_ (Nat.le_of_ble_eq_true rfl) (.string (bs (((((([106, 111, 105, 110, 32]) ++ (Lib.itoa q.id)) ++ ([32])) ++ (Lib.itoa q.cabin)) ++ ([32])) ++ (Lib.itoa q.from')))) (runs_scat (a := (((([106, 111, 105, 110, 32]) ++ (Lib.itoa q.id)) ++ ([32])) ++ (Lib.itoa q.cabin)) ++ ([32])) (b := Lib.itoa q.from') ?_ ?_ (by first | omega | (simp only [List.length_append, List.length_cons, List.length_nil, List.length_take, List.length_drop] at *; omega))) ?_
        · as_aux_lemma => kernel_rfl
        · as_aux_lemma => kernel_rfl
        · as_aux_lemma => kernel_rfl
        refine QRUNV (.binOp .add 9 (.tmp 28) (.const (.string (bs ([32])))) 9) 29 9 ?_ (Nat.le_of_ble_eq_true rfl) (.string (bs ((((((([106, 111, 105, 110, 32]) ++ (Lib.itoa q.id)) ++ ([32])) ++ (Lib.itoa q.cabin)) ++ ([32])) ++ (Lib.itoa q.from')) ++ ([32])))) (runs_scat (a := ((((([106, 111, 105, 110, 32]) ++ (Lib.itoa q.id)) ++ ([32])) ++ (Lib.itoa q.cabin)) ++ ([32])) ++ (Lib.itoa q.from')) (b := [32]) ?_ ?_ (by first | omega | (simp only [List.length_append, List.length_cons, List.length_nil, List.length_take, List.length_drop] at *; omega))) ?_
        · as_aux_lemma => kernel_rfl
        · as_aux_lemma => kernel_rfl
        · as_aux_lemma => kernel_rfl
        refine QRUN 2 13 15 [(1, .p 0 0), (29, .v (.string (bs ((((((([106, 111, 105, 110, 32]) ++ (Lib.itoa q.id)) ++ ([32])) ++ (Lib.itoa q.cabin)) ++ ([32])) ++ (Lib.itoa q.from')) ++ ([32]))))), (31, I q.size)] ?_ rfl ?_
        · as_aux_lemma => kernel_rfl
        have hr7 := itoa_len (n := q.size) (by first | assumption | exact wr_range _ | (unfold i64R at *; omega) | (simp only [i64R] at *; omega))
        refine QCALL 34 #[vi q.size] (some 32) ?_ (.string (bs (Lib.itoa q.size))) (fun w hw => iDigits_c w q.size (by first | assumption | exact wr_range _ | (unfold i64R at *; omega) | (simp only [i64R] at *; omega)) (htab.fr hw.fr)) (by rintro _ ⟨⟩; exact Nat.le_of_ble_eq_true rfl) ?_
        · as_aux_lemma => kernel_rfl
        refine QRUNV (.binOp .add 9 (.tmp 29) (.tmp 32) 9) 33 9 ?_ (Nat.le_of_ble_eq_true rfl) (.string (bs (((((((([106, 111, 105, 110, 32]) ++ (Lib.itoa q.id)) ++ ([32])) ++ (Lib.itoa q.cabin)) ++ ([32])) ++ (Lib.itoa q.from')) ++ ([32])) ++ (Lib.itoa q.size)))) (runs_scat (a := (((((([106, 111, 105, 110, 32]) ++ (Lib.itoa q.id)) ++ ([32])) ++ (Lib.itoa q.cabin)) ++ ([32])) ++ (Lib.itoa q.from')) ++ ([32])) (b := Lib.itoa q.size) ?_ ?_ (by first | omega | (simp only [List.length_append, List.length_cons, List.length_nil, List.length_take, List.length_drop] at *; omega))) ?_
        · as_aux_lemma => kernel_rfl
        · as_aux_lemma => kernel_rfl
        · as_aux_lemma => kernel_rfl
        refine QRUNV (.binOp .add 9 (.tmp 33) (.const (.string (bs ([32])))) 9) 34 9 ?_ (Nat.le_of_ble_eq_true rfl) (.string (bs ((((((((([106, 111, 105, 110, 32]) ++ (Lib.itoa q.id)) ++ ([32])) ++ (Lib.itoa q.cabin)) ++ ([32])) ++ (Lib.itoa q.from')) ++ ([32])) ++ (Lib.itoa q.size)) ++ ([32])))) (runs_scat (a := ((((((([106, 111, 105, 110, 32]) ++ (Lib.itoa q.id)) ++ ([32])) ++ (Lib.itoa q.cabin)) ++ ([32])) ++ (Lib.itoa q.from')) ++ ([32])) ++ (Lib.itoa q.size)) (b := [32]) ?_ ?_ (by first | omega | (simp only [List.length_append, List.length_cons, List.length_nil, List.length_take, List.length_drop] at *; omega))) ?_
        · as_aux_lemma => kernel_rfl
        · as_aux_lemma => kernel_rfl
        · as_aux_lemma => kernel_rfl
        refine QRUN 2 18 20 [(34, .v (.string (bs ((((((((([106, 111, 105, 110, 32]) ++ (Lib.itoa q.id)) ++ ([32])) ++ (Lib.itoa q.cabin)) ++ ([32])) ++ (Lib.itoa q.from')) ++ ([32])) ++ (Lib.itoa q.size)) ++ ([32]))))), (36, I q.tier)] ?_ rfl ?_
        · as_aux_lemma => kernel_rfl
        have hr8 := itoa_len (n := q.tier) (by first | assumption | exact wr_range _ | (unfold i64R at *; omega) | (simp only [i64R] at *; omega))
        refine QCALL 34 #[vi q.tier] (some 37) ?_ (.string (bs (Lib.itoa q.tier))) (fun w hw => iDigits_c w q.tier (by first | assumption | exact wr_range _ | (unfold i64R at *; omega) | (simp only [i64R] at *; omega)) (htab.fr hw.fr)) (by rintro _ ⟨⟩; exact Nat.le_of_ble_eq_true rfl) ?_
        · as_aux_lemma => kernel_rfl
        refine QRUNV (.binOp .add 9 (.tmp 34) (.tmp 37) 9) 38 9 ?_ (Nat.le_of_ble_eq_true rfl) (.string (bs (((((((((([106, 111, 105, 110, 32]) ++ (Lib.itoa q.id)) ++ ([32])) ++ (Lib.itoa q.cabin)) ++ ([32])) ++ (Lib.itoa q.from')) ++ ([32])) ++ (Lib.itoa q.size)) ++ ([32])) ++ (Lib.itoa q.tier)))) (runs_scat (a := (((((((([106, 111, 105, 110, 32]) ++ (Lib.itoa q.id)) ++ ([32])) ++ (Lib.itoa q.cabin)) ++ ([32])) ++ (Lib.itoa q.from')) ++ ([32])) ++ (Lib.itoa q.size)) ++ ([32])) (b := Lib.itoa q.tier) ?_ ?_ (by first | omega | (simp only [List.length_append, List.length_cons, List.length_nil, List.length_take, List.length_drop] at *; omega))) ?_
        · as_aux_lemma => kernel_rfl
        · as_aux_lemma => kernel_rfl
        · as_aux_lemma => kernel_rfl
        refine QRUN 1 22 23 [(2, .v (.string (bs (((((((((([106, 111, 105, 110, 32]) ++ (Lib.itoa q.id)) ++ ([32])) ++ (Lib.itoa q.cabin)) ++ ([32])) ++ (Lib.itoa q.from')) ++ ([32])) ++ (Lib.itoa q.size)) ++ ([32])) ++ (Lib.itoa q.tier)))))] ?_ rfl ?_
        · as_aux_lemma => kernel_rfl
        refine QEND rfl (NEXT (RET (OUTR (PASS trivial (FIN (.string (bs (((((((((([106, 111, 105, 110, 32]) ++ (Lib.itoa q.id)) ++ ([32])) ++ (Lib.itoa q.cabin)) ++ ([32])) ++ (Lib.itoa q.from')) ++ ([32])) ++ (Lib.itoa q.size)) ++ ([32])) ++ (Lib.itoa q.tier)))) ?_ () ?_ [] ?_)))))
        · as_aux_lemma => kernel_rfl
        · (first | (simp [RV, reqLine, reqWord, reqWords, *]; done) | (have h7 : q.kind = 7 := (by omega); simp [RV, reqLine, reqWord, reqWords, *]; done) | (have h9 : ¬ q.from' = -1 := (by omega); simp [RV, reqLine, reqWord, reqWords, *]; done) | (have h9 : q.from' = -1 := (by omega); simp [RV, reqLine, reqWord, reqWords, *]))
        · rfl
      · -- q.from' != (-1) = false
        have h3 := bh3
        have h3 := bneF h3
        refine SKIP (NEXT (SEQ (REGIONQ ?_ ?_ ?_)))
        · as_aux_lemma => kernel_rfl
        · as_aux_lemma => kernel_rfl
        refine QRUN 2 0 2 [(1, .p 0 0), (3, .v (.string (bs ([45])))), (18, I q.id)] ?_ rfl ?_
        · as_aux_lemma => kernel_rfl
        have hr9 := itoa_len (n := q.id) (by first | assumption | exact wr_range _ | (unfold i64R at *; omega) | (simp only [i64R] at *; omega))
        refine QCALL 34 #[vi q.id] (some 19) ?_ (.string (bs (Lib.itoa q.id))) (fun w hw => iDigits_c w q.id (by first | assumption | exact wr_range _ | (unfold i64R at *; omega) | (simp only [i64R] at *; omega)) (htab.fr hw.fr)) (by rintro _ ⟨⟩; exact Nat.le_of_ble_eq_true rfl) ?_
        · as_aux_lemma => kernel_rfl
        refine QRUNV (.binOp .add 9 (.const (.string (bs ([106, 111, 105, 110, 32])))) (.tmp 19) 9) 20 9 ?_ (Nat.le_of_ble_eq_true rfl) (.string (bs (([106, 111, 105, 110, 32]) ++ (Lib.itoa q.id)))) (runs_scat (a := [106, 111, 105, 110, 32]) (b := Lib.itoa q.id) ?_ ?_ (by first | omega | (simp only [List.length_append, List.length_cons, List.length_nil, List.length_take, List.length_drop] at *; omega))) ?_
        · as_aux_lemma => kernel_rfl
        · as_aux_lemma => kernel_rfl
        · as_aux_lemma => kernel_rfl
        refine QRUNV (.binOp .add 9 (.tmp 20) (.const (.string (bs ([32])))) 9) 21 9 ?_ (Nat.le_of_ble_eq_true rfl) (.string (bs ((([106, 111, 105, 110, 32]) ++ (Lib.itoa q.id)) ++ ([32])))) (runs_scat (a := ([106, 111, 105, 110, 32]) ++ (Lib.itoa q.id)) (b := [32]) ?_ ?_ (by first | omega | (simp only [List.length_append, List.length_cons, List.length_nil, List.length_take, List.length_drop] at *; omega))) ?_
        · as_aux_lemma => kernel_rfl
        · as_aux_lemma => kernel_rfl
        · as_aux_lemma => kernel_rfl
        refine QRUN 2 5 7 [(1, .p 0 0), (3, .v (.string (bs ([45])))), (21, .v (.string (bs ((([106, 111, 105, 110, 32]) ++ (Lib.itoa q.id)) ++ ([32]))))), (23, I q.cabin)] ?_ rfl ?_
        · as_aux_lemma => kernel_rfl
        have hr10 := itoa_len (n := q.cabin) (by first | assumption | exact wr_range _ | (unfold i64R at *; omega) | (simp only [i64R] at *; omega))
        refine QCALL 34 #[vi q.cabin] (some 24) ?_ (.string (bs (Lib.itoa q.cabin))) (fun w hw => iDigits_c w q.cabin (by first | assumption | exact wr_range _ | (unfold i64R at *; omega) | (simp only [i64R] at *; omega)) (htab.fr hw.fr)) (by rintro _ ⟨⟩; exact Nat.le_of_ble_eq_true rfl) ?_
        · as_aux_lemma => kernel_rfl
        refine QRUNV (.binOp .add 9 (.tmp 21) (.tmp 24) 9) 25 9 ?_ (Nat.le_of_ble_eq_true rfl) (.string (bs (((([106, 111, 105, 110, 32]) ++ (Lib.itoa q.id)) ++ ([32])) ++ (Lib.itoa q.cabin)))) (runs_scat (a := (([106, 111, 105, 110, 32]) ++ (Lib.itoa q.id)) ++ ([32])) (b := Lib.itoa q.cabin) ?_ ?_ (by first | omega | (simp only [List.length_append, List.length_cons, List.length_nil, List.length_take, List.length_drop] at *; omega))) ?_
        · as_aux_lemma => kernel_rfl
        · as_aux_lemma => kernel_rfl
        · as_aux_lemma => kernel_rfl
        refine QRUNV (.binOp .add 9 (.tmp 25) (.const (.string (bs ([32])))) 9) 26 9 ?_ (Nat.le_of_ble_eq_true rfl) (.string (bs ((((([106, 111, 105, 110, 32]) ++ (Lib.itoa q.id)) ++ ([32])) ++ (Lib.itoa q.cabin)) ++ ([32])))) (runs_scat (a := ((([106, 111, 105, 110, 32]) ++ (Lib.itoa q.id)) ++ ([32])) ++ (Lib.itoa q.cabin)) (b := [32]) ?_ ?_ (by first | omega | (simp only [List.length_append, List.length_cons, List.length_nil, List.length_take, List.length_drop] at *; omega))) ?_
        · as_aux_lemma => kernel_rfl
        · as_aux_lemma => kernel_rfl
        · as_aux_lemma => kernel_rfl
        refine QRUN 1 10 11 [(1, .p 0 0), (26, .v (.string (bs ((((([106, 111, 105, 110, 32]) ++ (Lib.itoa q.id)) ++ ([32])) ++ (Lib.itoa q.cabin)) ++ ([32]))))), (27, .v (.string (bs ([45]))))] ?_ rfl ?_
        · as_aux_lemma => kernel_rfl
        refine QRUNV (.binOp .add 9 (.tmp 26) (.tmp 27) 9) 28 9 ?_ (Nat.le_of_ble_eq_true rfl) (.string (bs (((((([106, 111, 105, 110, 32]) ++ (Lib.itoa q.id)) ++ ([32])) ++ (Lib.itoa q.cabin)) ++ ([32])) ++ ([45])))) (runs_scat (a := (((([106, 111, 105, 110, 32]) ++ (Lib.itoa q.id)) ++ ([32])) ++ (Lib.itoa q.cabin)) ++ ([32])) (b := [45]) ?_ ?_ (by first | omega | (simp only [List.length_append, List.length_cons, List.length_nil, List.length_take, List.length_drop] at *; omega))) ?_
        · as_aux_lemma => kernel_rfl
        · as_aux_lemma => kernel_rfl
        · as_aux_lemma => kernel_rfl
        refine QRUNV (.binOp .add 9 (.tmp 28) (.const (.string (bs ([32])))) 9) 29 9 ?_ (Nat.le_of_ble_eq_true rfl) (.string (bs ((((((([106, 111, 105, 110, 32]) ++ (Lib.itoa q.id)) ++ ([32])) ++ (Lib.itoa q.cabin)) ++ ([32])) ++ ([45])) ++ ([32])))) (runs_scat (a := ((((([106, 111, 105, 110, 32]) ++ (Lib.itoa q.id)) ++ ([32])) ++ (Lib.itoa q.cabin)) ++ ([32])) ++ ([45])) (b := [32]) ?_ ?_ (by first | omega | (simp only [List.length_append, List.length_cons, List.length_nil, List.length_take, List.length_drop] at *; omega))) ?_
        · as_aux_lemma => kernel_rfl
        · as_aux_lemma => kernel_rfl
        · as_aux_lemma => kernel_rfl
        refine QRUN 2 13 15 [(1, .p 0 0), (29, .v (.string (bs ((((((([106, 111, 105, 110, 32]) ++ (Lib.itoa q.id)) ++ ([32])) ++ (Lib.itoa q.cabin)) ++ ([32])) ++ ([45])) ++ ([32]))))), (31, I q.size)] ?_ rfl ?_
        · as_aux_lemma => kernel_rfl
        have hr11 := itoa_len (n := q.size) (by first | assumption | exact wr_range _ | (unfold i64R at *; omega) | (simp only [i64R] at *; omega))
        refine QCALL 34 #[vi q.size] (some 32) ?_ (.string (bs (Lib.itoa q.size))) (fun w hw => iDigits_c w q.size (by first | assumption | exact wr_range _ | (unfold i64R at *; omega) | (simp only [i64R] at *; omega)) (htab.fr hw.fr)) (by rintro _ ⟨⟩; exact Nat.le_of_ble_eq_true rfl) ?_
        · as_aux_lemma => kernel_rfl
        refine QRUNV (.binOp .add 9 (.tmp 29) (.tmp 32) 9) 33 9 ?_ (Nat.le_of_ble_eq_true rfl) (.string (bs (((((((([106, 111, 105, 110, 32]) ++ (Lib.itoa q.id)) ++ ([32])) ++ (Lib.itoa q.cabin)) ++ ([32])) ++ ([45])) ++ ([32])) ++ (Lib.itoa q.size)))) (runs_scat (a := (((((([106, 111, 105, 110, 32]) ++ (Lib.itoa q.id)) ++ ([32])) ++ (Lib.itoa q.cabin)) ++ ([32])) ++ ([45])) ++ ([32])) (b := Lib.itoa q.size) ?_ ?_ (by first | omega | (simp only [List.length_append, List.length_cons, List.length_nil, List.length_take, List.length_drop] at *; omega))) ?_
        · as_aux_lemma => kernel_rfl
        · as_aux_lemma => kernel_rfl
        · as_aux_lemma => kernel_rfl
        refine QRUNV (.binOp .add 9 (.tmp 33) (.const (.string (bs ([32])))) 9) 34 9 ?_ (Nat.le_of_ble_eq_true rfl) (.string (bs ((((((((([106, 111, 105, 110, 32]) ++ (Lib.itoa q.id)) ++ ([32])) ++ (Lib.itoa q.cabin)) ++ ([32])) ++ ([45])) ++ ([32])) ++ (Lib.itoa q.size)) ++ ([32])))) (runs_scat (a := ((((((([106, 111, 105, 110, 32]) ++ (Lib.itoa q.id)) ++ ([32])) ++ (Lib.itoa q.cabin)) ++ ([32])) ++ ([45])) ++ ([32])) ++ (Lib.itoa q.size)) (b := [32]) ?_ ?_ (by first | omega | (simp only [List.length_append, List.length_cons, List.length_nil, List.length_take, List.length_drop] at *; omega))) ?_
        · as_aux_lemma => kernel_rfl
        · as_aux_lemma => kernel_rfl
        · as_aux_lemma => kernel_rfl
        refine QRUN 2 18 20 [(34, .v (.string (bs ((((((((([106, 111, 105, 110, 32]) ++ (Lib.itoa q.id)) ++ ([32])) ++ (Lib.itoa q.cabin)) ++ ([32])) ++ ([45])) ++ ([32])) ++ (Lib.itoa q.size)) ++ ([32]))))), (36, I q.tier)] ?_ rfl ?_
        · as_aux_lemma => kernel_rfl
        have hr12 := itoa_len (n := q.tier) (by first | assumption | exact wr_range _ | (unfold i64R at *; omega) | (simp only [i64R] at *; omega))
        refine QCALL 34 #[vi q.tier] (some 37) ?_ (.string (bs (Lib.itoa q.tier))) (fun w hw => iDigits_c w q.tier (by first | assumption | exact wr_range _ | (unfold i64R at *; omega) | (simp only [i64R] at *; omega)) (htab.fr hw.fr)) (by rintro _ ⟨⟩; exact Nat.le_of_ble_eq_true rfl) ?_
        · as_aux_lemma => kernel_rfl
        refine QRUNV (.binOp .add 9 (.tmp 34) (.tmp 37) 9) 38 9 ?_ (Nat.le_of_ble_eq_true rfl) (.string (bs (((((((((([106, 111, 105, 110, 32]) ++ (Lib.itoa q.id)) ++ ([32])) ++ (Lib.itoa q.cabin)) ++ ([32])) ++ ([45])) ++ ([32])) ++ (Lib.itoa q.size)) ++ ([32])) ++ (Lib.itoa q.tier)))) (runs_scat (a := (((((((([106, 111, 105, 110, 32]) ++ (Lib.itoa q.id)) ++ ([32])) ++ (Lib.itoa q.cabin)) ++ ([32])) ++ ([45])) ++ ([32])) ++ (Lib.itoa q.size)) ++ ([32])) (b := Lib.itoa q.tier) ?_ ?_ (by first | omega | (simp only [List.length_append, List.length_cons, List.length_nil, List.length_take, List.length_drop] at *; omega))) ?_
        · as_aux_lemma => kernel_rfl
        · as_aux_lemma => kernel_rfl
        · as_aux_lemma => kernel_rfl
        refine QRUN 1 22 23 [(2, .v (.string (bs (((((((((([106, 111, 105, 110, 32]) ++ (Lib.itoa q.id)) ++ ([32])) ++ (Lib.itoa q.cabin)) ++ ([32])) ++ ([45])) ++ ([32])) ++ (Lib.itoa q.size)) ++ ([32])) ++ (Lib.itoa q.tier)))))] ?_ rfl ?_
        · as_aux_lemma => kernel_rfl
        refine QEND rfl (NEXT (RET (OUTR (PASS trivial (FIN (.string (bs (((((((((([106, 111, 105, 110, 32]) ++ (Lib.itoa q.id)) ++ ([32])) ++ (Lib.itoa q.cabin)) ++ ([32])) ++ ([45])) ++ ([32])) ++ (Lib.itoa q.size)) ++ ([32])) ++ (Lib.itoa q.tier)))) ?_ () ?_ [] ?_)))))
        · as_aux_lemma => kernel_rfl
        · (first | (simp [RV, reqLine, reqWord, reqWords, *]; done) | (have h7 : q.kind = 7 := (by omega); simp [RV, reqLine, reqWord, reqWords, *]; done) | (have h9 : ¬ q.from' = -1 := (by omega); simp [RV, reqLine, reqWord, reqWords, *]; done) | (have h9 : q.from' = -1 := (by omega); simp [RV, reqLine, reqWord, reqWords, *]))
        · rfl
    · -- q.kind == 1 = false
      have h2 := bh2
      have h2 := ne_of_beq_false h2
      refine SEQ (REGION [0, 1] rfl (RUN0 2 [] [(1, .p 0 0), (8, I q.kind), (39, B (q.kind == 2))] ?_ rfl ?_))
      · as_aux_lemma => kernel_rfl
      refine ENDOPS (NEXT (IF (q.kind == 2) ?_ (fun bh13 => ?_) (fun bh13 => ?_)))
      · as_aux_lemma => kernel_rfl
      · -- q.kind == 2 = true
        have h13 := bh13
        have h13 := eq_of_beq h13
        refine SEQ (REGION [0, 1, 2, 3, 4] rfl (RUN0 2 [2, 3, 4] [(42, I q.id)] ?_ rfl ?_))
        · as_aux_lemma => kernel_rfl
        refine OPC (CALL 34 #[vi q.id] (some 43) ?_ [] [] _ rfl (RV (.string (bs (Lib.itoa q.id)))) (fun w hw => iDigits_c w q.id (by first | assumption | exact wr_range _ | (unfold i64R at *; omega) | (simp only [i64R] at *; omega)) (htab.fr hw.fr)) (by rintro _ ⟨⟩; exact Nat.le_of_ble_eq_true rfl) ?_)
        · as_aux_lemma => kernel_rfl
        rintro ⟨⟩
        have hr14 := itoa_len (n := q.id) (by first | assumption | exact wr_range _ | (unfold i64R at *; omega) | (simp only [i64R] at *; omega))
        refine OPC (RUNV (.binOp .add 9 (.const (.string (bs ([99, 97, 110, 99, 101, 108, 32])))) (.tmp 43) 9) 44 9 ?_ (Nat.le_of_ble_eq_true rfl) (.string (bs (([99, 97, 110, 99, 101, 108, 32]) ++ (Lib.itoa q.id)))) (runs_scat (a := [99, 97, 110, 99, 101, 108, 32]) (b := Lib.itoa q.id) ?_ ?_ (by first | omega | (simp only [List.length_append, List.length_cons, List.length_nil, List.length_take, List.length_drop] at *; omega))) ?_)
        · as_aux_lemma => kernel_rfl
        · as_aux_lemma => kernel_rfl
        · as_aux_lemma => kernel_rfl
        refine RUN0 1 [] [(2, .v (.string (bs (([99, 97, 110, 99, 101, 108, 32]) ++ (Lib.itoa q.id)))))] ?_ rfl ?_
        · as_aux_lemma => kernel_rfl
        refine ENDOPS (NEXT (RET (OUTR (PASS trivial (FIN (.string (bs (([99, 97, 110, 99, 101, 108, 32]) ++ (Lib.itoa q.id)))) ?_ () ?_ [] ?_)))))
        · as_aux_lemma => kernel_rfl
        · (first | (simp [RV, reqLine, reqWord, reqWords, *]; done) | (have h7 : q.kind = 7 := (by omega); simp [RV, reqLine, reqWord, reqWords, *]; done) | (have h9 : ¬ q.from' = -1 := (by omega); simp [RV, reqLine, reqWord, reqWords, *]; done) | (have h9 : q.from' = -1 := (by omega); simp [RV, reqLine, reqWord, reqWords, *]))
        · rfl
      · -- q.kind == 2 = false
        have h13 := bh13
        have h13 := ne_of_beq_false h13
        refine SEQ (REGION [0, 1] rfl (RUN0 2 [] [(1, .p 0 0), (8, I q.kind), (45, B (q.kind == 3))] ?_ rfl ?_))
        · as_aux_lemma => kernel_rfl
        refine ENDOPS (NEXT (IF (q.kind == 3) ?_ (fun bh15 => ?_) (fun bh15 => ?_)))
        · as_aux_lemma => kernel_rfl
        · -- q.kind == 3 = true
          have h15 := bh15
          have h15 := eq_of_beq h15
          refine SEQ (REGIONQ ?_ ?_ ?_)
          · as_aux_lemma => kernel_rfl
          · as_aux_lemma => kernel_rfl
          refine QRUN 2 0 2 [(1, .p 0 0), (48, I q.cabin)] ?_ rfl ?_
          · as_aux_lemma => kernel_rfl
          have hr16 := itoa_len (n := q.cabin) (by first | assumption | exact wr_range _ | (unfold i64R at *; omega) | (simp only [i64R] at *; omega))
          refine QCALL 34 #[vi q.cabin] (some 49) ?_ (.string (bs (Lib.itoa q.cabin))) (fun w hw => iDigits_c w q.cabin (by first | assumption | exact wr_range _ | (unfold i64R at *; omega) | (simp only [i64R] at *; omega)) (htab.fr hw.fr)) (by rintro _ ⟨⟩; exact Nat.le_of_ble_eq_true rfl) ?_
          · as_aux_lemma => kernel_rfl
          refine QRUNV (.binOp .add 9 (.const (.string (bs ([102, 114, 101, 101, 32])))) (.tmp 49) 9) 50 9 ?_ (Nat.le_of_ble_eq_true rfl) (.string (bs (([102, 114, 101, 101, 32]) ++ (Lib.itoa q.cabin)))) (runs_scat (a := [102, 114, 101, 101, 32]) (b := Lib.itoa q.cabin) ?_ ?_ (by first | omega | (simp only [List.length_append, List.length_cons, List.length_nil, List.length_take, List.length_drop] at *; omega))) ?_
          · as_aux_lemma => kernel_rfl
          · as_aux_lemma => kernel_rfl
          · as_aux_lemma => kernel_rfl
          refine QRUNV (.binOp .add 9 (.tmp 50) (.const (.string (bs ([32])))) 9) 51 9 ?_ (Nat.le_of_ble_eq_true rfl) (.string (bs ((([102, 114, 101, 101, 32]) ++ (Lib.itoa q.cabin)) ++ ([32])))) (runs_scat (a := ([102, 114, 101, 101, 32]) ++ (Lib.itoa q.cabin)) (b := [32]) ?_ ?_ (by first | omega | (simp only [List.length_append, List.length_cons, List.length_nil, List.length_take, List.length_drop] at *; omega))) ?_
          · as_aux_lemma => kernel_rfl
          · as_aux_lemma => kernel_rfl
          · as_aux_lemma => kernel_rfl
          refine QRUN 2 5 7 [(51, .v (.string (bs ((([102, 114, 101, 101, 32]) ++ (Lib.itoa q.cabin)) ++ ([32]))))), (53, I q.size)] ?_ rfl ?_
          · as_aux_lemma => kernel_rfl
          have hr17 := itoa_len (n := q.size) (by first | assumption | exact wr_range _ | (unfold i64R at *; omega) | (simp only [i64R] at *; omega))
          refine QCALL 34 #[vi q.size] (some 54) ?_ (.string (bs (Lib.itoa q.size))) (fun w hw => iDigits_c w q.size (by first | assumption | exact wr_range _ | (unfold i64R at *; omega) | (simp only [i64R] at *; omega)) (htab.fr hw.fr)) (by rintro _ ⟨⟩; exact Nat.le_of_ble_eq_true rfl) ?_
          · as_aux_lemma => kernel_rfl
          refine QRUNV (.binOp .add 9 (.tmp 51) (.tmp 54) 9) 55 9 ?_ (Nat.le_of_ble_eq_true rfl) (.string (bs (((([102, 114, 101, 101, 32]) ++ (Lib.itoa q.cabin)) ++ ([32])) ++ (Lib.itoa q.size)))) (runs_scat (a := (([102, 114, 101, 101, 32]) ++ (Lib.itoa q.cabin)) ++ ([32])) (b := Lib.itoa q.size) ?_ ?_ (by first | omega | (simp only [List.length_append, List.length_cons, List.length_nil, List.length_take, List.length_drop] at *; omega))) ?_
          · as_aux_lemma => kernel_rfl
          · as_aux_lemma => kernel_rfl
          · as_aux_lemma => kernel_rfl
          refine QRUN 1 9 10 [(2, .v (.string (bs (((([102, 114, 101, 101, 32]) ++ (Lib.itoa q.cabin)) ++ ([32])) ++ (Lib.itoa q.size)))))] ?_ rfl ?_
          · as_aux_lemma => kernel_rfl
          refine QEND rfl (NEXT (RET (OUTR (PASS trivial (FIN (.string (bs (((([102, 114, 101, 101, 32]) ++ (Lib.itoa q.cabin)) ++ ([32])) ++ (Lib.itoa q.size)))) ?_ () ?_ [] ?_)))))
          · as_aux_lemma => kernel_rfl
          · (first | (simp [RV, reqLine, reqWord, reqWords, *]; done) | (have h7 : q.kind = 7 := (by omega); simp [RV, reqLine, reqWord, reqWords, *]; done) | (have h9 : ¬ q.from' = -1 := (by omega); simp [RV, reqLine, reqWord, reqWords, *]; done) | (have h9 : q.from' = -1 := (by omega); simp [RV, reqLine, reqWord, reqWords, *]))
          · rfl
        · -- q.kind == 3 = false
          have h15 := bh15
          have h15 := ne_of_beq_false h15
          refine SEQ (REGION [0, 1] rfl (RUN0 2 [] [(1, .p 0 0), (8, I q.kind), (56, B (q.kind == 4))] ?_ rfl ?_))
          · as_aux_lemma => kernel_rfl
          refine ENDOPS (NEXT (IF (q.kind == 4) ?_ (fun bh18 => ?_) (fun bh18 => ?_)))
          · as_aux_lemma => kernel_rfl
          · -- q.kind == 4 = true
            have h18 := bh18
            have h18 := eq_of_beq h18
            refine SEQ (REGION [0, 1, 2, 3, 4] rfl (RUN0 2 [2, 3, 4] [(59, I q.id)] ?_ rfl ?_))
            · as_aux_lemma => kernel_rfl
            refine OPC (CALL 34 #[vi q.id] (some 60) ?_ [] [] _ rfl (RV (.string (bs (Lib.itoa q.id)))) (fun w hw => iDigits_c w q.id (by first | assumption | exact wr_range _ | (unfold i64R at *; omega) | (simp only [i64R] at *; omega)) (htab.fr hw.fr)) (by rintro _ ⟨⟩; exact Nat.le_of_ble_eq_true rfl) ?_)
            · as_aux_lemma => kernel_rfl
            rintro ⟨⟩
            have hr19 := itoa_len (n := q.id) (by first | assumption | exact wr_range _ | (unfold i64R at *; omega) | (simp only [i64R] at *; omega))
            refine OPC (RUNV (.binOp .add 9 (.const (.string (bs ([97, 99, 99, 101, 112, 116, 32])))) (.tmp 60) 9) 61 9 ?_ (Nat.le_of_ble_eq_true rfl) (.string (bs (([97, 99, 99, 101, 112, 116, 32]) ++ (Lib.itoa q.id)))) (runs_scat (a := [97, 99, 99, 101, 112, 116, 32]) (b := Lib.itoa q.id) ?_ ?_ (by first | omega | (simp only [List.length_append, List.length_cons, List.length_nil, List.length_take, List.length_drop] at *; omega))) ?_)
            · as_aux_lemma => kernel_rfl
            · as_aux_lemma => kernel_rfl
            · as_aux_lemma => kernel_rfl
            refine RUN0 1 [] [(2, .v (.string (bs (([97, 99, 99, 101, 112, 116, 32]) ++ (Lib.itoa q.id)))))] ?_ rfl ?_
            · as_aux_lemma => kernel_rfl
            refine ENDOPS (NEXT (RET (OUTR (PASS trivial (FIN (.string (bs (([97, 99, 99, 101, 112, 116, 32]) ++ (Lib.itoa q.id)))) ?_ () ?_ [] ?_)))))
            · as_aux_lemma => kernel_rfl
            · (first | (simp [RV, reqLine, reqWord, reqWords, *]; done) | (have h7 : q.kind = 7 := (by omega); simp [RV, reqLine, reqWord, reqWords, *]; done) | (have h9 : ¬ q.from' = -1 := (by omega); simp [RV, reqLine, reqWord, reqWords, *]; done) | (have h9 : q.from' = -1 := (by omega); simp [RV, reqLine, reqWord, reqWords, *]))
            · rfl
          · -- q.kind == 4 = false
            have h18 := bh18
            have h18 := ne_of_beq_false h18
            refine SEQ (REGION [0, 1] rfl (RUN0 2 [] [(1, .p 0 0), (8, I q.kind), (62, B (q.kind == 5))] ?_ rfl ?_))
            · as_aux_lemma => kernel_rfl
            refine ENDOPS (NEXT (IF (q.kind == 5) ?_ (fun bh20 => ?_) (fun bh20 => ?_)))
            · as_aux_lemma => kernel_rfl
            · -- q.kind == 5 = true
              have h20 := bh20
              have h20 := eq_of_beq h20
              refine SEQ (REGION [0, 1, 2, 3, 4] rfl (RUN0 2 [2, 3, 4] [(65, I q.id)] ?_ rfl ?_))
              · as_aux_lemma => kernel_rfl
              refine OPC (CALL 34 #[vi q.id] (some 66) ?_ [] [] _ rfl (RV (.string (bs (Lib.itoa q.id)))) (fun w hw => iDigits_c w q.id (by first | assumption | exact wr_range _ | (unfold i64R at *; omega) | (simp only [i64R] at *; omega)) (htab.fr hw.fr)) (by rintro _ ⟨⟩; exact Nat.le_of_ble_eq_true rfl) ?_)
              · as_aux_lemma => kernel_rfl
              rintro ⟨⟩
              have hr21 := itoa_len (n := q.id) (by first | assumption | exact wr_range _ | (unfold i64R at *; omega) | (simp only [i64R] at *; omega))
              refine OPC (RUNV (.binOp .add 9 (.const (.string (bs ([100, 101, 99, 108, 105, 110, 101, 32])))) (.tmp 66) 9) 67 9 ?_ (Nat.le_of_ble_eq_true rfl) (.string (bs (([100, 101, 99, 108, 105, 110, 101, 32]) ++ (Lib.itoa q.id)))) (runs_scat (a := [100, 101, 99, 108, 105, 110, 101, 32]) (b := Lib.itoa q.id) ?_ ?_ (by first | omega | (simp only [List.length_append, List.length_cons, List.length_nil, List.length_take, List.length_drop] at *; omega))) ?_)
              · as_aux_lemma => kernel_rfl
              · as_aux_lemma => kernel_rfl
              · as_aux_lemma => kernel_rfl
              refine RUN0 1 [] [(2, .v (.string (bs (([100, 101, 99, 108, 105, 110, 101, 32]) ++ (Lib.itoa q.id)))))] ?_ rfl ?_
              · as_aux_lemma => kernel_rfl
              refine ENDOPS (NEXT (RET (OUTR (PASS trivial (FIN (.string (bs (([100, 101, 99, 108, 105, 110, 101, 32]) ++ (Lib.itoa q.id)))) ?_ () ?_ [] ?_)))))
              · as_aux_lemma => kernel_rfl
              · (first | (simp [RV, reqLine, reqWord, reqWords, *]; done) | (have h7 : q.kind = 7 := (by omega); simp [RV, reqLine, reqWord, reqWords, *]; done) | (have h9 : ¬ q.from' = -1 := (by omega); simp [RV, reqLine, reqWord, reqWords, *]; done) | (have h9 : q.from' = -1 := (by omega); simp [RV, reqLine, reqWord, reqWords, *]))
              · rfl
            · -- q.kind == 5 = false
              have h20 := bh20
              have h20 := ne_of_beq_false h20
              refine SEQ (REGION [0, 1] rfl (RUN0 2 [] [(1, .p 0 0), (68, B (q.kind == 6))] ?_ rfl ?_))
              · as_aux_lemma => kernel_rfl
              refine ENDOPS (NEXT (IF (q.kind == 6) ?_ (fun bh22 => ?_) (fun bh22 => ?_)))
              · as_aux_lemma => kernel_rfl
              · -- q.kind == 6 = true
                have h22 := bh22
                have h22 := eq_of_beq h22
                refine SEQ (REGION [0] rfl (RUN0 1 [] [(2, .v (.string (bs ([116, 105, 99, 107]))))] ?_ rfl ?_))
                · as_aux_lemma => kernel_rfl
                refine ENDOPS (NEXT (RET (OUTR (PASS trivial (FIN (.string (bs ([116, 105, 99, 107]))) ?_ () ?_ [] ?_)))))
                · as_aux_lemma => kernel_rfl
                · (first | (simp [RV, reqLine, reqWord, reqWords, *]; done) | (have h7 : q.kind = 7 := (by omega); simp [RV, reqLine, reqWord, reqWords, *]; done) | (have h9 : ¬ q.from' = -1 := (by omega); simp [RV, reqLine, reqWord, reqWords, *]; done) | (have h9 : q.from' = -1 := (by omega); simp [RV, reqLine, reqWord, reqWords, *]))
                · rfl
              · -- q.kind == 6 = false
                have h22 := bh22
                have h22 := ne_of_beq_false h22
                refine SKIP (OUTN (NEXT (SEQ (REGION [0, 1, 2, 3, 4] rfl (RUN0 2 [2, 3, 4] [(71, I q.id)] ?_ rfl ?_)))))
                · as_aux_lemma => kernel_rfl
                refine OPC (CALL 34 #[vi q.id] (some 72) ?_ [] [] _ rfl (RV (.string (bs (Lib.itoa q.id)))) (fun w hw => iDigits_c w q.id (by first | assumption | exact wr_range _ | (unfold i64R at *; omega) | (simp only [i64R] at *; omega)) (htab.fr hw.fr)) (by rintro _ ⟨⟩; exact Nat.le_of_ble_eq_true rfl) ?_)
                · as_aux_lemma => kernel_rfl
                rintro ⟨⟩
                have hr23 := itoa_len (n := q.id) (by first | assumption | exact wr_range _ | (unfold i64R at *; omega) | (simp only [i64R] at *; omega))
                refine OPC (RUNV (.binOp .add 9 (.const (.string (bs ([112, 105, 99, 107, 32])))) (.tmp 72) 9) 73 9 ?_ (Nat.le_of_ble_eq_true rfl) (.string (bs (([112, 105, 99, 107, 32]) ++ (Lib.itoa q.id)))) (runs_scat (a := [112, 105, 99, 107, 32]) (b := Lib.itoa q.id) ?_ ?_ (by first | omega | (simp only [List.length_append, List.length_cons, List.length_nil, List.length_take, List.length_drop] at *; omega))) ?_)
                · as_aux_lemma => kernel_rfl
                · as_aux_lemma => kernel_rfl
                · as_aux_lemma => kernel_rfl
                refine RUN0 1 [] [(2, .v (.string (bs (([112, 105, 99, 107, 32]) ++ (Lib.itoa q.id)))))] ?_ rfl ?_
                · as_aux_lemma => kernel_rfl
                refine ENDOPS (NEXT (RET (FIN (.string (bs (([112, 105, 99, 107, 32]) ++ (Lib.itoa q.id)))) ?_ () ?_ [] ?_)))
                · as_aux_lemma => kernel_rfl
                · (first | (simp [RV, reqLine, reqWord, reqWords, *]; done) | (have h7 : q.kind = 7 := (by omega); simp [RV, reqLine, reqWord, reqWords, *]; done) | (have h9 : ¬ q.from' = -1 := (by omega); simp [RV, reqLine, reqWord, reqWords, *]; done) | (have h9 : q.from' = -1 := (by omega); simp [RV, reqLine, reqWord, reqWords, *]))
                · rfl

theorem iReplyLine_c (W : World) (r : Reply) (r_ids_a : Option Addr) (r_ids_c : Nat) (hr_ids : Rd intL W r_ids_a r.ids) (hr : ∀ x ∈ r.ids, i64R x) (hb : r.ids.length ≤ 1048576) (htab : Tab Tryd.prog W) : Spec Tryd.prog W [] 11 #[.agg #[vi r.code, .slice r_ids_a r.ids.length r_ids_c]] (RV (.string (bs (replyLine r)))) := by
  refine ENTER0 (N := 23) (vs := [.agg #[vi r.code, .slice r_ids_a r.ids.length r_ids_c]]) Tryd.func11 rfl rfl (Nat.le_of_ble_eq_true rfl) ?_
  have hr_ids_len := hr_ids.len
  refine SEQ (REGION [0, 1] rfl (RUN 2 [] [(1, .p 0 0)] [(27, [vi r.code, .slice r_ids_a r.ids.length r_ids_c])] ?_ rfl ?_))
  · as_aux_lemma => kernel_rfl
  refine ENDOPS (NEXT (SEQ (REGION [0, 1, 2, 3] rfl (RUN0 2 [2, 3] [(1, .p 0 0), (7, I r.code)] ?_ rfl ?_))))
  · as_aux_lemma => kernel_rfl
  refine OPC (CALL 33 #[vi r.code] (some 8) ?_ [] [] _ rfl (RV (.string (bs (codeWord r.code)))) (fun w hw => iCodeWord_c w r.code) (by rintro _ ⟨⟩; exact Nat.le_of_ble_eq_true rfl) ?_)
  · as_aux_lemma => kernel_rfl
  rintro ⟨⟩
  have hr1 := codeWord_len r.code
  refine RUN0 1 [] [(1, .p 0 0), (3, .v (.string (bs (codeWord r.code))))] ?_ rfl ?_
  · as_aux_lemma => kernel_rfl
  refine ENDOPS (NEXT (SEQ (SEQ (REGION [0, 1, 2, 3] rfl (RUN0 4 [] [(3, .v (.string (bs (codeWord r.code)))), (10, .v (.slice r_ids_a r.ids.length r_ids_c)), (11, I (r.ids.length : Int)), (12, I 0)] ?_ rfl ?_)))))
  · as_aux_lemma => kernel_rfl
  refine ENDOPS (NEXT (BLOCK (LOOP (ι := Nat × (List Int) × (List UInt8)) (fun j => [(3, .v (.string (bs j.2.2))), (10, .v (.slice r_ids_a r.ids.length r_ids_c)), (11, I (r.ids.length : Int)), (12, I (j.1 : Int))]) (fun j => [(27, [vi r.code, .slice r_ids_a r.ids.length r_ids_c])]) (fun j => []) (fun j => j.1 + j.2.1.length = r.ids.length ∧ r.ids.drop j.1 = j.2.1 ∧ replyLine r = joinSp j.2.2 j.2.1 ∧ j.2.2.length ≤ 5 + 22 * j.1) (fun j => j.2.1.length) (0, r.ids, codeWord r.code) [3, 10, 11, 12] ⟨by simp, rfl, rfl, by omega⟩ ?_ rfl rfl ?_)))
  · as_aux_lemma => kernel_rfl
  rintro ⟨k, ys, out⟩ ⟨hk, hd, hv0, hv1⟩
  dsimp only at hk hd hv0 hv1
  refine SEQ (REGION [0] rfl (RUN0 1 [] [(3, .v (.string (bs out))), (10, .v (.slice r_ids_a r.ids.length r_ids_c)), (11, I (r.ids.length : Int)), (12, I (k : Int)), (13, B (decide ((k : Int) < (r.ids.length : Int))))] ?_ rfl ?_))
  · as_aux_lemma => kernel_rfl
  refine ENDOPS (NEXT (SEQ (IF (decide ((k : Int) < (r.ids.length : Int))) ?_ (fun bh2 => ?_) (fun bh2 => ?_))))
  · as_aux_lemma => kernel_rfl
  · -- decide ((k : Int) < (r.ids.length : Int)) = true
    have h2 := bh2
    have h2 := of_decide_eq_true h2
    obtain ⟨y3, ys4, rfl, hx_y3, hd_y3, hl_y3⟩ := drop_cons hd hk (by omega)
    have hr_y3 : i64R y3 := hr _ (List.mem_of_getElem? hx_y3)
    refine SKIP (NEXT (SEQ (BLOCK (SEQ (REGION [0, 1, 2] rfl (OPC (INDEX 22 (.tmp 10) (.tmp 12) 14 0 ?_ (Nat.le_of_ble_eq_true rfl) r_ids_a r.ids.length r_ids_c .i64 (k : Int) 3 1 ?_ ?_ ?_ ?_ (Rd.some hr_ids (by omega)) (by omega) (by omega) ?_)))))))
    · as_aux_lemma => kernel_rfl
    · as_aux_lemma => kernel_rfl
    · as_aux_lemma => kernel_rfl
    · as_aux_lemma => kernel_rfl
    · as_aux_lemma => kernel_rfl
    refine OPC (LOADE 3 (.tmp 14) 15 3 ?_ (Nat.le_of_ble_eq_true rfl) r_ids_a (k * 1) 0 [vi y3] (vi y3) ?_ (fun w hw => (hr_ids.fr hw.fr).flat hx_y3) ?_ ?_)
    · as_aux_lemma => kernel_rfl
    · as_aux_lemma => kernel_rfl
    · as_aux_lemma => kernel_rfl
    refine RUN0 1 [] [(3, .v (.string (bs out))), (5, I y3), (10, .v (.slice r_ids_a r.ids.length r_ids_c)), (11, I (r.ids.length : Int)), (12, I (k : Int))] ?_ rfl ?_
    · as_aux_lemma => kernel_rfl
    refine ENDOPS (NEXT (REGION [0, 1, 2, 3, 4, 5] rfl (RUN0 2 [2, 3, 4, 5] [(10, .v (.slice r_ids_a r.ids.length r_ids_c)), (11, I (r.ids.length : Int)), (12, I (k : Int)), (16, .v (.string (bs out))), (17, I y3)] ?_ rfl ?_)))
    · as_aux_lemma => kernel_rfl
    refine OPC (CALL 34 #[vi y3] (some 18) ?_ [] [] _ rfl (RV (.string (bs (Lib.itoa y3)))) (fun w hw => iDigits_c w y3 (by first | assumption | exact wr_range _ | (unfold i64R at *; omega) | (simp only [i64R] at *; omega)) (htab.fr hw.fr)) (by rintro _ ⟨⟩; exact Nat.le_of_ble_eq_true rfl) ?_)
    · as_aux_lemma => kernel_rfl
    rintro ⟨⟩
    have hr5 := itoa_len (n := y3) (by first | assumption | exact wr_range _ | (unfold i64R at *; omega) | (simp only [i64R] at *; omega))
    refine OPC (RUNV (.binOp .add 9 (.const (.string (bs ([32])))) (.tmp 18) 9) 19 9 ?_ (Nat.le_of_ble_eq_true rfl) (.string (bs (([32]) ++ (Lib.itoa y3)))) (runs_scat (a := [32]) (b := Lib.itoa y3) ?_ ?_ (by first | omega | (simp only [List.length_append, List.length_cons, List.length_nil, List.length_take, List.length_drop] at *; omega))) ?_)
    · as_aux_lemma => kernel_rfl
    · as_aux_lemma => kernel_rfl
    · as_aux_lemma => kernel_rfl
    refine OPC (RUNV (.binOp .add 9 (.tmp 16) (.tmp 19) 9) 20 9 ?_ (Nat.le_of_ble_eq_true rfl) (.string (bs (out ++ (([32]) ++ (Lib.itoa y3))))) (runs_scat (a := out) (b := ([32]) ++ (Lib.itoa y3)) ?_ ?_ (by first | omega | (simp only [List.length_append, List.length_cons, List.length_nil, List.length_take, List.length_drop] at *; omega))) ?_)
    · as_aux_lemma => kernel_rfl
    · as_aux_lemma => kernel_rfl
    · as_aux_lemma => kernel_rfl
    refine RUN0 1 [] [(3, .v (.string (bs (out ++ (([32]) ++ (Lib.itoa y3)))))), (10, .v (.slice r_ids_a r.ids.length r_ids_c)), (11, I (r.ids.length : Int)), (12, I (k : Int))] ?_ rfl ?_
    · as_aux_lemma => kernel_rfl
    refine ENDOPS (OUTN (NEXT (REGION [0, 1] rfl (RUN0 1 [1] [(3, .v (.string (bs (out ++ (([32]) ++ (Lib.itoa y3)))))), (10, .v (.slice r_ids_a r.ids.length r_ids_c)), (11, I (r.ids.length : Int)), (21, I (wr ((k : Int) + 1)))] ?_ rfl ?_))))
    · as_aux_lemma => kernel_rfl
    refine CAST (d := 21) (vi (wr ((k : Int) + 1))) (vi ((k + 1 : Nat) : Int)) ?_ (vi_cast (by omega) (by omega)) ?_
    · as_aux_lemma => kernel_rfl
    refine RUN0 1 [] [(3, .v (.string (bs (out ++ (([32]) ++ (Lib.itoa y3)))))), (10, .v (.slice r_ids_a r.ids.length r_ids_c)), (11, I (r.ids.length : Int)), (12, I ((k + 1 : Nat) : Int))] ?_ rfl ?_
    · as_aux_lemma => kernel_rfl
    refine ENDOPS (BACK (k + 1, ys4, out ++ (([32]) ++ (Lib.itoa y3))) [3, 10, 11, 12] 1 [] _ ⟨hl_y3, hd_y3, hv0.trans (by simp [joinSp]), (by simp only [List.length_append, List.length_cons, List.length_nil]; omega)⟩ (by simp) ?_ rfl rfl rfl)
    · as_aux_lemma => kernel_rfl
  · -- decide ((k : Int) < (r.ids.length : Int)) = false
    have h2 := bh2
    have h2 := of_decide_eq_false h2
    obtain rfl := drop_nil hk (by omega)
    refine EXIT (PASS trivial (PASS trivial (OUT (NEXT (SEQ (REGION [0, 1] rfl (RUN0 2 [] [(2, .v (.string (bs out)))] ?_ rfl ?_)))))))
    · as_aux_lemma => kernel_rfl
    refine ENDOPS (NEXT (RET (FIN (.string (bs out)) ?_ () ?_ [] ?_)))
    · as_aux_lemma => kernel_rfl
    · (simp_all [RV, joinSp])
    · rfl

theorem join_c (W : World) (xs : List (List UInt8)) (xs_a : Option Addr) (xs_c : Nat) (hxs : Rd strL W xs_a xs) (sep : List UInt8) (hc : xs.length ≤ xs_c) (hl : (Lib.join xs sep).length ≤ 140737488355328) (hn : xs.length ≤ 140737488355328) : Spec Tryd.prog W [] 39 #[.slice xs_a xs.length xs_c, .string (bs sep)] (RV (.string (bs (Lib.join xs sep)))) := Spec.joined hxs hc hl hn (fun bk o c xs sep => Tryd.strings_Join bk o c xs sep W) (fun a c sep => Tryd.strings_Join_none a c sep W)

theorem iScriptText_c (W : World) (list : List Req) (list_a : Option Addr) (list_c : Nat) (hlist : Rd reqL W list_a list) (htab : Tab Tryd.prog W) : Spec Tryd.prog W [] 16 #[.slice list_a list.length list_c] (RV (.string (bs (scriptText list)))) := by
  refine ENTER0 (N := 27) (vs := [.slice list_a list.length list_c]) Tryd.func16 rfl rfl (Nat.le_of_ble_eq_true rfl) ?_
  have hlist_len := hlist.len
  refine SEQ (REGION [0] rfl (RUN0 1 [] [(0, .v (.slice list_a list.length list_c))] ?_ rfl ?_))
  · as_aux_lemma => kernel_rfl
  refine ENDOPS (NEXT (SEQ (SEQ (REGION [0, 1, 2] rfl (RUN0 3 [] [(0, .v (.slice list_a list.length list_c)), (9, B (decide ((list.length : Int) > 200)))] ?_ rfl ?_)))))
  · as_aux_lemma => kernel_rfl
  refine ENDOPS (NEXT (IF (decide ((list.length : Int) > 200)) ?_ (fun bh1 => ?_) (fun bh1 => ?_)))
  · as_aux_lemma => kernel_rfl
  · -- decide ((list.length : Int) > 200) = true
    have h1 := bh1
    have h1 := of_decide_eq_true h1
    have hB : 200 < list.length := by omega
    refine SEQ (REGION [0] rfl (RUN0 1 [] [(2, .v (.string (bs ([]))))] ?_ rfl ?_))
    · as_aux_lemma => kernel_rfl
    refine ENDOPS (NEXT (RET (PASS trivial (FIN (.string (bs ([]))) ?_ () ?_ [] ?_))))
    · as_aux_lemma => kernel_rfl
    · (first | (simp [RV, scriptText, *]; done) | (simp only [RV]; rw [scriptText_of hB, hv0]; simp [linesGo, *]))
    · rfl
  · -- decide ((list.length : Int) > 200) = false
    have h1 := bh1
    have h1 := of_decide_eq_false h1
    have hB : ¬ 200 < list.length := by omega
    refine SKIP (NEXT (SEQ (REGION [0] rfl (RUN0 1 [] [(0, .v (.slice list_a list.length list_c)), (3, .v (.slice none 0 0))] ?_ rfl ?_))))
    · as_aux_lemma => kernel_rfl
    refine ENDOPS (NEXT (SEQ (SEQ (REGION [0, 1, 2] rfl (RUN0 3 [] [(3, .v (.slice none 0 0)), (10, .v (.slice list_a list.length list_c)), (11, I (list.length : Int)), (12, I 0)] ?_ rfl ?_)))))
    · as_aux_lemma => kernel_rfl
    refine ENDOPS (NEXT (BLOCK (NIL 9 strL ?_)))
    refine LOOP (ι := Nat × (List Req) × (Option Addr) × Nat × (List (List UInt8))) (fun j => [(3, .v (.slice j.2.2.1 j.2.2.2.2.length j.2.2.2.1)), (10, .v (.slice list_a list.length list_c)), (11, I (list.length : Int)), (12, I (j.1 : Int))]) (fun j => []) (fun j => [slA 9 strL (.slice j.2.2.1 j.2.2.2.2.length j.2.2.2.1) j.2.2.2.2]) (fun j => j.1 + j.2.1.length = list.length ∧ list.drop j.1 = j.2.1 ∧ linesGo [] list = linesGo j.2.2.2.2 j.2.1 ∧ j.2.2.2.2.length = j.1 ∧ ∀ x ∈ j.2.2.2.2, x.length ≤ 200) (fun j => j.2.1.length) (0, list, none, 0, []) [3, 10, 11, 12] ⟨by simp, rfl, rfl, rfl, by simp⟩ ?_ rfl rfl ?_
    · as_aux_lemma => kernel_rfl
    rintro ⟨k, ys, oa, oc, out⟩ ⟨hk, hd, hv0, hv1, hv2⟩
    dsimp only at hk hd hv0 hv1 hv2
    refine SEQ (REGION [0] rfl (RUN0 1 [] [(3, .v (.slice oa out.length oc)), (10, .v (.slice list_a list.length list_c)), (11, I (list.length : Int)), (12, I (k : Int)), (13, B (decide ((k : Int) < (list.length : Int))))] ?_ rfl ?_))
    · as_aux_lemma => kernel_rfl
    refine ENDOPS (NEXT (SEQ (IF (decide ((k : Int) < (list.length : Int))) ?_ (fun bh2 => ?_) (fun bh2 => ?_))))
    · as_aux_lemma => kernel_rfl
    · -- decide ((k : Int) < (list.length : Int)) = true
      have h2 := bh2
      have h2 := of_decide_eq_true h2
      obtain ⟨y3, ys4, rfl, hx_y3, hd_y3, hl_y3⟩ := drop_cons hd hk (by omega)
      refine SKIP (NEXT (SEQ (BLOCK (SEQ (REGION [0, 1, 2, 3] rfl (OPC (INDEX 34 (.tmp 10) (.tmp 12) 14 0 ?_ (Nat.le_of_ble_eq_true rfl) list_a list.length list_c .i64 (k : Int) 47 6 ?_ ?_ ?_ ?_ (Rd.some hlist (by omega)) (by omega) (by omega) ?_)))))))
      · as_aux_lemma => kernel_rfl
      · as_aux_lemma => kernel_rfl
      · as_aux_lemma => kernel_rfl
      · as_aux_lemma => kernel_rfl
      · as_aux_lemma => kernel_rfl
      refine OPC (LOADE 47 (.tmp 14) 15 47 ?_ (Nat.le_of_ble_eq_true rfl) list_a (k * 6) 0 [vi y3.kind, vi y3.id, vi y3.cabin, vi y3.from', vi y3.size, vi y3.tier] (.agg #[vi y3.kind, vi y3.id, vi y3.cabin, vi y3.from', vi y3.size, vi y3.tier]) ?_ (fun w hw => (hlist.fr hw.fr).flat hx_y3) ?_ ?_)
      · as_aux_lemma => kernel_rfl
      · as_aux_lemma => kernel_rfl
      · as_aux_lemma => kernel_rfl
      refine RUN 2 [] [(3, .v (.slice oa out.length oc)), (5, .p 0 0), (10, .v (.slice list_a list.length list_c)), (11, I (list.length : Int)), (12, I (k : Int))] [(47, [vi y3.kind, vi y3.id, vi y3.cabin, vi y3.from', vi y3.size, vi y3.tier])] ?_ rfl ?_
      · as_aux_lemma => kernel_rfl
      refine ENDOPS (NEXT (SEQ (REGION [0, 1, 2] rfl (RUN0 1 [1, 2] [(3, .v (.slice oa out.length oc)), (10, .v (.slice list_a list.length list_c)), (11, I (list.length : Int)), (12, I (k : Int)), (16, .v (.agg #[vi y3.kind, vi y3.id, vi y3.cabin, vi y3.from', vi y3.size, vi y3.tier]))] ?_ rfl ?_))))
      · as_aux_lemma => kernel_rfl
      refine OPC (CALL 38 #[.agg #[vi y3.kind, vi y3.id, vi y3.cabin, vi y3.from', vi y3.size, vi y3.tier]] (some 17) ?_ [] [] _ rfl (RV (.string (bs (reqLine y3)))) (fun w hw => iReqLine_c w y3 (htab.fr hw.fr)) (by rintro _ ⟨⟩; exact Nat.le_of_ble_eq_true rfl) ?_)
      · as_aux_lemma => kernel_rfl
      rintro ⟨⟩
      have hr5 := reqLine_len y3
      refine RUN0 1 [] [(3, .v (.slice oa out.length oc)), (6, .v (.string (bs (reqLine y3)))), (10, .v (.slice list_a list.length list_c)), (11, I (list.length : Int)), (12, I (k : Int))] ?_ rfl ?_
      · as_aux_lemma => kernel_rfl
      refine ENDOPS (NEXT (SEQ (SEQ (REGION [0, 1] rfl (RUN0 1 [1] [(3, .v (.slice oa out.length oc)), (6, .v (.string (bs (reqLine y3)))), (10, .v (.slice list_a list.length list_c)), (11, I (list.length : Int)), (12, I (k : Int)), (18, .v (.string (bs (reqLine y3))))] ?_ rfl ?_)))))
      · as_aux_lemma => kernel_rfl
      refine OPC (RUNV (.binOp .eql 9 (.tmp 18) (.const (.string (bs ([])))) 9) 19 4 ?_ (Nat.le_of_ble_eq_true rfl) (.bool ((reqLine y3) == ([]))) (runs_seql (a := reqLine y3) (b := []) ?_ ?_) ?_)
      · as_aux_lemma => kernel_rfl
      · as_aux_lemma => kernel_rfl
      · as_aux_lemma => kernel_rfl
      refine ENDOPS (NEXT (IF ((reqLine y3) == ([])) ?_ (fun bh6 => ?_) (fun bh6 => ?_)))
      · as_aux_lemma => kernel_rfl
      · -- (reqLine y3) == ([]) = true
        have h6 := bh6
        have h6 := eq_of_beq h6
        refine SEQ (REGION [0] rfl (RUN0 1 [] [(2, .v (.string (bs ([]))))] ?_ rfl ?_))
        · as_aux_lemma => kernel_rfl
        refine ENDOPS (NEXT (RET (PASS trivial (OUTR (PASS trivial (PASS trivial (OUTR (PASS trivial (FIN (.string (bs ([]))) ?_ () ?_ [] ?_)))))))))
        · as_aux_lemma => kernel_rfl
        · (first | (simp [RV, scriptText, *]; done) | (simp only [RV]; rw [scriptText_of hB, hv0]; simp [linesGo, *]))
        · rfl
      · -- (reqLine y3) == ([]) = false
        have h6 := bh6
        have h6 := ne_of_beq_false h6
        refine SKIP (NEXT (REGION [0, 1, 2, 3, 4] rfl (RUN0 2 [2, 3, 4] [(10, .v (.slice list_a list.length list_c)), (11, I (list.length : Int)), (12, I (k : Int)), (20, .v (.slice oa out.length oc)), (21, .v (.string (bs (reqLine y3))))] ?_ rfl ?_)))
        · as_aux_lemma => kernel_rfl
        refine OPC (BUILDS 41 1 #[(0, .tmp 21)] 22 41 ?_ (Nat.le_of_ble_eq_true rfl) 9 [.string (bs (reqLine y3))] ?_ strL ([reqLine y3] : List (List UInt8)) rfl (by simp only [maxLen]; omega) [] [] _ rfl (flatRep rfl) (fun a7 ha8 => ?_))
        · as_aux_lemma => kernel_rfl
        · as_aux_lemma => kernel_rfl
        refine OPC (APPENDO 41 (.tmp 20) (.tmp 22) 23 41 ?_ (Nat.le_of_ble_eq_true rfl) (.slice oa out.length oc) a7 1 1 ?_ ?_ ha8 9 ?_ strL (.string (bs [])) 16 ?_ rfl (by decide) 0 0 out ([reqLine y3] : List (List UInt8)) _ rfl rfl (by first | omega | (simp only [List.length_append, List.length_cons, List.length_nil, List.length_take, List.length_drop] at *; omega)) (by simp only [maxLen]; first | omega | (simp only [List.length_append, List.length_cons, List.length_nil, List.length_take, List.length_drop] at *; omega)) (fun a9 c10 hn11 => ?_))
        · as_aux_lemma => kernel_rfl
        · as_aux_lemma => kernel_rfl
        · as_aux_lemma => kernel_rfl
        · as_aux_lemma => kernel_rfl
        · as_aux_lemma => kernel_rfl
        refine RUN0 1 [] [(3, .v (.slice a9 ((out ++ ([reqLine y3] : List (List UInt8))).length) c10)), (10, .v (.slice list_a list.length list_c)), (11, I (list.length : Int)), (12, I (k : Int))] ?_ rfl ?_
        · as_aux_lemma => kernel_rfl
        refine ENDOPS (OUTN (NEXT (REGION [0, 1] rfl (RUN0 1 [1] [(3, .v (.slice a9 ((out ++ ([reqLine y3] : List (List UInt8))).length) c10)), (10, .v (.slice list_a list.length list_c)), (11, I (list.length : Int)), (24, I (wr ((k : Int) + 1)))] ?_ rfl ?_))))
        · as_aux_lemma => kernel_rfl
        refine CAST (d := 24) (vi (wr ((k : Int) + 1))) (vi ((k + 1 : Nat) : Int)) ?_ (vi_cast (by omega) (by omega)) ?_
        · as_aux_lemma => kernel_rfl
        refine RUN0 1 [] [(3, .v (.slice a9 ((out ++ ([reqLine y3] : List (List UInt8))).length) c10)), (10, .v (.slice list_a list.length list_c)), (11, I (list.length : Int)), (12, I ((k + 1 : Nat) : Int))] ?_ rfl ?_
        · as_aux_lemma => kernel_rfl
        refine ENDOPS (BACK (k + 1, ys4, a9, c10, out ++ ([reqLine y3] : List (List UInt8))) [3, 10, 11, 12] 0 [0] _ ⟨hl_y3, hd_y3, hv0.trans (by simp [linesGo, *]), (by simp only [List.length_append, List.length_cons, List.length_nil]; omega), (fun x hx => (List.mem_append.1 hx).elim (hv2 x) (fun hx => by simp at hx; subst hx; assumption))⟩ (by simp) ?_ rfl rfl rfl)
        · as_aux_lemma => kernel_rfl
    · -- decide ((k : Int) < (list.length : Int)) = false
      have h2 := bh2
      have h2 := of_decide_eq_false h2
      obtain rfl := drop_nil hk (by omega)
      refine EXIT (PASS trivial (PASS trivial (OUT (NEXT (SEQ (REGION [0, 1, 2] rfl (RUN0 1 [1, 2] [(25, .v (.slice oa out.length oc))] ?_ rfl ?_)))))))
      · as_aux_lemma => kernel_rfl
      refine FACT (out.length ≤ oc) (fun w hw => SlO.capE (hw.own 0 rfl)) (fun hcap12 => ?_)
      refine OPC (CALL 39 #[.slice oa out.length oc, .string (bs ([10]))] (some 26) ?_ [] [] _ rfl (RV (.string (bs (Lib.join out ([10]))))) (fun w hw => join_c w out oa oc (Rd.own (hw.own 0 rfl)) ([10]) (by omega) (by first | assumption | (have h9 := join_len out 200 (by assumption); omega)) (by omega)) (by rintro _ ⟨⟩; exact Nat.le_of_ble_eq_true rfl) ?_)
      · as_aux_lemma => kernel_rfl
      rintro ⟨⟩
      refine RUN0 1 [] [(2, .v (.string (bs (Lib.join out ([10])))))] ?_ rfl ?_
      · as_aux_lemma => kernel_rfl
      refine ENDOPS (NEXT (RET (FIN (.string (bs (Lib.join out ([10])))) ?_ () ?_ [] ?_)))
      · as_aux_lemma => kernel_rfl
      · (first | (simp [RV, scriptText, *]; done) | (simp only [RV]; rw [scriptText_of hB, hv0]; simp [linesGo, *]))
      · rfl

theorem exReplyLine_c (W : World) (aR : Reply) (aR_ids_a : Option Addr) (aR_ids_c : Nat) (haR_ids : Rd intL W aR_ids_a aR.ids) (hr : ∀ x ∈ aR.ids, i64R x) (htab : Tab Tryd.prog W) : Spec Tryd.prog W [] 3 #[.agg #[vi aR.code, .slice aR_ids_a aR.ids.length aR_ids_c]] (RV (.bool true)) := by
  refine ENTER0 (N := 27) (vs := [.agg #[vi aR.code, .slice aR_ids_a aR.ids.length aR_ids_c]]) Tryd.func3 rfl rfl (Nat.le_of_ble_eq_true rfl) ?_
  have haR_ids_len := haR_ids.len
  refine SEQ (REGION [0, 1] rfl (RUN 2 [] [(1, .p 0 0)] [(24, [vi aR.code, .slice aR_ids_a aR.ids.length aR_ids_c])] ?_ rfl ?_))
  · as_aux_lemma => kernel_rfl
  refine ENDOPS (NEXT (SEQ (REGION [0] rfl (RUN0 1 [] [(1, .p 0 0), (3, I 1048576)] ?_ rfl ?_))))
  · as_aux_lemma => kernel_rfl
  refine ENDOPS (NEXT (SEQ (REGION [0, 1, 2, 3] rfl (RUN0 2 [2, 3] [(1, .p 0 0), (7, .v (.agg #[vi aR.code, .slice aR_ids_a aR.ids.length aR_ids_c])), (8, I 1048576)] ?_ rfl ?_))))
  · as_aux_lemma => kernel_rfl
  refine OPC (CALL 8 #[.agg #[vi aR.code, .slice aR_ids_a aR.ids.length aR_ids_c], vi 1048576] (some 9) ?_ [] [] _ rfl (RV (vi (szReply aR 1048576))) (fun w hw => szReply_c w aR aR_ids_a aR_ids_c (haR_ids.fr hw.fr) 1048576) (by rintro _ ⟨⟩; exact Nat.le_of_ble_eq_true rfl) ?_)
  · as_aux_lemma => kernel_rfl
  rintro ⟨⟩
  refine RUN0 1 [] [(1, .p 0 0), (3, I (szReply aR 1048576))] ?_ rfl ?_
  · as_aux_lemma => kernel_rfl
  refine ENDOPS (NEXT (SEQ (SEQ (REGION [0, 1] rfl (RUN0 2 [] [(1, .p 0 0), (11, B (decide ((szReply aR 1048576) < 0)))] ?_ rfl ?_)))))
  · as_aux_lemma => kernel_rfl
  refine ENDOPS (NEXT (IF (decide ((szReply aR 1048576) < 0)) ?_ (fun bh1 => ?_) (fun bh1 => ?_)))
  · as_aux_lemma => kernel_rfl
  · -- decide ((szReply aR 1048576) < 0) = true
    have h1 := bh1
    have h1 := of_decide_eq_true h1
    refine SEQ (REGION [0] rfl (RUN0 1 [] [(2, B true)] ?_ rfl ?_))
    · as_aux_lemma => kernel_rfl
    refine ENDOPS (NEXT (RET (PASS trivial (FIN (.bool true) ?_ () ?_ [] ?_))))
    · as_aux_lemma => kernel_rfl
    · simp_all [RV, eqReply_refl]
    · rfl
  · -- decide ((szReply aR 1048576) < 0) = false
    have h1 := bh1
    have h1 := of_decide_eq_false h1
    have hb := szReply_len haR_ids_len h1
    refine SKIP (NEXT (SEQ (REGION [0, 1, 2, 3] rfl (RUN0 1 [1, 2, 3] [(1, .p 0 0), (12, .v (.agg #[vi aR.code, .slice aR_ids_a aR.ids.length aR_ids_c]))] ?_ rfl ?_))))
    · as_aux_lemma => kernel_rfl
    refine OPC (CALL 10 #[.agg #[vi aR.code, .slice aR_ids_a aR.ids.length aR_ids_c]] (some 13) ?_ [] [] _ rfl (⟨HH, fun p => .agg #[vi aR.code, .slice p.1 aR.ids.length p.2], fun p => [slA 3 intL (.slice p.1 aR.ids.length p.2) aR.ids]⟩) (fun w hw => toReply_c w aR aR_ids_a aR_ids_c (haR_ids.fr hw.fr) (by first | omega | (simp only [List.length_append, List.length_cons, List.length_nil, List.length_take, List.length_drop] at *; omega))) (by rintro _ ⟨⟩; exact Nat.le_of_ble_eq_true rfl) ?_)
    · as_aux_lemma => kernel_rfl
    rintro ⟨a2, c3⟩
    refine OPC (CALL 9 #[.agg #[vi aR.code, .slice a2 aR.ids.length c3]] (some 14) ?_ [] [] _ rfl (RV (.string (bs (replyLine aR)))) (fun w hw => sReplyLine_c w aR a2 c3 (Rd.own (hw.own 0 rfl)) (by first | assumption | exact hr) (by first | assumption | omega)) (by rintro _ ⟨⟩; exact Nat.le_of_ble_eq_true rfl) ?_)
    · as_aux_lemma => kernel_rfl
    rintro ⟨⟩
    refine RUN0 1 [] [(1, .p 0 0), (4, .v (.string (bs (replyLine aR))))] ?_ rfl ?_
    · as_aux_lemma => kernel_rfl
    refine ENDOPS (NEXT (SEQ (REGION [0, 1, 2, 3] rfl (RUN0 1 [1, 2, 3] [(1, .p 0 0), (4, .v (.string (bs (replyLine aR)))), (15, .v (.agg #[vi aR.code, .slice aR_ids_a aR.ids.length aR_ids_c]))] ?_ rfl ?_))))
    · as_aux_lemma => kernel_rfl
    refine OPC (CALL 10 #[.agg #[vi aR.code, .slice aR_ids_a aR.ids.length aR_ids_c]] (some 16) ?_ [] [] _ rfl (⟨HH, fun p => .agg #[vi aR.code, .slice p.1 aR.ids.length p.2], fun p => [slA 3 intL (.slice p.1 aR.ids.length p.2) aR.ids]⟩) (fun w hw => toReply_c w aR aR_ids_a aR_ids_c (haR_ids.fr hw.fr) (by first | omega | (simp only [List.length_append, List.length_cons, List.length_nil, List.length_take, List.length_drop] at *; omega))) (by rintro _ ⟨⟩; exact Nat.le_of_ble_eq_true rfl) ?_)
    · as_aux_lemma => kernel_rfl
    rintro ⟨a4, c5⟩
    refine RUN 2 [] [(1, .p 0 0), (4, .v (.string (bs (replyLine aR)))), (5, .p 1 0)] [(24, [vi aR.code, .slice aR_ids_a aR.ids.length aR_ids_c]), (27, [vi aR.code, .slice a4 aR.ids.length c5])] ?_ rfl ?_
    · as_aux_lemma => kernel_rfl
    refine ENDOPS (NEXT (SEQ (REGION [0, 1, 2] rfl (RUN0 1 [1, 2] [(1, .p 0 0), (4, .v (.string (bs (replyLine aR)))), (5, .p 1 0), (17, .v (.agg #[vi aR.code, .slice a4 aR.ids.length c5]))] ?_ rfl ?_))))
    · as_aux_lemma => kernel_rfl
    refine OPC (CALL 11 #[.agg #[vi aR.code, .slice a4 aR.ids.length c5]] (some 18) ?_ [] [] _ rfl (RV (.string (bs (replyLine aR)))) (fun w hw => iReplyLine_c w aR a4 c5 (Rd.own (hw.own 1 rfl)) (by first | assumption | exact hr) (by first | assumption | omega) (htab.fr hw.fr)) (by rintro _ ⟨⟩; exact Nat.le_of_ble_eq_true rfl) ?_)
    · as_aux_lemma => kernel_rfl
    rintro ⟨⟩
    refine RUN0 1 [] [(1, .p 0 0), (4, .v (.string (bs (replyLine aR)))), (5, .p 1 0), (6, .v (.string (bs (replyLine aR))))] ?_ rfl ?_
    · as_aux_lemma => kernel_rfl
    refine ENDOPS (NEXT (SEQ (SEQ (REGION [0, 1, 2] rfl (RUN0 2 [2] [(1, .p 0 0), (5, .p 1 0), (19, .v (.string (bs (replyLine aR)))), (20, .v (.string (bs (replyLine aR))))] ?_ rfl ?_)))))
    · as_aux_lemma => kernel_rfl
    refine OPC (RUNV (.binOp .neq 9 (.tmp 19) (.tmp 20) 9) 21 4 ?_ (Nat.le_of_ble_eq_true rfl) (.bool (!((replyLine aR) == (replyLine aR)))) (runs_sneq (a := replyLine aR) (b := replyLine aR) ?_ ?_) ?_)
    · as_aux_lemma => kernel_rfl
    · as_aux_lemma => kernel_rfl
    · as_aux_lemma => kernel_rfl
    refine ENDOPS (NEXT (IF (!((replyLine aR) == (replyLine aR))) ?_ (fun bh6 => ?_) (fun bh6 => ?_)))
    · as_aux_lemma => kernel_rfl
    · -- !((replyLine aR) == (replyLine aR)) = true
      have h6 := bh6
      have h6 := notT h6
      have h6 := ne_of_beq_false h6
      refine SEQ (REGION [0] rfl (RUN0 1 [] [(2, B false)] ?_ rfl ?_))
      · as_aux_lemma => kernel_rfl
      refine ENDOPS (NEXT (RET (PASS trivial (FIN (.bool false) ?_ () ?_ [] ?_))))
      · as_aux_lemma => kernel_rfl
      · simp_all [RV, eqReply_refl]
      · rfl
    · -- !((replyLine aR) == (replyLine aR)) = false
      have h6 := bh6
      have h6 := notF h6
      have h6 := eq_of_beq h6
      refine SKIP (NEXT (SEQ (SEQ (REGIONH ?_ 5 rfl [slA 3 intL (.slice a2 aR.ids.length c3) aR.ids, slA 3 intL (.slice a4 aR.ids.length c5) aR.ids] ?_))))
      · as_aux_lemma => kernel_rfl
      refine HALL [0, 1] ?_ (by decide) ⟨?_, ?_⟩
      · as_aux_lemma => kernel_rfl
      · -- operation 0 next
        refine RUNO [(1, .p 0 0), (22, .v (.agg #[vi aR.code, .slice a4 aR.ids.length c5]))] [(24, [vi aR.code, .slice aR_ids_a aR.ids.length aR_ids_c]), (27, [vi aR.code, .slice a4 aR.ids.length c5])] ?_ ?_
        · as_aux_lemma => kernel_rfl
        refine HKEEP rfl (HALL [1] ?_ (by decide) ?_)
        · as_aux_lemma => kernel_rfl
        refine RUNO [(22, .v (.agg #[vi aR.code, .slice a4 aR.ids.length c5])), (23, .v (.agg #[vi aR.code, .slice aR_ids_a aR.ids.length aR_ids_c]))] [(24, [vi aR.code, .slice aR_ids_a aR.ids.length aR_ids_c]), (27, [vi aR.code, .slice a4 aR.ids.length c5])] ?_ ?_
        · as_aux_lemma => kernel_rfl
        refine HKEEP rfl (HALL [2] ?_ (by decide) ?_)
        · as_aux_lemma => kernel_rfl
        refine CALL 10 #[.agg #[vi aR.code, .slice aR_ids_a aR.ids.length aR_ids_c]] (some 24) ?_ [] [] _ rfl (⟨HH, fun p => .agg #[vi aR.code, .slice p.1 aR.ids.length p.2], fun p => [slA 3 intL (.slice p.1 aR.ids.length p.2) aR.ids]⟩) (fun w hw => toReply_c w aR aR_ids_a aR_ids_c (haR_ids.fr hw.fr) (by first | omega | (simp only [List.length_append, List.length_cons, List.length_nil, List.length_take, List.length_drop] at *; omega))) (by rintro _ ⟨⟩; exact Nat.le_of_ble_eq_true rfl) ?_
        · as_aux_lemma => kernel_rfl
        rintro ⟨a7, c8⟩
        refine HKEEP rfl (HALL [3] ?_ (by decide) ?_)
        · as_aux_lemma => kernel_rfl
        refine CALL 12 #[.agg #[vi aR.code, .slice a4 aR.ids.length c5], .agg #[vi aR.code, .slice a7 aR.ids.length c8]] (some 25) ?_ [] [] _ rfl (RV (.bool (eqReply aR aR))) (fun w hw => eqReply_c w aR a4 c5 (Rd.own (hw.own 1 rfl)) aR a7 c8 (Rd.own (hw.own 2 rfl))) (by rintro _ ⟨⟩; exact Nat.le_of_ble_eq_true rfl) ?_
        · as_aux_lemma => kernel_rfl
        rintro ⟨⟩
        refine HKEEP rfl (HPURE 4 [(26, B (!(eqReply aR aR)))] ?_ ?_ rfl ?_)
        · as_aux_lemma => kernel_rfl
        · as_aux_lemma => kernel_rfl
        refine HEND ?_ ?_
        · as_aux_lemma => kernel_rfl
        refine NEXT (IF (!(eqReply aR aR)) ?_ (fun bh9 => ?_) (fun bh9 => ?_))
        · as_aux_lemma => kernel_rfl
        · -- !(eqReply aR aR) = true
          have h9 := bh9
          have h9 := notT h9
          refine SEQ (REGION [0] rfl (RUN0 1 [] [(2, B false)] ?_ rfl ?_))
          · as_aux_lemma => kernel_rfl
          refine ENDOPS (NEXT (RET (PASS trivial (FIN (.bool false) ?_ () ?_ [] ?_))))
          · as_aux_lemma => kernel_rfl
          · simp_all [RV, eqReply_refl]
          · rfl
        · -- !(eqReply aR aR) = false
          have h9 := bh9
          have h9 := notF h9
          refine SKIP (NEXT (SEQ (REGION [0] rfl (RUN0 1 [] [(2, B true)] ?_ rfl ?_))))
          · as_aux_lemma => kernel_rfl
          refine ENDOPS (NEXT (RET (FIN (.bool true) ?_ () ?_ [] ?_)))
          · as_aux_lemma => kernel_rfl
          · simp_all [RV, eqReply_refl]
          · rfl
      · -- operation 1 next
        refine RUNO [(5, .p 1 0), (23, .v (.agg #[vi aR.code, .slice aR_ids_a aR.ids.length aR_ids_c]))] [(24, [vi aR.code, .slice aR_ids_a aR.ids.length aR_ids_c]), (27, [vi aR.code, .slice a4 aR.ids.length c5])] ?_ ?_
        · as_aux_lemma => kernel_rfl
        refine HKEEP rfl (HALL [0, 2] ?_ (by decide) ⟨?_, ?_⟩)
        · as_aux_lemma => kernel_rfl
        · -- operation 0 next
          refine RUNO [(22, .v (.agg #[vi aR.code, .slice a4 aR.ids.length c5])), (23, .v (.agg #[vi aR.code, .slice aR_ids_a aR.ids.length aR_ids_c]))] [(24, [vi aR.code, .slice aR_ids_a aR.ids.length aR_ids_c]), (27, [vi aR.code, .slice a4 aR.ids.length c5])] ?_ ?_
          · as_aux_lemma => kernel_rfl
          refine HKEEP rfl (HALL [2] ?_ (by decide) ?_)
          · as_aux_lemma => kernel_rfl
          refine CALL 10 #[.agg #[vi aR.code, .slice aR_ids_a aR.ids.length aR_ids_c]] (some 24) ?_ [] [] _ rfl (⟨HH, fun p => .agg #[vi aR.code, .slice p.1 aR.ids.length p.2], fun p => [slA 3 intL (.slice p.1 aR.ids.length p.2) aR.ids]⟩) (fun w hw => toReply_c w aR aR_ids_a aR_ids_c (haR_ids.fr hw.fr) (by first | omega | (simp only [List.length_append, List.length_cons, List.length_nil, List.length_take, List.length_drop] at *; omega))) (by rintro _ ⟨⟩; exact Nat.le_of_ble_eq_true rfl) ?_
          · as_aux_lemma => kernel_rfl
          rintro ⟨a10, c11⟩
          refine HKEEP rfl (HALL [3] ?_ (by decide) ?_)
          · as_aux_lemma => kernel_rfl
          refine CALL 12 #[.agg #[vi aR.code, .slice a4 aR.ids.length c5], .agg #[vi aR.code, .slice a10 aR.ids.length c11]] (some 25) ?_ [] [] _ rfl (RV (.bool (eqReply aR aR))) (fun w hw => eqReply_c w aR a4 c5 (Rd.own (hw.own 1 rfl)) aR a10 c11 (Rd.own (hw.own 2 rfl))) (by rintro _ ⟨⟩; exact Nat.le_of_ble_eq_true rfl) ?_
          · as_aux_lemma => kernel_rfl
          rintro ⟨⟩
          refine HKEEP rfl (HPURE 4 [(26, B (!(eqReply aR aR)))] ?_ ?_ rfl ?_)
          · as_aux_lemma => kernel_rfl
          · as_aux_lemma => kernel_rfl
          refine HEND ?_ ?_
          · as_aux_lemma => kernel_rfl
          refine NEXT (IF (!(eqReply aR aR)) ?_ (fun bh12 => ?_) (fun bh12 => ?_))
          · as_aux_lemma => kernel_rfl
          · -- !(eqReply aR aR) = true
            have h12 := bh12
            have h12 := notT h12
            refine SEQ (REGION [0] rfl (RUN0 1 [] [(2, B false)] ?_ rfl ?_))
            · as_aux_lemma => kernel_rfl
            refine ENDOPS (NEXT (RET (PASS trivial (FIN (.bool false) ?_ () ?_ [] ?_))))
            · as_aux_lemma => kernel_rfl
            · simp_all [RV, eqReply_refl]
            · rfl
          · -- !(eqReply aR aR) = false
            have h12 := bh12
            have h12 := notF h12
            refine SKIP (NEXT (SEQ (REGION [0] rfl (RUN0 1 [] [(2, B true)] ?_ rfl ?_))))
            · as_aux_lemma => kernel_rfl
            refine ENDOPS (NEXT (RET (FIN (.bool true) ?_ () ?_ [] ?_)))
            · as_aux_lemma => kernel_rfl
            · simp_all [RV, eqReply_refl]
            · rfl
        · -- operation 2 next
          refine CALL 10 #[.agg #[vi aR.code, .slice aR_ids_a aR.ids.length aR_ids_c]] (some 24) ?_ [] [] _ rfl (⟨HH, fun p => .agg #[vi aR.code, .slice p.1 aR.ids.length p.2], fun p => [slA 3 intL (.slice p.1 aR.ids.length p.2) aR.ids]⟩) (fun w hw => toReply_c w aR aR_ids_a aR_ids_c (haR_ids.fr hw.fr) (by first | omega | (simp only [List.length_append, List.length_cons, List.length_nil, List.length_take, List.length_drop] at *; omega))) (by rintro _ ⟨⟩; exact Nat.le_of_ble_eq_true rfl) ?_
          · as_aux_lemma => kernel_rfl
          rintro ⟨a13, c14⟩
          refine HKEEP rfl (HALL [0] ?_ (by decide) ?_)
          · as_aux_lemma => kernel_rfl
          refine RUNO [(22, .v (.agg #[vi aR.code, .slice a4 aR.ids.length c5])), (24, .v (.agg #[vi aR.code, .slice a13 aR.ids.length c14]))] [(24, [vi aR.code, .slice aR_ids_a aR.ids.length aR_ids_c]), (27, [vi aR.code, .slice a4 aR.ids.length c5])] ?_ ?_
          · as_aux_lemma => kernel_rfl
          refine HKEEP rfl (HALL [3] ?_ (by decide) ?_)
          · as_aux_lemma => kernel_rfl
          refine CALL 12 #[.agg #[vi aR.code, .slice a4 aR.ids.length c5], .agg #[vi aR.code, .slice a13 aR.ids.length c14]] (some 25) ?_ [] [] _ rfl (RV (.bool (eqReply aR aR))) (fun w hw => eqReply_c w aR a4 c5 (Rd.own (hw.own 1 rfl)) aR a13 c14 (Rd.own (hw.own 2 rfl))) (by rintro _ ⟨⟩; exact Nat.le_of_ble_eq_true rfl) ?_
          · as_aux_lemma => kernel_rfl
          rintro ⟨⟩
          refine HKEEP rfl (HPURE 4 [(26, B (!(eqReply aR aR)))] ?_ ?_ rfl ?_)
          · as_aux_lemma => kernel_rfl
          · as_aux_lemma => kernel_rfl
          refine HEND ?_ ?_
          · as_aux_lemma => kernel_rfl
          refine NEXT (IF (!(eqReply aR aR)) ?_ (fun bh15 => ?_) (fun bh15 => ?_))
          · as_aux_lemma => kernel_rfl
          · -- !(eqReply aR aR) = true
            have h15 := bh15
            have h15 := notT h15
            refine SEQ (REGION [0] rfl (RUN0 1 [] [(2, B false)] ?_ rfl ?_))
            · as_aux_lemma => kernel_rfl
            refine ENDOPS (NEXT (RET (PASS trivial (FIN (.bool false) ?_ () ?_ [] ?_))))
            · as_aux_lemma => kernel_rfl
            · simp_all [RV, eqReply_refl]
            · rfl
          · -- !(eqReply aR aR) = false
            have h15 := bh15
            have h15 := notF h15
            refine SKIP (NEXT (SEQ (REGION [0] rfl (RUN0 1 [] [(2, B true)] ?_ rfl ?_))))
            · as_aux_lemma => kernel_rfl
            refine ENDOPS (NEXT (RET (FIN (.bool true) ?_ () ?_ [] ?_)))
            · as_aux_lemma => kernel_rfl
            · simp_all [RV, eqReply_refl]
            · rfl

theorem exScriptText_c (W : World) (aList : List Req) (aList_a : Option Addr) (aList_c : Nat) (haList : Rd reqL W aList_a aList) (htab : Tab Tryd.prog W) : Spec Tryd.prog W [] 4 #[.slice aList_a aList.length aList_c] (RV (.bool true)) := by
  refine ENTER0 (N := 27) (vs := [.slice aList_a aList.length aList_c]) Tryd.func4 rfl rfl (Nat.le_of_ble_eq_true rfl) ?_
  have haList_len := haList.len
  refine SEQ (REGION [0] rfl (RUN0 1 [] [(0, .v (.slice aList_a aList.length aList_c))] ?_ rfl ?_))
  · as_aux_lemma => kernel_rfl
  refine ENDOPS (NEXT (SEQ (REGION [0] rfl (RUN0 1 [] [(0, .v (.slice aList_a aList.length aList_c)), (3, I 1048576)] ?_ rfl ?_))))
  · as_aux_lemma => kernel_rfl
  refine ENDOPS (NEXT (SEQ (REGION [0, 1, 2, 3] rfl (RUN0 2 [2, 3] [(0, .v (.slice aList_a aList.length aList_c)), (7, .v (.slice aList_a aList.length aList_c)), (8, I 1048576)] ?_ rfl ?_))))
  · as_aux_lemma => kernel_rfl
  refine OPC (CALL 13 #[.slice aList_a aList.length aList_c, vi 1048576] (some 9) ?_ [] [] _ rfl (RV (vi (szReqs aList 1048576))) (fun w hw => szReqS_c w aList aList_a aList_c (haList.fr hw.fr) 1048576) (by rintro _ ⟨⟩; exact Nat.le_of_ble_eq_true rfl) ?_)
  · as_aux_lemma => kernel_rfl
  rintro ⟨⟩
  refine RUN0 1 [] [(0, .v (.slice aList_a aList.length aList_c)), (3, I (szReqs aList 1048576))] ?_ rfl ?_
  · as_aux_lemma => kernel_rfl
  refine ENDOPS (NEXT (SEQ (SEQ (REGION [0, 1] rfl (RUN0 2 [] [(0, .v (.slice aList_a aList.length aList_c)), (11, B (decide ((szReqs aList 1048576) < 0)))] ?_ rfl ?_)))))
  · as_aux_lemma => kernel_rfl
  refine ENDOPS (NEXT (IF (decide ((szReqs aList 1048576) < 0)) ?_ (fun bh1 => ?_) (fun bh1 => ?_)))
  · as_aux_lemma => kernel_rfl
  · -- decide ((szReqs aList 1048576) < 0) = true
    have h1 := bh1
    have h1 := of_decide_eq_true h1
    refine SEQ (REGION [0] rfl (RUN0 1 [] [(2, B true)] ?_ rfl ?_))
    · as_aux_lemma => kernel_rfl
    refine ENDOPS (NEXT (RET (PASS trivial (FIN (.bool true) ?_ () ?_ [] ?_))))
    · as_aux_lemma => kernel_rfl
    · simp_all [RV, eqReqs_refl]
    · rfl
  · -- decide ((szReqs aList 1048576) < 0) = false
    have h1 := bh1
    have h1 := of_decide_eq_false h1
    have hb := szReqs_len (by decide) (by decide) haList_len h1
    refine SKIP (NEXT (SEQ (REGION [0, 1, 2, 3] rfl (RUN0 1 [1, 2, 3] [(0, .v (.slice aList_a aList.length aList_c)), (12, .v (.slice aList_a aList.length aList_c))] ?_ rfl ?_))))
    · as_aux_lemma => kernel_rfl
    refine OPC (CALL 15 #[.slice aList_a aList.length aList_c] (some 13) ?_ [] [] _ rfl (⟨HH, fun p => .slice p.1 aList.length p.2, fun p => [slA 47 reqL (.slice p.1 aList.length p.2) aList]⟩) (fun w hw => toReqS_c w aList aList_a aList_c (haList.fr hw.fr) (by first | omega | (simp only [List.length_append, List.length_cons, List.length_nil, List.length_take, List.length_drop] at *; omega))) (by rintro _ ⟨⟩; exact Nat.le_of_ble_eq_true rfl) ?_)
    · as_aux_lemma => kernel_rfl
    rintro ⟨a2, c3⟩
    refine OPC (CALL 14 #[.slice a2 aList.length c3] (some 14) ?_ [] [] _ rfl (RV (.string (bs (scriptText aList)))) (fun w hw => sScriptText_c w aList a2 c3 (Rd.own (hw.own 0 rfl))) (by rintro _ ⟨⟩; exact Nat.le_of_ble_eq_true rfl) ?_)
    · as_aux_lemma => kernel_rfl
    rintro ⟨⟩
    refine RUN0 1 [] [(0, .v (.slice aList_a aList.length aList_c)), (4, .v (.string (bs (scriptText aList))))] ?_ rfl ?_
    · as_aux_lemma => kernel_rfl
    refine ENDOPS (NEXT (SEQ (REGION [0, 1, 2] rfl (RUN0 1 [1, 2] [(0, .v (.slice aList_a aList.length aList_c)), (4, .v (.string (bs (scriptText aList)))), (15, .v (.slice aList_a aList.length aList_c))] ?_ rfl ?_))))
    · as_aux_lemma => kernel_rfl
    refine OPC (CALL 15 #[.slice aList_a aList.length aList_c] (some 16) ?_ [] [] _ rfl (⟨HH, fun p => .slice p.1 aList.length p.2, fun p => [slA 47 reqL (.slice p.1 aList.length p.2) aList]⟩) (fun w hw => toReqS_c w aList aList_a aList_c (haList.fr hw.fr) (by first | omega | (simp only [List.length_append, List.length_cons, List.length_nil, List.length_take, List.length_drop] at *; omega))) (by rintro _ ⟨⟩; exact Nat.le_of_ble_eq_true rfl) ?_)
    · as_aux_lemma => kernel_rfl
    rintro ⟨a4, c5⟩
    refine RUN0 1 [] [(0, .v (.slice aList_a aList.length aList_c)), (4, .v (.string (bs (scriptText aList)))), (5, .v (.slice a4 aList.length c5))] ?_ rfl ?_
    · as_aux_lemma => kernel_rfl
    refine ENDOPS (NEXT (SEQ (REGION [0, 1, 2] rfl (RUN0 1 [1, 2] [(0, .v (.slice aList_a aList.length aList_c)), (4, .v (.string (bs (scriptText aList)))), (5, .v (.slice a4 aList.length c5)), (17, .v (.slice a4 aList.length c5))] ?_ rfl ?_))))
    · as_aux_lemma => kernel_rfl
    refine OPC (CALL 16 #[.slice a4 aList.length c5] (some 18) ?_ [] [] _ rfl (RV (.string (bs (scriptText aList)))) (fun w hw => iScriptText_c w aList a4 c5 (Rd.own (hw.own 1 rfl)) (htab.fr hw.fr)) (by rintro _ ⟨⟩; exact Nat.le_of_ble_eq_true rfl) ?_)
    · as_aux_lemma => kernel_rfl
    rintro ⟨⟩
    refine RUN0 1 [] [(0, .v (.slice aList_a aList.length aList_c)), (4, .v (.string (bs (scriptText aList)))), (5, .v (.slice a4 aList.length c5)), (6, .v (.string (bs (scriptText aList))))] ?_ rfl ?_
    · as_aux_lemma => kernel_rfl
    refine ENDOPS (NEXT (SEQ (SEQ (REGION [0, 1, 2] rfl (RUN0 2 [2] [(0, .v (.slice aList_a aList.length aList_c)), (5, .v (.slice a4 aList.length c5)), (19, .v (.string (bs (scriptText aList)))), (20, .v (.string (bs (scriptText aList))))] ?_ rfl ?_)))))
    · as_aux_lemma => kernel_rfl
    refine OPC (RUNV (.binOp .neq 9 (.tmp 19) (.tmp 20) 9) 21 4 ?_ (Nat.le_of_ble_eq_true rfl) (.bool (!((scriptText aList) == (scriptText aList)))) (runs_sneq (a := scriptText aList) (b := scriptText aList) ?_ ?_) ?_)
    · as_aux_lemma => kernel_rfl
    · as_aux_lemma => kernel_rfl
    · as_aux_lemma => kernel_rfl
    refine ENDOPS (NEXT (IF (!((scriptText aList) == (scriptText aList))) ?_ (fun bh6 => ?_) (fun bh6 => ?_)))
    · as_aux_lemma => kernel_rfl
    · -- !((scriptText aList) == (scriptText aList)) = true
      have h6 := bh6
      have h6 := notT h6
      have h6 := ne_of_beq_false h6
      refine SEQ (REGION [0] rfl (RUN0 1 [] [(2, B false)] ?_ rfl ?_))
      · as_aux_lemma => kernel_rfl
      refine ENDOPS (NEXT (RET (PASS trivial (FIN (.bool false) ?_ () ?_ [] ?_))))
      · as_aux_lemma => kernel_rfl
      · simp_all [RV, eqReqs_refl]
      · rfl
    · -- !((scriptText aList) == (scriptText aList)) = false
      have h6 := bh6
      have h6 := notF h6
      have h6 := eq_of_beq h6
      refine SKIP (NEXT (SEQ (SEQ (REGION [0, 1, 2, 3, 4] rfl (RUN0 2 [2, 3, 4] [(22, .v (.slice a4 aList.length c5)), (23, .v (.slice aList_a aList.length aList_c))] ?_ rfl ?_)))))
      · as_aux_lemma => kernel_rfl
      refine OPC (CALL 15 #[.slice aList_a aList.length aList_c] (some 24) ?_ [] [] _ rfl (⟨HH, fun p => .slice p.1 aList.length p.2, fun p => [slA 47 reqL (.slice p.1 aList.length p.2) aList]⟩) (fun w hw => toReqS_c w aList aList_a aList_c (haList.fr hw.fr) (by first | omega | (simp only [List.length_append, List.length_cons, List.length_nil, List.length_take, List.length_drop] at *; omega))) (by rintro _ ⟨⟩; exact Nat.le_of_ble_eq_true rfl) ?_)
      · as_aux_lemma => kernel_rfl
      rintro ⟨a7, c8⟩
      refine OPC (CALL 17 #[.slice a4 aList.length c5, .slice a7 aList.length c8] (some 25) ?_ [] [] _ rfl (RV (.bool (eqReqs aList aList))) (fun w hw => eqReqS_c w aList a4 c5 (Rd.own (hw.own 1 rfl)) aList a7 c8 (Rd.own (hw.own 2 rfl))) (by rintro _ ⟨⟩; exact Nat.le_of_ble_eq_true rfl) ?_)
      · as_aux_lemma => kernel_rfl
      rintro ⟨⟩
      refine RUN0 1 [] [(26, B (!(eqReqs aList aList)))] ?_ rfl ?_
      · as_aux_lemma => kernel_rfl
      refine ENDOPS (NEXT (IF (!(eqReqs aList aList)) ?_ (fun bh9 => ?_) (fun bh9 => ?_)))
      · as_aux_lemma => kernel_rfl
      · -- !(eqReqs aList aList) = true
        have h9 := bh9
        have h9 := notT h9
        refine SEQ (REGION [0] rfl (RUN0 1 [] [(2, B false)] ?_ rfl ?_))
        · as_aux_lemma => kernel_rfl
        refine ENDOPS (NEXT (RET (PASS trivial (FIN (.bool false) ?_ () ?_ [] ?_))))
        · as_aux_lemma => kernel_rfl
        · simp_all [RV, eqReqs_refl]
        · rfl
      · -- !(eqReqs aList aList) = false
        have h9 := bh9
        have h9 := notF h9
        refine SKIP (NEXT (SEQ (REGION [0] rfl (RUN0 1 [] [(2, B true)] ?_ rfl ?_))))
        · as_aux_lemma => kernel_rfl
        refine ENDOPS (NEXT (RET (FIN (.bool true) ?_ () ?_ [] ?_)))
        · as_aux_lemma => kernel_rfl
        · simp_all [RV, eqReqs_refl]
        · rfl

end SX
end Go.Proofs.YtpdijcbgdalphaaDoor
