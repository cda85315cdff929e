/- Walks, printed by program. -/
import Derived.Test.YtcjaeedkhlnegaaW4
import Derived.Test.YtcjaeedkhlnegaaMdl2
namespace Go.Proofs.Ytcjaeedkhlnegaa
namespace SX
open Go Go.RowKit
set_option linter.unusedVariables false
set_option linter.unusedSimpArgs false
set_option maxRecDepth 10000
theorem sPutNum_c (W : World) (n : Int) : Spec Try.prog W [] 45 #[vi n] (⟨HH, fun p => .slice p.1 ((putNum n).length) p.2, fun p => [slA 5 byteL (.slice p.1 (putNum n).length p.2) (putNum n)]⟩) := by
  refine ENTER0 (N := 25) (vs := [vi n]) Try.func45 rfl rfl (Nat.le_of_ble_eq_true rfl) ?_
  refine SEQ (REGION [0] rfl (RUN0 1 [] [(0, I n)] ?_ rfl ?_))
  · as_aux_lemma => kernel_rfl
  refine ENDOPS (NEXT (SEQ (REGION [0, 1] rfl (OPC (BUILDS 62 0 #[] 4 62 ?_ (Nat.le_of_ble_eq_true rfl) 5 [] ?_ byteL [] rfl (by simp only [maxLen]; omega) [] [] _ rfl (flatRep rfl) (fun a1 ha2 => ?_))))))
  · as_aux_lemma => kernel_rfl
  · as_aux_lemma => kernel_rfl
  refine RUN0 1 [] [(0, I n), (3, .v (.slice a1 0 0))] ?_ rfl ?_
  · as_aux_lemma => kernel_rfl
  refine ENDOPS (NEXT (SEQ (SEQ (REGION [0, 1, 2] rfl (RUN0 1 [1, 2] [(0, I n), (3, .v (.slice a1 0 0)), (5, I n)] ?_ rfl ?_)))))
  · as_aux_lemma => kernel_rfl
  refine OPC (CALL 25 #[vi n, vi 0, vi 2147483647] (some 6) ?_ [] [] _ rfl (RV (.bool (inB n 0 2147483647))) (fun w hw => l1In_c w n 0 2147483647) (by rintro _ ⟨⟩; exact Nat.le_of_ble_eq_true rfl) ?_)
  · as_aux_lemma => kernel_rfl
  rintro ⟨⟩
  refine RUN0 1 [] [(0, I n), (3, .v (.slice a1 0 0)), (7, B (!(inB n 0 2147483647)))] ?_ rfl ?_
  · as_aux_lemma => kernel_rfl
  refine ENDOPS (NEXT (IF (!(inB n 0 2147483647)) ?_ (fun bh3 => ?_) (fun bh3 => ?_)))
  · as_aux_lemma => kernel_rfl
  · -- !(inB n 0 2147483647) = true
    have h3 := bh3
    have h3 := notT h3
    refine SEQ (REGION [0, 1] rfl (RUN0 2 [] [(2, .v (.slice a1 0 0))] ?_ rfl ?_))
    · as_aux_lemma => kernel_rfl
    refine ENDOPS (NEXT (RET (PASS trivial ?_)))
    have e4 : [] = putNum n := by simp [putNum, *]
    refine FIN (.slice a1 0 0) ?_ (a1, 0) ?_ [0] ?_
    · as_aux_lemma => kernel_rfl
    · exact congrArg (fun z : List UInt8 => Value.slice a1 z.length 0) e4
    · exact congrArg (fun z : List UInt8 => some [slA 5 byteL (.slice a1 z.length 0) z]) e4
  · -- !(inB n 0 2147483647) = false
    have h3 := bh3
    have h3 := notF h3
    have hn : 0 ≤ n ∧ n ≤ 2147483647 := by simpa [inB] using h3
    refine SKIP (NEXT (SEQ (BLOCK (CAST (d := 0) (vi n) (vi ((n.toNat : Nat) : Int)) ?_ (by rw [Int.toNat_of_nonneg hn.1]) ?_))))
    · as_aux_lemma => kernel_rfl
    refine LOOP (ι := Nat × (Option Addr) × Nat × (List UInt8)) (fun j => [(0, I (j.1 : Int)), (3, .v (.slice j.2.1 j.2.2.2.length j.2.2.1))]) (fun j => []) (fun j => [slA 5 byteL (.slice j.2.1 j.2.2.2.length j.2.2.1) j.2.2.2]) (fun j => j.1 ≤ 2147483647 ∧ j.2.2.2.length + j.1 ≤ 2147483647 ∧ j.2.2.2 ++ putGo j.1 = putGo n.toNat) (fun j => j.1) (n.toNat, a1, 0, []) [0, 3] ⟨by dsimp only; omega, by simp; omega, rfl⟩ ?_ rfl rfl ?_
    · as_aux_lemma => kernel_rfl
    rintro ⟨m, oa, oc, out⟩ ⟨hm, hl, hv⟩
    dsimp only at hm hl hv
    refine SEQ (SEQ (REGION [0, 1] rfl (RUN0 2 [] [(0, I (m : Int)), (3, .v (.slice oa out.length oc)), (10, B (decide ((m : Int) > 127)))] ?_ rfl ?_)))
    · as_aux_lemma => kernel_rfl
    refine ENDOPS (NEXT (IF (decide ((m : Int) > 127)) ?_ (fun bh5 => ?_) (fun bh5 => ?_)))
    · as_aux_lemma => kernel_rfl
    · -- decide ((m : Int) > 127) = true
      have h5 := bh5
      have h5 := of_decide_eq_true h5
      refine SKIP (NEXT (BLOCK (SEQ (REGION [0, 1, 2, 3, 4, 5, 6, 7] rfl (RUN0 3 [3, 4, 5, 6, 7] [(0, I (m : Int)), (11, .v (.slice oa out.length oc)), (13, I (Int.tmod (m : Int) 128))] ?_ rfl ?_)))))
      · as_aux_lemma => kernel_rfl
      refine CAST (d := 13) (vi (Int.tmod (m : Int) 128)) (vi ((m % 128 : Nat) : Int)) ?_ (vi_rem m 128) ?_
      · as_aux_lemma => kernel_rfl
      refine RUN0 1 [4, 5, 6, 7] [(0, I (m : Int)), (11, .v (.slice oa out.length oc)), (14, I (wr (((m % 128 : Nat) : Int) + 128)))] ?_ rfl ?_
      · as_aux_lemma => kernel_rfl
      refine CAST (d := 14) (vi (wr (((m % 128 : Nat) : Int) + 128))) (vi (((m % 128) + 128 : Nat) : Int)) ?_ (vi_cast (by omega) (by omega)) ?_
      · as_aux_lemma => kernel_rfl
      refine RUN0 1 [5, 6, 7] [(0, I (m : Int)), (11, .v (.slice oa out.length oc)), (15, .v (.int .u8 (IntKind.wrap .u8 (((m % 128) + 128 : Nat) : Int))))] ?_ rfl ?_
      · as_aux_lemma => kernel_rfl
      refine CAST (d := 15) (.int .u8 (IntKind.wrap .u8 (((m % 128) + 128 : Nat) : Int))) (.int .u8 (((byteOf (((m % 128) + 128 : Nat) : Int)).toNat : Nat) : Int)) ?_ (v8 (((m % 128) + 128 : Nat) : Int)) ?_
      · as_aux_lemma => kernel_rfl
      refine OPC (BUILDS 62 1 #[(0, .tmp 15)] 16 62 ?_ (Nat.le_of_ble_eq_true rfl) 5 [.int .u8 (((byteOf (((m % 128) + 128 : Nat) : Int)).toNat : Nat) : Int)] ?_ byteL [byteOf (((m % 128) + 128 : Nat) : Int)] rfl (by simp only [maxLen]; omega) [] [] _ rfl (flatRep rfl) (fun a6 ha7 => ?_))
      · as_aux_lemma => kernel_rfl
      · as_aux_lemma => kernel_rfl
      refine OPC (APPENDO 62 (.tmp 11) (.tmp 16) 17 62 ?_ (Nat.le_of_ble_eq_true rfl) (.slice oa out.length oc) a6 1 1 ?_ ?_ ha7 5 ?_ byteL (.int .u8 0) 1 ?_ rfl (by decide) 0 0 out ([byteOf (((m % 128) + 128 : Nat) : Int)]) _ rfl rfl (by first | omega | (simp only [List.length_append, List.length_cons, List.length_nil, List.length_take, List.length_drop] at *; omega)) (by simp only [maxLen]; first | omega | (simp only [List.length_append, List.length_cons, List.length_nil, List.length_take, List.length_drop] at *; omega)) (fun a8 c9 hn10 => ?_))
      · as_aux_lemma => kernel_rfl
      · as_aux_lemma => kernel_rfl
      · as_aux_lemma => kernel_rfl
      · as_aux_lemma => kernel_rfl
      · as_aux_lemma => kernel_rfl
      refine RUN0 1 [] [(0, I (m : Int)), (3, .v (.slice a8 ((out ++ ([byteOf (((m % 128) + 128 : Nat) : Int)])).length) c9))] ?_ rfl ?_
      · as_aux_lemma => kernel_rfl
      refine ENDOPS (NEXT (REGION [0, 1, 2] rfl (RUN0 2 [2] [(3, .v (.slice a8 ((out ++ ([byteOf (((m % 128) + 128 : Nat) : Int)])).length) c9)), (19, I (wr (Int.tdiv (m : Int) 128)))] ?_ rfl ?_)))
      · as_aux_lemma => kernel_rfl
      refine CAST (d := 19) (vi (wr (Int.tdiv (m : Int) 128))) (vi ((m / 128 : Nat) : Int)) ?_ (vi_quo m 128 (by decide) (by omega)) ?_
      · as_aux_lemma => kernel_rfl
      refine RUN0 1 [] [(0, I ((m / 128 : Nat) : Int)), (3, .v (.slice a8 ((out ++ ([byteOf (((m % 128) + 128 : Nat) : Int)])).length) c9))] ?_ rfl ?_
      · as_aux_lemma => kernel_rfl
      refine ENDOPS (OUTN (BACK (m / 128, a8, c9, out ++ ([byteOf (((m % 128) + 128 : Nat) : Int)])) [0, 3] 0 [0] _ ⟨by dsimp only; omega, by simp only [List.length_append, List.length_cons, List.length_nil]; omega, by rw [← hv, putGo_ge (n := m) (by omega)]; simp⟩ (by dsimp only; omega) ?_ rfl rfl rfl))
      · as_aux_lemma => kernel_rfl
    · -- decide ((m : Int) > 127) = false
      have h5 := bh5
      have h5 := of_decide_eq_false h5
      refine EXIT (PASS trivial (PASS trivial (OUT (NEXT (SEQ (REGION [0, 1, 2, 3, 4, 5] rfl (RUN0 3 [3, 4, 5] [(20, .v (.slice oa out.length oc)), (22, .v (.int .u8 (IntKind.wrap .u8 (m : Int))))] ?_ rfl ?_)))))))
      · as_aux_lemma => kernel_rfl
      refine CAST (d := 22) (.int .u8 (IntKind.wrap .u8 (m : Int))) (.int .u8 (((byteOf (m : Int)).toNat : Nat) : Int)) ?_ (v8 (m : Int)) ?_
      · as_aux_lemma => kernel_rfl
      refine OPC (BUILDS 62 1 #[(0, .tmp 22)] 23 62 ?_ (Nat.le_of_ble_eq_true rfl) 5 [.int .u8 (((byteOf (m : Int)).toNat : Nat) : Int)] ?_ byteL [byteOf (m : Int)] rfl (by simp only [maxLen]; omega) [] [] _ rfl (flatRep rfl) (fun a11 ha12 => ?_))
      · as_aux_lemma => kernel_rfl
      · as_aux_lemma => kernel_rfl
      refine OPC (APPENDO 62 (.tmp 20) (.tmp 23) 24 62 ?_ (Nat.le_of_ble_eq_true rfl) (.slice oa out.length oc) a11 1 1 ?_ ?_ ha12 5 ?_ byteL (.int .u8 0) 1 ?_ rfl (by decide) 0 0 out ([byteOf (m : Int)]) _ rfl rfl (by first | omega | (simp only [List.length_append, List.length_cons, List.length_nil, List.length_take, List.length_drop] at *; omega)) (by simp only [maxLen]; first | omega | (simp only [List.length_append, List.length_cons, List.length_nil, List.length_take, List.length_drop] at *; omega)) (fun a13 c14 hn15 => ?_))
      · as_aux_lemma => kernel_rfl
      · as_aux_lemma => kernel_rfl
      · as_aux_lemma => kernel_rfl
      · as_aux_lemma => kernel_rfl
      · as_aux_lemma => kernel_rfl
      refine RUN0 1 [] [(2, .v (.slice a13 ((out ++ ([byteOf (m : Int)])).length) c14))] ?_ rfl ?_
      · as_aux_lemma => kernel_rfl
      refine ENDOPS (NEXT (RET ?_))
      have e16 : out ++ ([byteOf (m : Int)]) = putNum n := by rw [putNum, if_pos (by simpa [inB] using hn), ← hv, putGo_lt (n := m) (by omega)]
      refine FIN (.slice a13 ((out ++ ([byteOf (m : Int)])).length) c14) ?_ (a13, c14) ?_ [0] ?_
      · as_aux_lemma => kernel_rfl
      · exact congrArg (fun z : List UInt8 => Value.slice a13 z.length c14) e16
      · exact congrArg (fun z : List UInt8 => some [slA 5 byteL (.slice a13 z.length c14) z]) e16

theorem iPutNum_c (W : World) (n : Int) : Spec Try.prog W [] 48 #[vi n] (⟨HH, fun p => .slice p.1 ((putNum n).length) p.2, fun p => [slA 5 byteL (.slice p.1 (putNum n).length p.2) (putNum n)]⟩) := by
  refine ENTER0 (N := 23) (vs := [vi n]) Try.func48 rfl rfl (Nat.le_of_ble_eq_true rfl) ?_
  refine SEQ (REGION [0] rfl (RUN0 1 [] [(0, I n)] ?_ rfl ?_))
  · as_aux_lemma => kernel_rfl
  refine ENDOPS (NEXT (SEQ (SEQ (REGION [0, 1, 2] rfl (RUN0 1 [1, 2] [(0, I n), (4, I n)] ?_ rfl ?_)))))
  · as_aux_lemma => kernel_rfl
  refine OPC (CALL 26 #[vi n, vi 0, vi 2147483647] (some 5) ?_ [] [] _ rfl (RV (.bool (inB n 0 2147483647))) (fun w hw => within_c w n 0 2147483647) (by rintro _ ⟨⟩; exact Nat.le_of_ble_eq_true rfl) ?_)
  · as_aux_lemma => kernel_rfl
  rintro ⟨⟩
  refine RUN0 1 [] [(0, I n), (6, B (!(inB n 0 2147483647)))] ?_ rfl ?_
  · as_aux_lemma => kernel_rfl
  refine ENDOPS (NEXT (IF (!(inB n 0 2147483647)) ?_ (fun bh1 => ?_) (fun bh1 => ?_)))
  · as_aux_lemma => kernel_rfl
  · -- !(inB n 0 2147483647) = true
    have h1 := bh1
    have h1 := notT h1
    refine SEQ (REGION [0] rfl (RUN0 1 [] [(2, .v (.slice none 0 0))] ?_ rfl ?_))
    · as_aux_lemma => kernel_rfl
    refine ENDOPS (NEXT (RET (PASS trivial (NIL 5 byteL ?_))))
    have e2 : [] = putNum n := by simp [putNum, *]
    refine FIN (.slice none 0 0) ?_ (none, 0) ?_ [0] ?_
    · as_aux_lemma => kernel_rfl
    · exact congrArg (fun z : List UInt8 => Value.slice none z.length 0) e2
    · exact congrArg (fun z : List UInt8 => some [slA 5 byteL (.slice none z.length 0) z]) e2
  · -- !(inB n 0 2147483647) = false
    have h1 := bh1
    have h1 := notF h1
    have hn : 0 ≤ n ∧ n ≤ 2147483647 := by simpa [inB] using h1
    refine SKIP (NEXT (SEQ (REGION [0] rfl (RUN0 1 [] [(0, I n), (3, .v (.slice none 0 0))] ?_ rfl ?_))))
    · as_aux_lemma => kernel_rfl
    refine ENDOPS (NEXT (SEQ (BLOCK (CAST (d := 0) (vi n) (vi ((n.toNat : Nat) : Int)) ?_ (by rw [Int.toNat_of_nonneg hn.1]) ?_))))
    · as_aux_lemma => kernel_rfl
    refine NIL 5 byteL ?_
    refine LOOP (ι := Nat × (Option Addr) × Nat × (List UInt8)) (fun j => [(0, I (j.1 : Int)), (3, .v (.slice j.2.1 j.2.2.2.length j.2.2.1))]) (fun j => []) (fun j => [slA 5 byteL (.slice j.2.1 j.2.2.2.length j.2.2.1) j.2.2.2]) (fun j => j.1 ≤ 2147483647 ∧ j.2.2.2.length + j.1 ≤ 2147483647 ∧ j.2.2.2 ++ putGo j.1 = putGo n.toNat) (fun j => j.1) (n.toNat, none, 0, []) [0, 3] ⟨by dsimp only; omega, by simp; omega, rfl⟩ ?_ rfl rfl ?_
    · as_aux_lemma => kernel_rfl
    rintro ⟨m, oa, oc, out⟩ ⟨hm, hl, hv⟩
    dsimp only at hm hl hv
    refine SEQ (SEQ (REGION [0, 1] rfl (RUN0 2 [] [(0, I (m : Int)), (3, .v (.slice oa out.length oc)), (8, B (decide ((m : Int) ≥ 128)))] ?_ rfl ?_)))
    · as_aux_lemma => kernel_rfl
    refine ENDOPS (NEXT (IF (decide ((m : Int) ≥ 128)) ?_ (fun bh3 => ?_) (fun bh3 => ?_)))
    · as_aux_lemma => kernel_rfl
    · -- decide ((m : Int) ≥ 128) = true
      have h3 := bh3
      have h3 := of_decide_eq_true h3
      refine SKIP (NEXT (BLOCK (SEQ (REGION [0, 1, 2, 3, 4, 5, 6, 7] rfl (RUN0 3 [3, 4, 5, 6, 7] [(0, I (m : Int)), (9, .v (.slice oa out.length oc)), (11, I (Int.tmod (m : Int) 128))] ?_ rfl ?_)))))
      · as_aux_lemma => kernel_rfl
      refine CAST (d := 11) (vi (Int.tmod (m : Int) 128)) (vi ((m % 128 : Nat) : Int)) ?_ (vi_rem m 128) ?_
      · as_aux_lemma => kernel_rfl
      refine RUN0 1 [4, 5, 6, 7] [(0, I (m : Int)), (9, .v (.slice oa out.length oc)), (12, I (wr (((m % 128 : Nat) : Int) + 128)))] ?_ rfl ?_
      · as_aux_lemma => kernel_rfl
      refine CAST (d := 12) (vi (wr (((m % 128 : Nat) : Int) + 128))) (vi (((m % 128) + 128 : Nat) : Int)) ?_ (vi_cast (by omega) (by omega)) ?_
      · as_aux_lemma => kernel_rfl
      refine RUN0 1 [5, 6, 7] [(0, I (m : Int)), (9, .v (.slice oa out.length oc)), (13, .v (.int .u8 (IntKind.wrap .u8 (((m % 128) + 128 : Nat) : Int))))] ?_ rfl ?_
      · as_aux_lemma => kernel_rfl
      refine CAST (d := 13) (.int .u8 (IntKind.wrap .u8 (((m % 128) + 128 : Nat) : Int))) (.int .u8 (((byteOf (((m % 128) + 128 : Nat) : Int)).toNat : Nat) : Int)) ?_ (v8 (((m % 128) + 128 : Nat) : Int)) ?_
      · as_aux_lemma => kernel_rfl
      refine OPC (BUILDS 62 1 #[(0, .tmp 13)] 14 62 ?_ (Nat.le_of_ble_eq_true rfl) 5 [.int .u8 (((byteOf (((m % 128) + 128 : Nat) : Int)).toNat : Nat) : Int)] ?_ byteL [byteOf (((m % 128) + 128 : Nat) : Int)] rfl (by simp only [maxLen]; omega) [] [] _ rfl (flatRep rfl) (fun a4 ha5 => ?_))
      · as_aux_lemma => kernel_rfl
      · as_aux_lemma => kernel_rfl
      refine OPC (APPENDO 62 (.tmp 9) (.tmp 14) 15 62 ?_ (Nat.le_of_ble_eq_true rfl) (.slice oa out.length oc) a4 1 1 ?_ ?_ ha5 5 ?_ byteL (.int .u8 0) 1 ?_ rfl (by decide) 0 0 out ([byteOf (((m % 128) + 128 : Nat) : Int)]) _ rfl rfl (by first | omega | (simp only [List.length_append, List.length_cons, List.length_nil, List.length_take, List.length_drop] at *; omega)) (by simp only [maxLen]; first | omega | (simp only [List.length_append, List.length_cons, List.length_nil, List.length_take, List.length_drop] at *; omega)) (fun a6 c7 hn8 => ?_))
      · as_aux_lemma => kernel_rfl
      · as_aux_lemma => kernel_rfl
      · as_aux_lemma => kernel_rfl
      · as_aux_lemma => kernel_rfl
      · as_aux_lemma => kernel_rfl
      refine RUN0 1 [] [(0, I (m : Int)), (3, .v (.slice a6 ((out ++ ([byteOf (((m % 128) + 128 : Nat) : Int)])).length) c7))] ?_ rfl ?_
      · as_aux_lemma => kernel_rfl
      refine ENDOPS (NEXT (REGION [0, 1, 2] rfl (RUN0 2 [2] [(3, .v (.slice a6 ((out ++ ([byteOf (((m % 128) + 128 : Nat) : Int)])).length) c7)), (17, I (wr (Int.tdiv (m : Int) 128)))] ?_ rfl ?_)))
      · as_aux_lemma => kernel_rfl
      refine CAST (d := 17) (vi (wr (Int.tdiv (m : Int) 128))) (vi ((m / 128 : Nat) : Int)) ?_ (vi_quo m 128 (by decide) (by omega)) ?_
      · as_aux_lemma => kernel_rfl
      refine RUN0 1 [] [(0, I ((m / 128 : Nat) : Int)), (3, .v (.slice a6 ((out ++ ([byteOf (((m % 128) + 128 : Nat) : Int)])).length) c7))] ?_ rfl ?_
      · as_aux_lemma => kernel_rfl
      refine ENDOPS (OUTN (BACK (m / 128, a6, c7, out ++ ([byteOf (((m % 128) + 128 : Nat) : Int)])) [0, 3] 0 [0] _ ⟨by dsimp only; omega, by simp only [List.length_append, List.length_cons, List.length_nil]; omega, by rw [← hv, putGo_ge (n := m) (by omega)]; simp⟩ (by dsimp only; omega) ?_ rfl rfl rfl))
      · as_aux_lemma => kernel_rfl
    · -- decide ((m : Int) ≥ 128) = false
      have h3 := bh3
      have h3 := of_decide_eq_false h3
      refine EXIT (PASS trivial (PASS trivial (OUT (NEXT (SEQ (REGION [0, 1, 2, 3, 4, 5] rfl (RUN0 3 [3, 4, 5] [(18, .v (.slice oa out.length oc)), (20, .v (.int .u8 (IntKind.wrap .u8 (m : Int))))] ?_ rfl ?_)))))))
      · as_aux_lemma => kernel_rfl
      refine CAST (d := 20) (.int .u8 (IntKind.wrap .u8 (m : Int))) (.int .u8 (((byteOf (m : Int)).toNat : Nat) : Int)) ?_ (v8 (m : Int)) ?_
      · as_aux_lemma => kernel_rfl
      refine OPC (BUILDS 62 1 #[(0, .tmp 20)] 21 62 ?_ (Nat.le_of_ble_eq_true rfl) 5 [.int .u8 (((byteOf (m : Int)).toNat : Nat) : Int)] ?_ byteL [byteOf (m : Int)] rfl (by simp only [maxLen]; omega) [] [] _ rfl (flatRep rfl) (fun a9 ha10 => ?_))
      · as_aux_lemma => kernel_rfl
      · as_aux_lemma => kernel_rfl
      refine OPC (APPENDO 62 (.tmp 18) (.tmp 21) 22 62 ?_ (Nat.le_of_ble_eq_true rfl) (.slice oa out.length oc) a9 1 1 ?_ ?_ ha10 5 ?_ byteL (.int .u8 0) 1 ?_ rfl (by decide) 0 0 out ([byteOf (m : Int)]) _ rfl rfl (by first | omega | (simp only [List.length_append, List.length_cons, List.length_nil, List.length_take, List.length_drop] at *; omega)) (by simp only [maxLen]; first | omega | (simp only [List.length_append, List.length_cons, List.length_nil, List.length_take, List.length_drop] at *; omega)) (fun a11 c12 hn13 => ?_))
      · as_aux_lemma => kernel_rfl
      · as_aux_lemma => kernel_rfl
      · as_aux_lemma => kernel_rfl
      · as_aux_lemma => kernel_rfl
      · as_aux_lemma => kernel_rfl
      refine RUN0 1 [] [(2, .v (.slice a11 ((out ++ ([byteOf (m : Int)])).length) c12))] ?_ rfl ?_
      · as_aux_lemma => kernel_rfl
      refine ENDOPS (NEXT (RET ?_))
      have e14 : out ++ ([byteOf (m : Int)]) = putNum n := by rw [putNum, if_pos (by simpa [inB] using hn), ← hv, putGo_lt (n := m) (by omega)]
      refine FIN (.slice a11 ((out ++ ([byteOf (m : Int)])).length) c12) ?_ (a11, c12) ?_ [0] ?_
      · as_aux_lemma => kernel_rfl
      · exact congrArg (fun z : List UInt8 => Value.slice a11 z.length c12) e14
      · exact congrArg (fun z : List UInt8 => some [slA 5 byteL (.slice a11 z.length c12) z]) e14

theorem sCrc_c (W : World) (b : List UInt8) (b_a : Option Addr) (b_c : Nat) (hb : Rd byteL W b_a b) : Spec Try.prog W [] 47 #[.slice b_a b.length b_c] (RV (vi ((crc b : Nat) : Int))) := by
  refine ENTER0 (N := 34) (vs := [.slice b_a b.length b_c]) Try.func47 rfl rfl (Nat.le_of_ble_eq_true rfl) ?_
  have hb_len := hb.len
  refine SEQ (REGION [0] rfl (RUN0 1 [] [(0, .v (.slice b_a b.length b_c))] ?_ rfl ?_))
  · as_aux_lemma => kernel_rfl
  refine ENDOPS (NEXT (SEQ (REGION [0] rfl (RUN0 1 [] [(0, .v (.slice b_a b.length b_c)), (3, I 4294967295)] ?_ rfl ?_))))
  · as_aux_lemma => kernel_rfl
  refine ENDOPS (NEXT (SEQ (SEQ (REGION [0] rfl (RUN0 1 [] [(0, .v (.slice b_a b.length b_c)), (3, I 4294967295), (4, I 0)] ?_ rfl ?_)))))
  · as_aux_lemma => kernel_rfl
  refine ENDOPS (NEXT (BLOCK (LOOP (ι := Nat × (List UInt8) × Nat) (fun j => [(0, .v (.slice b_a b.length b_c)), (3, I (j.2.2 : Int)), (4, I (j.1 : Int))]) (fun j => []) (fun j => []) (fun j => j.1 + j.2.1.length = b.length ∧ b.drop j.1 = j.2.1 ∧ crcGo 4294967295 b = crcGo j.2.2 j.2.1 ∧ j.2.2 < 4294967296) (fun j => j.2.1.length) (0, b, 4294967295) [0, 3, 4] ⟨by simp, rfl, rfl, by dsimp only; omega⟩ ?_ rfl rfl ?_)))
  · as_aux_lemma => kernel_rfl
  rintro ⟨k, ys, x⟩ ⟨hk, hd, hv0, hv1⟩
  dsimp only at hk hd hv0 hv1
  refine SEQ (SEQ (REGION [0, 1, 2, 3] rfl (RUN0 4 [] [(0, .v (.slice b_a b.length b_c)), (3, I (x : Int)), (4, I (k : Int)), (10, B (decide ((k : Int) < (b.length : Int))))] ?_ rfl ?_)))
  · as_aux_lemma => kernel_rfl
  refine ENDOPS (NEXT (IF (decide ((k : Int) < (b.length : Int))) ?_ (fun bh1 => ?_) (fun bh1 => ?_)))
  · as_aux_lemma => kernel_rfl
  · -- decide ((k : Int) < (b.length : Int)) = true
    have h1 := bh1
    have h1 := of_decide_eq_true h1
    obtain ⟨y2, ys3, rfl, hx_y2, hd_y2, hl_y2⟩ := drop_cons hd hk (by omega)
    have := UInt8.toNat_lt y2
    refine SKIP (NEXT (SEQ (BLOCK (SEQ (REGION [0, 1, 2, 3, 4, 5, 6, 7] rfl (RUN0 3 [3, 4, 5, 6, 7] [(0, .v (.slice b_a b.length b_c)), (4, I (k : Int)), (13, I (x : Int)), (14, .v (.slice b_a b.length b_c)), (15, I (k : Int))] ?_ rfl ?_))))))
    · as_aux_lemma => kernel_rfl
    refine OPC (INDEX 62 (.tmp 14) (.tmp 15) 16 0 ?_ (Nat.le_of_ble_eq_true rfl) b_a b.length b_c .i64 (k : Int) 5 1 ?_ ?_ ?_ ?_ (Rd.some hb (by omega)) (by omega) (by omega) ?_)
    · as_aux_lemma => kernel_rfl
    · as_aux_lemma => kernel_rfl
    · as_aux_lemma => kernel_rfl
    · as_aux_lemma => kernel_rfl
    · as_aux_lemma => kernel_rfl
    refine OPC (LOADE 5 (.tmp 16) 17 5 ?_ (Nat.le_of_ble_eq_true rfl) b_a (k * 1) 0 [.int .u8 (y2.toNat : Int)] (.int .u8 (y2.toNat : Int)) ?_ (fun w hw => (hb.fr hw.fr).flat hx_y2) ?_ ?_)
    · as_aux_lemma => kernel_rfl
    · as_aux_lemma => kernel_rfl
    · as_aux_lemma => kernel_rfl
    refine RUN0 1 [6, 7] [(0, .v (.slice b_a b.length b_c)), (4, I (k : Int)), (13, I (x : Int)), (18, I (IntKind.wrap .i64 (y2.toNat : Int)))] ?_ rfl ?_
    · as_aux_lemma => kernel_rfl
    refine CAST (d := 18) (vi (IntKind.wrap .i64 (y2.toNat : Int))) (vi (y2.toNat : Int)) ?_ (vi_u8 y2) ?_
    · as_aux_lemma => kernel_rfl
    refine RUN0 1 [7] [(0, .v (.slice b_a b.length b_c)), (4, I (k : Int)), (19, I (wr (((BitVec.ofInt 64 (x : Int) ^^^ BitVec.ofInt 64 (y2.toNat : Int)).toNat : Int))))] ?_ rfl ?_
    · as_aux_lemma => kernel_rfl
    refine CAST (d := 19) (vi (wr (((BitVec.ofInt 64 (x : Int) ^^^ BitVec.ofInt 64 (y2.toNat : Int)).toNat : Int)))) (vi ((x ^^^ y2.toNat : Nat) : Int)) ?_ (vi_xor x y2.toNat (by omega) (by omega)) ?_
    · as_aux_lemma => kernel_rfl
    refine RUN0 1 [] [(0, .v (.slice b_a b.length b_c)), (3, I ((x ^^^ y2.toNat : Nat) : Int)), (4, I (k : Int))] ?_ rfl ?_
    · as_aux_lemma => kernel_rfl
    refine ENDOPS (NEXT (SEQ (REGION [0] rfl (RUN0 1 [] [(0, .v (.slice b_a b.length b_c)), (3, I ((x ^^^ y2.toNat : Nat) : Int)), (4, I (k : Int)), (5, I 0)] ?_ rfl ?_))))
    · as_aux_lemma => kernel_rfl
    refine ENDOPS (NEXT (BLOCK (LOOP (ι := Nat × Nat × Nat) (fun j => [(0, .v (.slice b_a b.length b_c)), (3, I (j.2.2 : Int)), (4, I (k : Int)), (5, I (j.1 : Int))]) (fun j => []) (fun j => []) (fun j => j.1 + j.2.1 = 8 ∧ crcIt 8 (x ^^^ y2.toNat) = crcIt j.2.1 j.2.2 ∧ j.2.2 < 4294967296) (fun j => j.2.1) (0, 8, x ^^^ y2.toNat) [0, 3, 4, 5] ⟨by simp, rfl, crc8_lt hv1 _⟩ ?_ rfl rfl ?_)))
    · as_aux_lemma => kernel_rfl
    rintro ⟨i, r, z⟩ ⟨hki, hvi0, hvi1⟩
    dsimp only at hki hvi0 hvi1
    refine SEQ (SEQ (REGION [0, 1] rfl (RUN0 2 [] [(0, .v (.slice b_a b.length b_c)), (3, I (z : Int)), (4, I (k : Int)), (5, I (i : Int)), (21, B (decide ((i : Int) < 8)))] ?_ rfl ?_)))
    · as_aux_lemma => kernel_rfl
    refine ENDOPS (NEXT (IF (decide ((i : Int) < 8)) ?_ (fun bh4 => ?_) (fun bh4 => ?_)))
    · as_aux_lemma => kernel_rfl
    · -- decide ((i : Int) < 8) = true
      have h4 := bh4
      have h4 := of_decide_eq_true h4
      obtain ⟨r5, rfl⟩ : ∃ z, r = z + 1 := ⟨r - 1, by omega⟩
      refine SKIP (NEXT (SEQ (BLOCK (SEQ (REGION [0, 1, 2, 3] rfl (RUN0 2 [2, 3] [(0, .v (.slice b_a b.length b_c)), (3, I (z : Int)), (4, I (k : Int)), (5, I (i : Int)), (25, I (Int.tmod (z : Int) 2))] ?_ rfl ?_))))))
      · as_aux_lemma => kernel_rfl
      refine CAST (d := 25) (vi (Int.tmod (z : Int) 2)) (vi ((z % 2 : Nat) : Int)) ?_ (vi_rem z 2) ?_
      · as_aux_lemma => kernel_rfl
      refine RUN0 2 [] [(0, .v (.slice b_a b.length b_c)), (3, I (z : Int)), (4, I (k : Int)), (5, I (i : Int)), (6, B (((z % 2 : Nat) : Int) == 1))] ?_ rfl ?_
      · as_aux_lemma => kernel_rfl
      refine ENDOPS (NEXT (SEQ (REGION [0, 1, 2] rfl (RUN0 2 [2] [(0, .v (.slice b_a b.length b_c)), (4, I (k : Int)), (5, I (i : Int)), (6, B (((z % 2 : Nat) : Int) == 1)), (28, I (wr (Int.tdiv (z : Int) 2)))] ?_ rfl ?_))))
      · as_aux_lemma => kernel_rfl
      refine CAST (d := 28) (vi (wr (Int.tdiv (z : Int) 2))) (vi ((z / 2 : Nat) : Int)) ?_ (vi_quo z 2 (by decide) (by omega)) ?_
      · as_aux_lemma => kernel_rfl
      refine RUN0 1 [] [(0, .v (.slice b_a b.length b_c)), (3, I ((z / 2 : Nat) : Int)), (4, I (k : Int)), (5, I (i : Int)), (6, B (((z % 2 : Nat) : Int) == 1))] ?_ rfl ?_
      · as_aux_lemma => kernel_rfl
      refine ENDOPS (NEXT (SEQ (REGION [0] rfl (RUN0 1 [] [(0, .v (.slice b_a b.length b_c)), (3, I ((z / 2 : Nat) : Int)), (4, I (k : Int)), (5, I (i : Int)), (29, B (((z % 2 : Nat) : Int) == 1))] ?_ rfl ?_))))
      · as_aux_lemma => kernel_rfl
      refine ENDOPS (NEXT (IF (((z % 2 : Nat) : Int) == 1) ?_ (fun bh6 => ?_) (fun bh6 => ?_)))
      · as_aux_lemma => kernel_rfl
      · -- ((z % 2 : Nat) : Int) == 1 = true
        have h6 := bh6
        have h6 := eq_of_beq h6
        refine REGION [0, 1, 2] rfl (RUN0 2 [2] [(0, .v (.slice b_a b.length b_c)), (4, I (k : Int)), (5, I (i : Int)), (31, I (wr (((BitVec.ofInt 64 ((z / 2 : Nat) : Int) ^^^ BitVec.ofInt 64 3988292384).toNat : Int))))] ?_ rfl ?_)
        · as_aux_lemma => kernel_rfl
        refine CAST (d := 31) (vi (wr (((BitVec.ofInt 64 ((z / 2 : Nat) : Int) ^^^ BitVec.ofInt 64 3988292384).toNat : Int)))) (vi (((z / 2) ^^^ 3988292384 : Nat) : Int)) ?_ (vi_xor (z / 2) 3988292384 (by omega) (by omega)) ?_
        · as_aux_lemma => kernel_rfl
        refine RUN0 1 [] [(0, .v (.slice b_a b.length b_c)), (3, I (((z / 2) ^^^ 3988292384 : Nat) : Int)), (4, I (k : Int)), (5, I (i : Int))] ?_ rfl ?_
        · as_aux_lemma => kernel_rfl
        refine ENDOPS (OUTN (NEXT (REGION [0, 1, 2] rfl (RUN0 2 [2] [(0, .v (.slice b_a b.length b_c)), (3, I (((z / 2) ^^^ 3988292384 : Nat) : Int)), (4, I (k : Int)), (23, I (wr ((i : Int) + 1)))] ?_ rfl ?_))))
        · as_aux_lemma => kernel_rfl
        refine CAST (d := 23) (vi (wr ((i : Int) + 1))) (vi ((i + 1 : Nat) : Int)) ?_ (vi_cast (by omega) (by omega)) ?_
        · as_aux_lemma => kernel_rfl
        refine RUN0 1 [] [(0, .v (.slice b_a b.length b_c)), (3, I (((z / 2) ^^^ 3988292384 : Nat) : Int)), (4, I (k : Int)), (5, I ((i + 1 : Nat) : Int))] ?_ rfl ?_
        · as_aux_lemma => kernel_rfl
        refine ENDOPS (BACK (i + 1, r5, (z / 2) ^^^ 3988292384) [0, 3, 4, 5] 0 [] _ ⟨by dsimp only; omega, hvi0.trans (by simp only [crcIt, crcStep]; split <;> first | rfl | (exfalso; omega)), (by first | (dsimp only; omega) | exact xor32 (by omega) (show 3988292384 < 4294967296 by decide))⟩ (by simp) ?_ rfl rfl rfl)
        · as_aux_lemma => kernel_rfl
      · -- ((z % 2 : Nat) : Int) == 1 = false
        have h6 := bh6
        have h6 := ne_of_beq_false h6
        refine SKIP (OUTN (NEXT (REGION [0, 1, 2] rfl (RUN0 2 [2] [(0, .v (.slice b_a b.length b_c)), (3, I ((z / 2 : Nat) : Int)), (4, I (k : Int)), (23, I (wr ((i : Int) + 1)))] ?_ rfl ?_))))
        · as_aux_lemma => kernel_rfl
        refine CAST (d := 23) (vi (wr ((i : Int) + 1))) (vi ((i + 1 : Nat) : Int)) ?_ (vi_cast (by omega) (by omega)) ?_
        · as_aux_lemma => kernel_rfl
        refine RUN0 1 [] [(0, .v (.slice b_a b.length b_c)), (3, I ((z / 2 : Nat) : Int)), (4, I (k : Int)), (5, I ((i + 1 : Nat) : Int))] ?_ rfl ?_
        · as_aux_lemma => kernel_rfl
        refine ENDOPS (BACK (i + 1, r5, z / 2) [0, 3, 4, 5] 0 [] _ ⟨by dsimp only; omega, hvi0.trans (by simp only [crcIt, crcStep]; split <;> first | rfl | (exfalso; omega)), (by first | (dsimp only; omega) | exact xor32 (by omega) (show 3988292384 < 4294967296 by decide))⟩ (by simp) ?_ rfl rfl rfl)
        · as_aux_lemma => kernel_rfl
    · -- decide ((i : Int) < 8) = false
      have h4 := bh4
      have h4 := of_decide_eq_false h4
      obtain rfl : r = 0 := by omega
      refine EXIT (PASS trivial (PASS trivial (OUT (OUTN (NEXT (REGION [0, 1, 2] rfl (RUN0 2 [2] [(0, .v (.slice b_a b.length b_c)), (3, I (z : Int)), (12, I (wr ((k : Int) + 1)))] ?_ rfl ?_)))))))
      · as_aux_lemma => kernel_rfl
      refine CAST (d := 12) (vi (wr ((k : Int) + 1))) (vi ((k + 1 : Nat) : Int)) ?_ (vi_cast (by omega) (by omega)) ?_
      · as_aux_lemma => kernel_rfl
      refine RUN0 1 [] [(0, .v (.slice b_a b.length b_c)), (3, I (z : Int)), (4, I ((k + 1 : Nat) : Int))] ?_ rfl ?_
      · as_aux_lemma => kernel_rfl
      refine ENDOPS (BACK (k + 1, ys3, z) [0, 3, 4] 0 [] _ ⟨hl_y2, hd_y2, hv0.trans ((crcGo_cons x y2 ys3).trans (congrArg (fun q => crcGo q ys3) (hvi0.trans (crcIt_zero z)))), by assumption⟩ (by simp) ?_ rfl rfl rfl)
      · as_aux_lemma => kernel_rfl
  · -- decide ((k : Int) < (b.length : Int)) = false
    have h1 := bh1
    have h1 := of_decide_eq_false h1
    obtain rfl := drop_nil hk (by omega)
    refine EXIT (PASS trivial (PASS trivial (OUT (NEXT (SEQ (REGION [0, 1, 2] rfl (RUN0 2 [2] [(33, I (wr (((BitVec.ofInt 64 (x : Int) ^^^ BitVec.ofInt 64 4294967295).toNat : Int))))] ?_ rfl ?_)))))))
    · as_aux_lemma => kernel_rfl
    refine CAST (d := 33) (vi (wr (((BitVec.ofInt 64 (x : Int) ^^^ BitVec.ofInt 64 4294967295).toNat : Int)))) (vi ((x ^^^ 4294967295 : Nat) : Int)) ?_ (vi_xor x 4294967295 (by omega) (by omega)) ?_
    · as_aux_lemma => kernel_rfl
    refine RUN0 1 [] [(2, I ((x ^^^ 4294967295 : Nat) : Int))] ?_ rfl ?_
    · as_aux_lemma => kernel_rfl
    refine ENDOPS (NEXT (RET (FIN (vi ((x ^^^ 4294967295 : Nat) : Int)) ?_ () ?_ [] ?_)))
    · as_aux_lemma => kernel_rfl
    · (simp only [RV, crc]; rw [hv0, crcGo_nil])
    · rfl

theorem iCrc_c (W : World) (b : List UInt8) (b_a : Option Addr) (b_c : Nat) (hb : Rd byteL W b_a b) : Spec Try.prog W [] 49 #[.slice b_a b.length b_c] (RV (vi ((crc b : Nat) : Int))) := by
  refine ENTER0 (N := 33) (vs := [.slice b_a b.length b_c]) Try.func49 rfl rfl (Nat.le_of_ble_eq_true rfl) ?_
  have hb_len := hb.len
  refine SEQ (REGION [0] rfl (RUN0 1 [] [(0, .v (.slice b_a b.length b_c))] ?_ rfl ?_))
  · as_aux_lemma => kernel_rfl
  refine ENDOPS (NEXT (SEQ (REGION [0] rfl (RUN0 1 [] [(0, .v (.slice b_a b.length b_c)), (3, I 4294967295)] ?_ rfl ?_))))
  · as_aux_lemma => kernel_rfl
  refine ENDOPS (NEXT (SEQ (SEQ (REGION [0, 1, 2] rfl (RUN0 3 [] [(3, I 4294967295), (8, .v (.slice b_a b.length b_c)), (9, I (b.length : Int)), (10, I 0)] ?_ rfl ?_)))))
  · as_aux_lemma => kernel_rfl
  refine ENDOPS (NEXT (BLOCK (LOOP (ι := Nat × (List UInt8) × Nat) (fun j => [(3, I (j.2.2 : Int)), (8, .v (.slice b_a b.length b_c)), (9, I (b.length : Int)), (10, I (j.1 : Int))]) (fun j => []) (fun j => []) (fun j => j.1 + j.2.1.length = b.length ∧ b.drop j.1 = j.2.1 ∧ crcGo 4294967295 b = crcGo j.2.2 j.2.1 ∧ j.2.2 < 4294967296) (fun j => j.2.1.length) (0, b, 4294967295) [3, 8, 9, 10] ⟨by simp, rfl, rfl, by dsimp only; omega⟩ ?_ rfl rfl ?_)))
  · as_aux_lemma => kernel_rfl
  rintro ⟨k, ys, x⟩ ⟨hk, hd, hv0, hv1⟩
  dsimp only at hk hd hv0 hv1
  refine SEQ (REGION [0] rfl (RUN0 1 [] [(3, I (x : Int)), (8, .v (.slice b_a b.length b_c)), (9, I (b.length : Int)), (10, I (k : Int)), (11, B (decide ((k : Int) < (b.length : Int))))] ?_ rfl ?_))
  · as_aux_lemma => kernel_rfl
  refine ENDOPS (NEXT (SEQ (IF (decide ((k : Int) < (b.length : Int))) ?_ (fun bh1 => ?_) (fun bh1 => ?_))))
  · as_aux_lemma => kernel_rfl
  · -- decide ((k : Int) < (b.length : Int)) = true
    have h1 := bh1
    have h1 := of_decide_eq_true h1
    obtain ⟨y2, ys3, rfl, hx_y2, hd_y2, hl_y2⟩ := drop_cons hd hk (by omega)
    have := UInt8.toNat_lt y2
    refine SKIP (NEXT (SEQ (BLOCK (SEQ (REGION [0, 1, 2] rfl (OPC (INDEX 62 (.tmp 8) (.tmp 10) 12 0 ?_ (Nat.le_of_ble_eq_true rfl) b_a b.length b_c .i64 (k : Int) 5 1 ?_ ?_ ?_ ?_ (Rd.some hb (by omega)) (by omega) (by omega) ?_)))))))
    · as_aux_lemma => kernel_rfl
    · as_aux_lemma => kernel_rfl
    · as_aux_lemma => kernel_rfl
    · as_aux_lemma => kernel_rfl
    · as_aux_lemma => kernel_rfl
    refine OPC (LOADE 5 (.tmp 12) 13 5 ?_ (Nat.le_of_ble_eq_true rfl) b_a (k * 1) 0 [.int .u8 (y2.toNat : Int)] (.int .u8 (y2.toNat : Int)) ?_ (fun w hw => (hb.fr hw.fr).flat hx_y2) ?_ ?_)
    · as_aux_lemma => kernel_rfl
    · as_aux_lemma => kernel_rfl
    · as_aux_lemma => kernel_rfl
    refine RUN0 1 [] [(3, I (x : Int)), (5, .v (.int .u8 (y2.toNat : Int))), (8, .v (.slice b_a b.length b_c)), (9, I (b.length : Int)), (10, I (k : Int))] ?_ rfl ?_
    · as_aux_lemma => kernel_rfl
    refine ENDOPS (NEXT (SEQ (REGION [0, 1, 2, 3, 4] rfl (RUN0 3 [3, 4] [(8, .v (.slice b_a b.length b_c)), (9, I (b.length : Int)), (10, I (k : Int)), (14, I (x : Int)), (16, I (IntKind.wrap .i64 (y2.toNat : Int)))] ?_ rfl ?_))))
    · as_aux_lemma => kernel_rfl
    refine CAST (d := 16) (vi (IntKind.wrap .i64 (y2.toNat : Int))) (vi (y2.toNat : Int)) ?_ (vi_u8 y2) ?_
    · as_aux_lemma => kernel_rfl
    refine RUN0 1 [4] [(8, .v (.slice b_a b.length b_c)), (9, I (b.length : Int)), (10, I (k : Int)), (17, I (wr (((BitVec.ofInt 64 (x : Int) ^^^ BitVec.ofInt 64 (y2.toNat : Int)).toNat : Int))))] ?_ rfl ?_
    · as_aux_lemma => kernel_rfl
    refine CAST (d := 17) (vi (wr (((BitVec.ofInt 64 (x : Int) ^^^ BitVec.ofInt 64 (y2.toNat : Int)).toNat : Int)))) (vi ((x ^^^ y2.toNat : Nat) : Int)) ?_ (vi_xor x y2.toNat (by omega) (by omega)) ?_
    · as_aux_lemma => kernel_rfl
    refine RUN0 1 [] [(3, I ((x ^^^ y2.toNat : Nat) : Int)), (8, .v (.slice b_a b.length b_c)), (9, I (b.length : Int)), (10, I (k : Int))] ?_ rfl ?_
    · as_aux_lemma => kernel_rfl
    refine ENDOPS (NEXT (SEQ (REGION [0] rfl (RUN0 1 [] [(3, I ((x ^^^ y2.toNat : Nat) : Int)), (6, I 0), (8, .v (.slice b_a b.length b_c)), (9, I (b.length : Int)), (10, I (k : Int))] ?_ rfl ?_))))
    · as_aux_lemma => kernel_rfl
    refine ENDOPS (NEXT (BLOCK (LOOP (ι := Nat × Nat × Nat) (fun j => [(3, I (j.2.2 : Int)), (6, I (j.1 : Int)), (8, .v (.slice b_a b.length b_c)), (9, I (b.length : Int)), (10, I (k : Int))]) (fun j => []) (fun j => []) (fun j => j.1 + j.2.1 = 8 ∧ crcIt 8 (x ^^^ y2.toNat) = crcIt j.2.1 j.2.2 ∧ j.2.2 < 4294967296) (fun j => j.2.1) (0, 8, x ^^^ y2.toNat) [3, 6, 8, 9, 10] ⟨by simp, rfl, crc8_lt hv1 _⟩ ?_ rfl rfl ?_)))
    · as_aux_lemma => kernel_rfl
    rintro ⟨i, r, z⟩ ⟨hki, hvi0, hvi1⟩
    dsimp only at hki hvi0 hvi1
    refine SEQ (SEQ (REGION [0, 1] rfl (RUN0 2 [] [(3, I (z : Int)), (6, I (i : Int)), (8, .v (.slice b_a b.length b_c)), (9, I (b.length : Int)), (10, I (k : Int)), (19, B (decide ((i : Int) < 8)))] ?_ rfl ?_)))
    · as_aux_lemma => kernel_rfl
    refine ENDOPS (NEXT (IF (decide ((i : Int) < 8)) ?_ (fun bh4 => ?_) (fun bh4 => ?_)))
    · as_aux_lemma => kernel_rfl
    · -- decide ((i : Int) < 8) = true
      have h4 := bh4
      have h4 := of_decide_eq_true h4
      obtain ⟨r5, rfl⟩ : ∃ z, r = z + 1 := ⟨r - 1, by omega⟩
      refine SKIP (NEXT (SEQ (BLOCK (SEQ (REGION [0, 1, 2] rfl (RUN0 2 [2] [(3, I (z : Int)), (6, I (i : Int)), (8, .v (.slice b_a b.length b_c)), (9, I (b.length : Int)), (10, I (k : Int)), (23, I (wr (((BitVec.ofInt 64 (z : Int) &&& BitVec.ofInt 64 1).toNat : Int))))] ?_ rfl ?_))))))
      · as_aux_lemma => kernel_rfl
      refine CAST (d := 23) (vi (wr (((BitVec.ofInt 64 (z : Int) &&& BitVec.ofInt 64 1).toNat : Int)))) (vi ((z % 2 : Nat) : Int)) ?_ (vi_and1 z (by omega)) ?_
      · as_aux_lemma => kernel_rfl
      refine RUN0 1 [] [(3, I (z : Int)), (6, I (i : Int)), (7, I ((z % 2 : Nat) : Int)), (8, .v (.slice b_a b.length b_c)), (9, I (b.length : Int)), (10, I (k : Int))] ?_ rfl ?_
      · as_aux_lemma => kernel_rfl
      refine ENDOPS (NEXT (SEQ (REGION [0, 1, 2] rfl (RUN0 2 [2] [(6, I (i : Int)), (7, I ((z % 2 : Nat) : Int)), (8, .v (.slice b_a b.length b_c)), (9, I (b.length : Int)), (10, I (k : Int)), (25, I (Int.fdiv (z : Int) (2 ^ 1)))] ?_ rfl ?_))))
      · as_aux_lemma => kernel_rfl
      refine CAST (d := 25) (vi (Int.fdiv (z : Int) (2 ^ 1))) (vi ((z / 2 ^ 1 : Nat) : Int)) ?_ (vi_shr z 1) ?_
      · as_aux_lemma => kernel_rfl
      refine RUN0 1 [] [(3, I ((z / 2 ^ 1 : Nat) : Int)), (6, I (i : Int)), (7, I ((z % 2 : Nat) : Int)), (8, .v (.slice b_a b.length b_c)), (9, I (b.length : Int)), (10, I (k : Int))] ?_ rfl ?_
      · as_aux_lemma => kernel_rfl
      refine ENDOPS (NEXT (SEQ (REGION [0, 1] rfl (RUN0 2 [] [(3, I ((z / 2 ^ 1 : Nat) : Int)), (6, I (i : Int)), (8, .v (.slice b_a b.length b_c)), (9, I (b.length : Int)), (10, I (k : Int)), (27, B (((z % 2 : Nat) : Int) == 1))] ?_ rfl ?_))))
      · as_aux_lemma => kernel_rfl
      refine ENDOPS (NEXT (IF (((z % 2 : Nat) : Int) == 1) ?_ (fun bh6 => ?_) (fun bh6 => ?_)))
      · as_aux_lemma => kernel_rfl
      · -- ((z % 2 : Nat) : Int) == 1 = true
        have h6 := bh6
        have h6 := eq_of_beq h6
        refine REGION [0, 1, 2] rfl (RUN0 2 [2] [(6, I (i : Int)), (8, .v (.slice b_a b.length b_c)), (9, I (b.length : Int)), (10, I (k : Int)), (29, I (wr (((BitVec.ofInt 64 ((z / 2 ^ 1 : Nat) : Int) ^^^ BitVec.ofInt 64 3988292384).toNat : Int))))] ?_ rfl ?_)
        · as_aux_lemma => kernel_rfl
        refine CAST (d := 29) (vi (wr (((BitVec.ofInt 64 ((z / 2 ^ 1 : Nat) : Int) ^^^ BitVec.ofInt 64 3988292384).toNat : Int)))) (vi (((z / 2 ^ 1) ^^^ 3988292384 : Nat) : Int)) ?_ (vi_xor (z / 2 ^ 1) 3988292384 (by omega) (by omega)) ?_
        · as_aux_lemma => kernel_rfl
        refine RUN0 1 [] [(3, I (((z / 2 ^ 1) ^^^ 3988292384 : Nat) : Int)), (6, I (i : Int)), (8, .v (.slice b_a b.length b_c)), (9, I (b.length : Int)), (10, I (k : Int))] ?_ rfl ?_
        · as_aux_lemma => kernel_rfl
        refine ENDOPS (OUTN (NEXT (REGION [0, 1, 2] rfl (RUN0 2 [2] [(3, I (((z / 2 ^ 1) ^^^ 3988292384 : Nat) : Int)), (8, .v (.slice b_a b.length b_c)), (9, I (b.length : Int)), (10, I (k : Int)), (21, I (wr ((i : Int) + 1)))] ?_ rfl ?_))))
        · as_aux_lemma => kernel_rfl
        refine CAST (d := 21) (vi (wr ((i : Int) + 1))) (vi ((i + 1 : Nat) : Int)) ?_ (vi_cast (by omega) (by omega)) ?_
        · as_aux_lemma => kernel_rfl
        refine RUN0 1 [] [(3, I (((z / 2 ^ 1) ^^^ 3988292384 : Nat) : Int)), (6, I ((i + 1 : Nat) : Int)), (8, .v (.slice b_a b.length b_c)), (9, I (b.length : Int)), (10, I (k : Int))] ?_ rfl ?_
        · as_aux_lemma => kernel_rfl
        refine ENDOPS (BACK (i + 1, r5, (z / 2 ^ 1) ^^^ 3988292384) [3, 6, 8, 9, 10] 0 [] _ ⟨by dsimp only; omega, hvi0.trans (by simp only [crcIt, crcStep]; split <;> first | rfl | (exfalso; omega)), (by first | (dsimp only; omega) | exact xor32 (by omega) (show 3988292384 < 4294967296 by decide))⟩ (by simp) ?_ rfl rfl rfl)
        · as_aux_lemma => kernel_rfl
      · -- ((z % 2 : Nat) : Int) == 1 = false
        have h6 := bh6
        have h6 := ne_of_beq_false h6
        refine SKIP (OUTN (NEXT (REGION [0, 1, 2] rfl (RUN0 2 [2] [(3, I ((z / 2 ^ 1 : Nat) : Int)), (8, .v (.slice b_a b.length b_c)), (9, I (b.length : Int)), (10, I (k : Int)), (21, I (wr ((i : Int) + 1)))] ?_ rfl ?_))))
        · as_aux_lemma => kernel_rfl
        refine CAST (d := 21) (vi (wr ((i : Int) + 1))) (vi ((i + 1 : Nat) : Int)) ?_ (vi_cast (by omega) (by omega)) ?_
        · as_aux_lemma => kernel_rfl
        refine RUN0 1 [] [(3, I ((z / 2 ^ 1 : Nat) : Int)), (6, I ((i + 1 : Nat) : Int)), (8, .v (.slice b_a b.length b_c)), (9, I (b.length : Int)), (10, I (k : Int))] ?_ rfl ?_
        · as_aux_lemma => kernel_rfl
        refine ENDOPS (BACK (i + 1, r5, z / 2 ^ 1) [3, 6, 8, 9, 10] 0 [] _ ⟨by dsimp only; omega, hvi0.trans (by simp only [crcIt, crcStep]; split <;> first | rfl | (exfalso; omega)), (by first | (dsimp only; omega) | exact xor32 (by omega) (show 3988292384 < 4294967296 by decide))⟩ (by simp) ?_ rfl rfl rfl)
        · as_aux_lemma => kernel_rfl
    · -- decide ((i : Int) < 8) = false
      have h4 := bh4
      have h4 := of_decide_eq_false h4
      obtain rfl : r = 0 := by omega
      refine EXIT (PASS trivial (PASS trivial (OUT (OUTN (NEXT (REGION [0, 1] rfl (RUN0 1 [1] [(3, I (z : Int)), (8, .v (.slice b_a b.length b_c)), (9, I (b.length : Int)), (30, I (wr ((k : Int) + 1)))] ?_ rfl ?_)))))))
      · as_aux_lemma => kernel_rfl
      refine CAST (d := 30) (vi (wr ((k : Int) + 1))) (vi ((k + 1 : Nat) : Int)) ?_ (vi_cast (by omega) (by omega)) ?_
      · as_aux_lemma => kernel_rfl
      refine RUN0 1 [] [(3, I (z : Int)), (8, .v (.slice b_a b.length b_c)), (9, I (b.length : Int)), (10, I ((k + 1 : Nat) : Int))] ?_ rfl ?_
      · as_aux_lemma => kernel_rfl
      refine ENDOPS (BACK (k + 1, ys3, z) [3, 8, 9, 10] 0 [] _ ⟨hl_y2, hd_y2, hv0.trans ((crcGo_cons x y2 ys3).trans (congrArg (fun q => crcGo q ys3) (hvi0.trans (crcIt_zero z)))), by assumption⟩ (by simp) ?_ rfl rfl rfl)
      · as_aux_lemma => kernel_rfl
  · -- decide ((k : Int) < (b.length : Int)) = false
    have h1 := bh1
    have h1 := of_decide_eq_false h1
    obtain rfl := drop_nil hk (by omega)
    refine EXIT (PASS trivial (PASS trivial (OUT (NEXT (SEQ (REGION [0, 1, 2] rfl (RUN0 2 [2] [(32, I (wr (((BitVec.ofInt 64 (x : Int) ^^^ BitVec.ofInt 64 4294967295).toNat : Int))))] ?_ rfl ?_)))))))
    · as_aux_lemma => kernel_rfl
    refine CAST (d := 32) (vi (wr (((BitVec.ofInt 64 (x : Int) ^^^ BitVec.ofInt 64 4294967295).toNat : Int)))) (vi ((x ^^^ 4294967295 : Nat) : Int)) ?_ (vi_xor x 4294967295 (by omega) (by omega)) ?_
    · as_aux_lemma => kernel_rfl
    refine RUN0 1 [] [(2, I ((x ^^^ 4294967295 : Nat) : Int))] ?_ rfl ?_
    · as_aux_lemma => kernel_rfl
    refine ENDOPS (NEXT (RET (FIN (vi ((x ^^^ 4294967295 : Nat) : Int)) ?_ () ?_ [] ?_)))
    · as_aux_lemma => kernel_rfl
    · (simp only [RV, crc]; rw [hv0, crcGo_nil])
    · rfl

theorem four_c (W : World) (n : Int) : Spec Try.prog W [] 46 #[vi n] (RV (.string (bs (four n)))) := by
  refine ENTER0 (N := 16) (vs := [vi n]) Try.func46 rfl rfl (Nat.le_of_ble_eq_true rfl) ?_
  refine SEQ (REGION [0] rfl (RUN0 1 [] [(0, I n)] ?_ rfl ?_))
  · as_aux_lemma => kernel_rfl
  refine ENDOPS (NEXT (SEQ (REGION [0, 1, 2, 3, 4, 5, 6, 7, 8, 9, 10, 11, 12, 13] rfl (RUN0 3 [3, 4, 5, 6, 7, 8, 9, 10, 11, 12, 13] [(0, I n), (5, .v (.int .u8 (IntKind.wrap .u8 (Int.fdiv n (2 ^ 24)))))] ?_ rfl ?_))))
  · as_aux_lemma => kernel_rfl
  refine CAST (d := 5) (.int .u8 (IntKind.wrap .u8 (Int.fdiv n (2 ^ 24)))) (.int .u8 (((byteOf (Int.fdiv n (2 ^ 24))).toNat : Nat) : Int)) ?_ (v8 (Int.fdiv n (2 ^ 24))) ?_
  · as_aux_lemma => kernel_rfl
  refine RUN0 3 [6, 7, 8, 9, 10, 11, 12, 13] [(0, I n), (5, .v (.int .u8 (((byteOf (Int.fdiv n (2 ^ 24))).toNat : Nat) : Int))), (8, .v (.int .u8 (IntKind.wrap .u8 (Int.fdiv n (2 ^ 16)))))] ?_ rfl ?_
  · as_aux_lemma => kernel_rfl
  refine CAST (d := 8) (.int .u8 (IntKind.wrap .u8 (Int.fdiv n (2 ^ 16)))) (.int .u8 (((byteOf (Int.fdiv n (2 ^ 16))).toNat : Nat) : Int)) ?_ (v8 (Int.fdiv n (2 ^ 16))) ?_
  · as_aux_lemma => kernel_rfl
  refine RUN0 3 [9, 10, 11, 12, 13] [(0, I n), (5, .v (.int .u8 (((byteOf (Int.fdiv n (2 ^ 24))).toNat : Nat) : Int))), (8, .v (.int .u8 (((byteOf (Int.fdiv n (2 ^ 16))).toNat : Nat) : Int))), (11, .v (.int .u8 (IntKind.wrap .u8 (Int.fdiv n (2 ^ 8)))))] ?_ rfl ?_
  · as_aux_lemma => kernel_rfl
  refine CAST (d := 11) (.int .u8 (IntKind.wrap .u8 (Int.fdiv n (2 ^ 8)))) (.int .u8 (((byteOf (Int.fdiv n (2 ^ 8))).toNat : Nat) : Int)) ?_ (v8 (Int.fdiv n (2 ^ 8))) ?_
  · as_aux_lemma => kernel_rfl
  refine RUN0 2 [11, 12, 13] [(5, .v (.int .u8 (((byteOf (Int.fdiv n (2 ^ 24))).toNat : Nat) : Int))), (8, .v (.int .u8 (((byteOf (Int.fdiv n (2 ^ 16))).toNat : Nat) : Int))), (11, .v (.int .u8 (((byteOf (Int.fdiv n (2 ^ 8))).toNat : Nat) : Int))), (13, .v (.int .u8 (IntKind.wrap .u8 n)))] ?_ rfl ?_
  · as_aux_lemma => kernel_rfl
  refine CAST (d := 13) (.int .u8 (IntKind.wrap .u8 n)) (.int .u8 (((byteOf n).toNat : Nat) : Int)) ?_ (v8 n) ?_
  · as_aux_lemma => kernel_rfl
  refine OPC (BUILDS 62 4 #[(0, .tmp 5), (1, .tmp 8), (2, .tmp 11), (3, .tmp 13)] 14 62 ?_ (Nat.le_of_ble_eq_true rfl) 5 [.int .u8 (((byteOf (Int.fdiv n (2 ^ 24))).toNat : Nat) : Int), .int .u8 (((byteOf (Int.fdiv n (2 ^ 16))).toNat : Nat) : Int), .int .u8 (((byteOf (Int.fdiv n (2 ^ 8))).toNat : Nat) : Int), .int .u8 (((byteOf n).toNat : Nat) : Int)] ?_ byteL [byteOf (Int.fdiv n (2 ^ 24)), byteOf (Int.fdiv n (2 ^ 16)), byteOf (Int.fdiv n (2 ^ 8)), byteOf n] rfl (by simp only [maxLen]; omega) [] [] _ rfl (flatRep rfl) (fun a1 ha2 => ?_))
  · as_aux_lemma => kernel_rfl
  · as_aux_lemma => kernel_rfl
  refine FACT (4 = ([byteOf (Int.fdiv n (2 ^ 24)), byteOf (Int.fdiv n (2 ^ 16)), byteOf (Int.fdiv n (2 ^ 8)), byteOf n]).length) (fun w hw => (SlO.lenE (hw.own 0 rfl)).1) (fun hln3 => ?_)
  refine OPC (RUNV (.convert 62 9 (.tmp 14)) 15 9 ?_ (Nat.le_of_ble_eq_true rfl) (.string (bs ([byteOf (Int.fdiv n (2 ^ 24)), byteOf (Int.fdiv n (2 ^ 16)), byteOf (Int.fdiv n (2 ^ 8)), byteOf n]))) (runs_bstr (a := a1) (n := 4) (c := 4) (xs := [byteOf (Int.fdiv n (2 ^ 24)), byteOf (Int.fdiv n (2 ^ 16)), byteOf (Int.fdiv n (2 ^ 8)), byteOf n]) (e := 5) ?_ ?_ ?_ ?_ hln3.symm (fun w hw => (Rd.own (hw.own 0 rfl)))) ?_)
  · as_aux_lemma => kernel_rfl
  · as_aux_lemma => kernel_rfl
  · as_aux_lemma => kernel_rfl
  · as_aux_lemma => kernel_rfl
  · as_aux_lemma => kernel_rfl
  refine RUN0 1 [] [(2, .v (.string (bs ([byteOf (Int.fdiv n (2 ^ 24)), byteOf (Int.fdiv n (2 ^ 16)), byteOf (Int.fdiv n (2 ^ 8)), byteOf n]))))] ?_ rfl ?_
  · as_aux_lemma => kernel_rfl
  refine ENDOPS (NEXT (RET (FIN (.string (bs ([byteOf (Int.fdiv n (2 ^ 24)), byteOf (Int.fdiv n (2 ^ 16)), byteOf (Int.fdiv n (2 ^ 8)), byteOf n]))) ?_ () ?_ [] ?_)))
  · as_aux_lemma => kernel_rfl
  · simp [RV, four]
  · rfl

theorem sNums_c (W : World) (list : List Int) (list_a : Option Addr) (list_c : Nat) (hlist : Rd intL W list_a list) (hb : list.length ≤ 1048576) : Spec Try.prog W [] 44 #[.slice list_a list.length list_c] (RV (.string (bs (putNums list)))) := by
  refine ENTER0 (N := 21) (vs := [.slice list_a list.length list_c]) Try.func44 rfl rfl (Nat.le_of_ble_eq_true rfl) ?_
  have hlist_len := hlist.len
  refine SEQ (REGION [0] rfl (RUN0 1 [] [(0, .v (.slice list_a list.length list_c))] ?_ rfl ?_))
  · as_aux_lemma => kernel_rfl
  refine ENDOPS (NEXT (SEQ (REGION [0, 1] rfl (OPC (BUILDS 62 0 #[] 5 62 ?_ (Nat.le_of_ble_eq_true rfl) 5 [] ?_ byteL [] rfl (by simp only [maxLen]; omega) [] [] _ rfl (flatRep rfl) (fun a1 ha2 => ?_))))))
  · as_aux_lemma => kernel_rfl
  · as_aux_lemma => kernel_rfl
  refine RUN0 1 [] [(0, .v (.slice list_a list.length list_c)), (3, .v (.slice a1 0 0))] ?_ rfl ?_
  · as_aux_lemma => kernel_rfl
  refine ENDOPS (NEXT (SEQ (SEQ (REGION [0] rfl (RUN0 1 [] [(0, .v (.slice list_a list.length list_c)), (3, .v (.slice a1 0 0)), (4, I 0)] ?_ rfl ?_)))))
  · as_aux_lemma => kernel_rfl
  refine ENDOPS (NEXT (BLOCK (LOOP (ι := Nat × (List Int) × (Option Addr) × Nat × (List UInt8)) (fun j => [(0, .v (.slice list_a list.length list_c)), (3, .v (.slice j.2.2.1 j.2.2.2.2.length j.2.2.2.1)), (4, I (j.1 : Int))]) (fun j => []) (fun j => [slA 5 byteL (.slice j.2.2.1 j.2.2.2.2.length j.2.2.2.1) j.2.2.2.2]) (fun j => j.1 + j.2.1.length = list.length ∧ list.drop j.1 = j.2.1 ∧ putNums list = j.2.2.2.2 ++ putNums j.2.1 ∧ j.2.2.2.2.length ≤ 5 * j.1) (fun j => j.2.1.length) (0, list, a1, 0, []) [0, 3, 4] ⟨by simp, rfl, rfl, by simp⟩ ?_ rfl rfl ?_)))
  · as_aux_lemma => kernel_rfl
  rintro ⟨k, ys, oa, oc, out⟩ ⟨hk, hd, hv0, hv1⟩
  dsimp only at hk hd hv0 hv1
  refine SEQ (SEQ (REGION [0, 1, 2, 3] rfl (RUN0 4 [] [(0, .v (.slice list_a list.length list_c)), (3, .v (.slice oa out.length oc)), (4, I (k : Int)), (9, B (decide ((k : Int) < (list.length : Int))))] ?_ rfl ?_)))
  · as_aux_lemma => kernel_rfl
  refine ENDOPS (NEXT (IF (decide ((k : Int) < (list.length : Int))) ?_ (fun bh3 => ?_) (fun bh3 => ?_)))
  · as_aux_lemma => kernel_rfl
  · -- decide ((k : Int) < (list.length : Int)) = true
    have h3 := bh3
    have h3 := of_decide_eq_true h3
    obtain ⟨y4, ys5, rfl, hx_y4, hd_y4, hl_y4⟩ := drop_cons hd hk (by omega)
    refine SKIP (NEXT (SEQ (BLOCK (REGION [0, 1, 2, 3, 4, 5, 6, 7] rfl (RUN0 3 [3, 4, 5, 6, 7] [(0, .v (.slice list_a list.length list_c)), (4, I (k : Int)), (12, .v (.slice oa out.length oc)), (13, .v (.slice list_a list.length list_c)), (14, I (k : Int))] ?_ rfl ?_)))))
    · as_aux_lemma => kernel_rfl
    refine OPC (INDEX 24 (.tmp 13) (.tmp 14) 15 0 ?_ (Nat.le_of_ble_eq_true rfl) list_a list.length list_c .i64 (k : Int) 3 1 ?_ ?_ ?_ ?_ (Rd.some hlist (by omega)) (by omega) (by omega) ?_)
    · as_aux_lemma => kernel_rfl
    · as_aux_lemma => kernel_rfl
    · as_aux_lemma => kernel_rfl
    · as_aux_lemma => kernel_rfl
    · as_aux_lemma => kernel_rfl
    refine OPC (LOADE 3 (.tmp 15) 16 3 ?_ (Nat.le_of_ble_eq_true rfl) list_a (k * 1) 0 [vi y4] (vi y4) ?_ (fun w hw => (hlist.fr hw.fr).flat hx_y4) ?_ ?_)
    · as_aux_lemma => kernel_rfl
    · as_aux_lemma => kernel_rfl
    · as_aux_lemma => kernel_rfl
    refine OPC (CALL 45 #[vi y4] (some 17) ?_ [] [] _ rfl (⟨HH, fun p => .slice p.1 ((putNum y4).length) p.2, fun p => [slA 5 byteL (.slice p.1 (putNum y4).length p.2) (putNum y4)]⟩) (fun w hw => sPutNum_c w y4) (by rintro _ ⟨⟩; exact Nat.le_of_ble_eq_true rfl) ?_)
    · as_aux_lemma => kernel_rfl
    rintro ⟨a6, c7⟩
    have hr8 := putNum_len y4
    refine OPC (APPENDR 62 (.tmp 12) (.tmp 17) 18 62 ?_ (Nat.le_of_ble_eq_true rfl) (.slice oa out.length oc) a6 ((putNum y4).length) c7 ?_ ?_ 5 ?_ (.int .u8 0) 1 ?_ rfl (by decide) 0 out (putNum y4) _ rfl rfl (fun w hw => (Rd.own (hw.own 1 rfl))) (by have := putNum_len y4; omega) (by have := putNum_len y4; simp only [maxLen]; omega) (fun a9 c10 hn11 => ?_))
    · as_aux_lemma => kernel_rfl
    · as_aux_lemma => kernel_rfl
    · as_aux_lemma => kernel_rfl
    · as_aux_lemma => kernel_rfl
    · as_aux_lemma => kernel_rfl
    refine RUN0 1 [] [(0, .v (.slice list_a list.length list_c)), (3, .v (.slice a9 ((out ++ (putNum y4)).length) c10)), (4, I (k : Int))] ?_ rfl ?_
    · as_aux_lemma => kernel_rfl
    refine ENDOPS (OUTN (NEXT (REGION [0, 1, 2] rfl (RUN0 2 [2] [(0, .v (.slice list_a list.length list_c)), (3, .v (.slice a9 ((out ++ (putNum y4)).length) c10)), (11, I (wr ((k : Int) + 1)))] ?_ rfl ?_))))
    · as_aux_lemma => kernel_rfl
    refine CAST (d := 11) (vi (wr ((k : Int) + 1))) (vi ((k + 1 : Nat) : Int)) ?_ (vi_cast (by omega) (by omega)) ?_
    · as_aux_lemma => kernel_rfl
    refine RUN0 1 [] [(0, .v (.slice list_a list.length list_c)), (3, .v (.slice a9 ((out ++ (putNum y4)).length) c10)), (4, I ((k + 1 : Nat) : Int))] ?_ rfl ?_
    · as_aux_lemma => kernel_rfl
    refine ENDOPS (BACK (k + 1, ys5, a9, c10, out ++ (putNum y4)) [0, 3, 4] 0 [1] _ ⟨hl_y4, hd_y4, hv0.trans (by simp [putNums]), by have := putNum_len y4; simp only [List.length_append]; omega⟩ (by simp) ?_ rfl rfl rfl)
    · as_aux_lemma => kernel_rfl
  · -- decide ((k : Int) < (list.length : Int)) = false
    have h3 := bh3
    have h3 := of_decide_eq_false h3
    obtain rfl := drop_nil hk (by omega)
    refine EXIT (PASS trivial (PASS trivial (OUT (NEXT (SEQ (REGION [0, 1, 2] rfl (RUN0 1 [1, 2] [(19, .v (.slice oa out.length oc))] ?_ rfl ?_)))))))
    · as_aux_lemma => kernel_rfl
    refine OPC (RUNV (.convert 62 9 (.tmp 19)) 20 9 ?_ (Nat.le_of_ble_eq_true rfl) (.string (bs out)) (runs_bstr (a := oa) (n := out.length) (c := oc) (xs := out) (e := 5) ?_ ?_ ?_ ?_ rfl (fun w hw => (Rd.own (hw.own 0 rfl)))) ?_)
    · as_aux_lemma => kernel_rfl
    · as_aux_lemma => kernel_rfl
    · as_aux_lemma => kernel_rfl
    · as_aux_lemma => kernel_rfl
    · as_aux_lemma => kernel_rfl
    refine RUN0 1 [] [(2, .v (.string (bs out)))] ?_ rfl ?_
    · as_aux_lemma => kernel_rfl
    refine ENDOPS (NEXT (RET (FIN (.string (bs out)) ?_ () ?_ [] ?_)))
    · as_aux_lemma => kernel_rfl
    · (simp only [RV, hv0]; simp [putNums])
    · rfl

theorem iNums_c (W : World) (list : List Int) (list_a : Option Addr) (list_c : Nat) (hlist : Rd intL W list_a list) (hb : list.length ≤ 1048576) : Spec Try.prog W [] 50 #[.slice list_a list.length list_c] (RV (.string (bs (putNums list)))) := by
  refine ENTER0 (N := 19) (vs := [.slice list_a list.length list_c]) Try.func50 rfl rfl (Nat.le_of_ble_eq_true rfl) ?_
  have hlist_len := hlist.len
  refine SEQ (REGION [0] rfl (RUN0 1 [] [(0, .v (.slice list_a list.length list_c))] ?_ rfl ?_))
  · as_aux_lemma => kernel_rfl
  refine ENDOPS (NEXT (SEQ (REGION [0] rfl (RUN0 1 [] [(0, .v (.slice list_a list.length list_c)), (3, .v (.slice none 0 0))] ?_ rfl ?_))))
  · as_aux_lemma => kernel_rfl
  refine ENDOPS (NEXT (SEQ (SEQ (REGION [0, 1, 2] rfl (RUN0 3 [] [(3, .v (.slice none 0 0)), (6, .v (.slice list_a list.length list_c)), (7, I (list.length : Int)), (8, I 0)] ?_ rfl ?_)))))
  · as_aux_lemma => kernel_rfl
  refine ENDOPS (NEXT (BLOCK (NIL 5 byteL ?_)))
  refine LOOP (ι := Nat × (List Int) × (Option Addr) × Nat × (List UInt8)) (fun j => [(3, .v (.slice j.2.2.1 j.2.2.2.2.length j.2.2.2.1)), (6, .v (.slice list_a list.length list_c)), (7, I (list.length : Int)), (8, I (j.1 : Int))]) (fun j => []) (fun j => [slA 5 byteL (.slice j.2.2.1 j.2.2.2.2.length j.2.2.2.1) j.2.2.2.2]) (fun j => j.1 + j.2.1.length = list.length ∧ list.drop j.1 = j.2.1 ∧ putNums list = j.2.2.2.2 ++ putNums j.2.1 ∧ j.2.2.2.2.length ≤ 5 * j.1) (fun j => j.2.1.length) (0, list, none, 0, []) [3, 6, 7, 8] ⟨by simp, rfl, rfl, by simp⟩ ?_ rfl rfl ?_
  · as_aux_lemma => kernel_rfl
  rintro ⟨k, ys, oa, oc, out⟩ ⟨hk, hd, hv0, hv1⟩
  dsimp only at hk hd hv0 hv1
  refine SEQ (REGION [0] rfl (RUN0 1 [] [(3, .v (.slice oa out.length oc)), (6, .v (.slice list_a list.length list_c)), (7, I (list.length : Int)), (8, I (k : Int)), (9, B (decide ((k : Int) < (list.length : Int))))] ?_ rfl ?_))
  · as_aux_lemma => kernel_rfl
  refine ENDOPS (NEXT (SEQ (IF (decide ((k : Int) < (list.length : Int))) ?_ (fun bh1 => ?_) (fun bh1 => ?_))))
  · as_aux_lemma => kernel_rfl
  · -- decide ((k : Int) < (list.length : Int)) = true
    have h1 := bh1
    have h1 := of_decide_eq_true h1
    obtain ⟨y2, ys3, rfl, hx_y2, hd_y2, hl_y2⟩ := drop_cons hd hk (by omega)
    refine SKIP (NEXT (SEQ (BLOCK (SEQ (REGION [0, 1, 2] rfl (OPC (INDEX 24 (.tmp 6) (.tmp 8) 10 0 ?_ (Nat.le_of_ble_eq_true rfl) list_a list.length list_c .i64 (k : Int) 3 1 ?_ ?_ ?_ ?_ (Rd.some hlist (by omega)) (by omega) (by omega) ?_)))))))
    · as_aux_lemma => kernel_rfl
    · as_aux_lemma => kernel_rfl
    · as_aux_lemma => kernel_rfl
    · as_aux_lemma => kernel_rfl
    · as_aux_lemma => kernel_rfl
    refine OPC (LOADE 3 (.tmp 10) 11 3 ?_ (Nat.le_of_ble_eq_true rfl) list_a (k * 1) 0 [vi y2] (vi y2) ?_ (fun w hw => (hlist.fr hw.fr).flat hx_y2) ?_ ?_)
    · as_aux_lemma => kernel_rfl
    · as_aux_lemma => kernel_rfl
    · as_aux_lemma => kernel_rfl
    refine RUN0 1 [] [(3, .v (.slice oa out.length oc)), (5, I y2), (6, .v (.slice list_a list.length list_c)), (7, I (list.length : Int)), (8, I (k : Int))] ?_ rfl ?_
    · as_aux_lemma => kernel_rfl
    refine ENDOPS (NEXT (REGION [0, 1, 2, 3, 4] rfl (RUN0 2 [2, 3, 4] [(6, .v (.slice list_a list.length list_c)), (7, I (list.length : Int)), (8, I (k : Int)), (12, .v (.slice oa out.length oc)), (13, I y2)] ?_ rfl ?_)))
    · as_aux_lemma => kernel_rfl
    refine OPC (CALL 48 #[vi y2] (some 14) ?_ [] [] _ rfl (⟨HH, fun p => .slice p.1 ((putNum y2).length) p.2, fun p => [slA 5 byteL (.slice p.1 (putNum y2).length p.2) (putNum y2)]⟩) (fun w hw => iPutNum_c w y2) (by rintro _ ⟨⟩; exact Nat.le_of_ble_eq_true rfl) ?_)
    · as_aux_lemma => kernel_rfl
    rintro ⟨a4, c5⟩
    have hr6 := putNum_len y2
    refine OPC (APPENDR 62 (.tmp 12) (.tmp 14) 15 62 ?_ (Nat.le_of_ble_eq_true rfl) (.slice oa out.length oc) a4 ((putNum y2).length) c5 ?_ ?_ 5 ?_ (.int .u8 0) 1 ?_ rfl (by decide) 0 out (putNum y2) _ rfl rfl (fun w hw => (Rd.own (hw.own 1 rfl))) (by have := putNum_len y2; omega) (by have := putNum_len y2; simp only [maxLen]; omega) (fun a7 c8 hn9 => ?_))
    · as_aux_lemma => kernel_rfl
    · as_aux_lemma => kernel_rfl
    · as_aux_lemma => kernel_rfl
    · as_aux_lemma => kernel_rfl
    · as_aux_lemma => kernel_rfl
    refine RUN0 1 [] [(3, .v (.slice a7 ((out ++ (putNum y2)).length) c8)), (6, .v (.slice list_a list.length list_c)), (7, I (list.length : Int)), (8, I (k : Int))] ?_ rfl ?_
    · as_aux_lemma => kernel_rfl
    refine ENDOPS (OUTN (NEXT (REGION [0, 1] rfl (RUN0 1 [1] [(3, .v (.slice a7 ((out ++ (putNum y2)).length) c8)), (6, .v (.slice list_a list.length list_c)), (7, I (list.length : Int)), (16, I (wr ((k : Int) + 1)))] ?_ rfl ?_))))
    · as_aux_lemma => kernel_rfl
    refine CAST (d := 16) (vi (wr ((k : Int) + 1))) (vi ((k + 1 : Nat) : Int)) ?_ (vi_cast (by omega) (by omega)) ?_
    · as_aux_lemma => kernel_rfl
    refine RUN0 1 [] [(3, .v (.slice a7 ((out ++ (putNum y2)).length) c8)), (6, .v (.slice list_a list.length list_c)), (7, I (list.length : Int)), (8, I ((k + 1 : Nat) : Int))] ?_ rfl ?_
    · as_aux_lemma => kernel_rfl
    refine ENDOPS (BACK (k + 1, ys3, a7, c8, out ++ (putNum y2)) [3, 6, 7, 8] 0 [1] _ ⟨hl_y2, hd_y2, hv0.trans (by simp [putNums]), by have := putNum_len y2; simp only [List.length_append]; omega⟩ (by simp) ?_ rfl rfl rfl)
    · as_aux_lemma => kernel_rfl
  · -- decide ((k : Int) < (list.length : Int)) = false
    have h1 := bh1
    have h1 := of_decide_eq_false h1
    obtain rfl := drop_nil hk (by omega)
    refine EXIT (PASS trivial (PASS trivial (OUT (NEXT (SEQ (REGION [0, 1, 2] rfl (RUN0 1 [1, 2] [(17, .v (.slice oa out.length oc))] ?_ rfl ?_)))))))
    · as_aux_lemma => kernel_rfl
    refine OPC (RUNV (.convert 62 9 (.tmp 17)) 18 9 ?_ (Nat.le_of_ble_eq_true rfl) (.string (bs out)) (runs_bstr (a := oa) (n := out.length) (c := oc) (xs := out) (e := 5) ?_ ?_ ?_ ?_ rfl (fun w hw => (Rd.own (hw.own 0 rfl)))) ?_)
    · as_aux_lemma => kernel_rfl
    · as_aux_lemma => kernel_rfl
    · as_aux_lemma => kernel_rfl
    · as_aux_lemma => kernel_rfl
    · as_aux_lemma => kernel_rfl
    refine RUN0 1 [] [(2, .v (.string (bs out)))] ?_ rfl ?_
    · as_aux_lemma => kernel_rfl
    refine ENDOPS (NEXT (RET (FIN (.string (bs out)) ?_ () ?_ [] ?_)))
    · as_aux_lemma => kernel_rfl
    · (simp only [RV, hv0]; simp [putNums])
    · rfl

end SX
end Go.Proofs.Ytcjaeedkhlnegaa
