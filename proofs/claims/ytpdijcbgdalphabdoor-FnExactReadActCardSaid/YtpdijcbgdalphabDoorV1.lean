/- Walks, printed by program. -/
import Derived.Test.YtpdijcbgdalphabDoorMdl8
import Derived.Test.YtpdijcbgdalphabDoorSxa
import Derived.Test.YtpdijcbgdalphabDoorSxj
import Derived.Test.YtpdijcbgdalphabDoorSxt
import Derived.Test.YtpdijcbgdalphabDoorShelf
namespace Go.Proofs.YtpdijcbgdalphabDoor
namespace SX
open Go Go.RowKit
set_option linter.unusedVariables false
set_option linter.unusedSimpArgs false
set_option maxRecDepth 10000
theorem l1In_c (W : World) (x : Int) (lo : Int) (hi : Int) : Spec Tryd.prog W [] 36 #[vi x, vi lo, vi hi] (RV (.bool (inB x lo hi))) := by
  refine ENTER0 (N := 15) (vs := [vi x, vi lo, vi hi]) Tryd.func36 rfl rfl (Nat.le_of_ble_eq_true rfl) ?_
  refine SEQ (REGION [0] rfl (RUN0 1 [] [(0, I x), (1, I lo), (2, I hi)] ?_ rfl ?_))
  · as_aux_lemma => kernel_rfl
  refine ENDOPS (NEXT (SEQ (REGION [0, 1, 2, 3, 4, 5, 6, 7, 8] rfl (RUN0 4 [4, 5, 6, 7, 8] [(0, I x), (2, I hi), (10, B (decide (x ≥ lo)))] ?_ rfl ?_))))
  · as_aux_lemma => kernel_rfl
  refine SPLIT (d := 10) (decide (x ≥ lo)) ?_ (fun bh1 => ?_) (fun bh1 => ?_)
  · as_aux_lemma => kernel_rfl
  · -- decide (x ≥ lo) = true
    have h1 := bh1
    have h1 := of_decide_eq_true h1
    refine RUN0 5 [] [(6, B (decide (x ≤ hi)))] ?_ rfl ?_
    · as_aux_lemma => kernel_rfl
    refine ENDOPS (NEXT (RET (FIN (.bool (decide (x ≤ hi))) ?_ () ?_ [] ?_)))
    · as_aux_lemma => kernel_rfl
    · simp [RV, inB, *]
    · rfl
  · -- decide (x ≥ lo) = false
    have h1 := bh1
    have h1 := of_decide_eq_false h1
    refine RUN0 5 [] [(6, B false)] ?_ rfl ?_
    · as_aux_lemma => kernel_rfl
    refine ENDOPS (NEXT (RET (FIN (.bool false) ?_ () ?_ [] ?_)))
    · as_aux_lemma => kernel_rfl
    · simp [RV, inB, *]
    · rfl

theorem within_c (W : World) (n : Int) (lo : Int) (hi : Int) : Spec Tryd.prog W [] 33 #[vi n, vi lo, vi hi] (RV (.bool (inB n lo hi))) := by
  refine ENTER0 (N := 15) (vs := [vi n, vi lo, vi hi]) Tryd.func33 rfl rfl (Nat.le_of_ble_eq_true rfl) ?_
  refine SEQ (REGION [0] rfl (RUN0 1 [] [(0, I n), (1, I lo), (2, I hi)] ?_ rfl ?_))
  · as_aux_lemma => kernel_rfl
  refine ENDOPS (NEXT (SEQ (REGION [0, 1, 2, 3, 4, 5, 6, 7, 8] rfl (RUN0 4 [4, 5, 6, 7, 8] [(0, I n), (2, I hi), (10, B (decide (n ≥ lo)))] ?_ rfl ?_))))
  · as_aux_lemma => kernel_rfl
  refine SPLIT (d := 10) (decide (n ≥ lo)) ?_ (fun bh1 => ?_) (fun bh1 => ?_)
  · as_aux_lemma => kernel_rfl
  · -- decide (n ≥ lo) = true
    have h1 := bh1
    have h1 := of_decide_eq_true h1
    refine RUN0 5 [] [(6, B (decide (n ≤ hi)))] ?_ rfl ?_
    · as_aux_lemma => kernel_rfl
    refine ENDOPS (NEXT (RET (FIN (.bool (decide (n ≤ hi))) ?_ () ?_ [] ?_)))
    · as_aux_lemma => kernel_rfl
    · simp [RV, inB, *]
    · rfl
  · -- decide (n ≥ lo) = false
    have h1 := bh1
    have h1 := of_decide_eq_false h1
    refine RUN0 5 [] [(6, B false)] ?_ rfl ?_
    · as_aux_lemma => kernel_rfl
    refine ENDOPS (NEXT (RET (FIN (.bool false) ?_ () ?_ [] ?_)))
    · as_aux_lemma => kernel_rfl
    · simp [RV, inB, *]
    · rfl

theorem eqIntS_c (W : World) (a : List Int) (a_a : Option Addr) (a_c : Nat) (ha : Rd intL W a_a a) (b : List Int) (b_a : Option Addr) (b_c : Nat) (hb : Rd intL W b_a b) : Spec Tryd.prog W [] 20 #[.slice a_a a.length a_c, .slice b_a b.length b_c] (RV (.bool (eqInts a b))) := by
  refine ENTER0 (N := 26) (vs := [.slice a_a a.length a_c, .slice b_a b.length b_c]) Tryd.func20 rfl rfl (Nat.le_of_ble_eq_true rfl) ?_
  have ha_len := ha.len
  have hb_len := hb.len
  refine SEQ (REGION [0] rfl (RUN0 1 [] [(0, .v (.slice a_a a.length a_c)), (1, .v (.slice b_a b.length b_c))] ?_ rfl ?_))
  · as_aux_lemma => kernel_rfl
  refine ENDOPS (NEXT (SEQ (SEQ (REGION [0, 1, 2, 3, 4] rfl (RUN0 5 [] [(0, .v (.slice a_a a.length a_c)), (1, .v (.slice b_a b.length b_c)), (10, B ((a.length : Int) != (b.length : Int)))] ?_ rfl ?_)))))
  · as_aux_lemma => kernel_rfl
  refine ENDOPS (NEXT (IF ((a.length : Int) != (b.length : Int)) ?_ (fun bh1 => ?_) (fun bh1 => ?_)))
  · as_aux_lemma => kernel_rfl
  · -- (a.length : Int) != (b.length : Int) = true
    have h1 := bh1
    have h1 := bne_iff_ne.1 h1
    refine SEQ (REGION [0] rfl (RUN0 1 [] [(4, B false)] ?_ rfl ?_))
    · as_aux_lemma => kernel_rfl
    refine ENDOPS (NEXT (RET (PASS trivial (FIN (.bool false) ?_ () ?_ [] ?_))))
    · as_aux_lemma => kernel_rfl
    · simp [RV, eqInts_ne (a := a) (b := b) (by omega)]
    · rfl
  · -- (a.length : Int) != (b.length : Int) = false
    have h1 := bh1
    have h1 := bneF h1
    refine SKIP (NEXT (SEQ (SEQ (REGION [0] rfl (RUN0 1 [] [(0, .v (.slice a_a a.length a_c)), (1, .v (.slice b_a b.length b_c)), (5, I 0)] ?_ rfl ?_)))))
    · as_aux_lemma => kernel_rfl
    refine ENDOPS (NEXT (BLOCK (LOOP (ι := Nat × (List Int)) (fun j => [(0, .v (.slice a_a a.length a_c)), (1, .v (.slice b_a b.length b_c)), (5, I (j.1 : Int))]) (fun j => []) (fun j => []) (fun j => j.1 + j.2.length = a.length ∧ a.drop j.1 = j.2 ∧ eqInts a b = eqInts j.2 (b.drop j.1)) (fun j => j.2.length) (0, a) [0, 1, 5] ⟨by simp, rfl, rfl⟩ ?_ rfl rfl ?_)))
    · as_aux_lemma => kernel_rfl
    rintro ⟨k, ys⟩ ⟨hk, hd, hv0⟩
    dsimp only at hk hd hv0
    refine SEQ (SEQ (REGION [0, 1, 2, 3] rfl (RUN0 4 [] [(0, .v (.slice a_a a.length a_c)), (1, .v (.slice b_a b.length b_c)), (5, I (k : Int)), (14, B (decide ((k : Int) < (a.length : Int))))] ?_ rfl ?_)))
    · as_aux_lemma => kernel_rfl
    refine ENDOPS (NEXT (IF (decide ((k : Int) < (a.length : Int))) ?_ (fun bh2 => ?_) (fun bh2 => ?_)))
    · as_aux_lemma => kernel_rfl
    · -- decide ((k : Int) < (a.length : Int)) = true
      have h2 := bh2
      have h2 := of_decide_eq_true h2
      obtain ⟨y3, ys4, rfl, hx_y3, hd_y3, hl_y3⟩ := drop_cons hd hk (by omega)
      refine SKIP (NEXT (SEQ (BLOCK (SEQ (REGIONQ ?_ ?_ ?_)))))
      · as_aux_lemma => kernel_rfl
      · as_aux_lemma => kernel_rfl
      refine QRUN 2 0 2 [(0, .v (.slice a_a a.length a_c)), (1, .v (.slice b_a b.length b_c)), (5, I (k : Int)), (17, .v (.slice a_a a.length a_c)), (18, I (k : Int))] ?_ rfl ?_
      · as_aux_lemma => kernel_rfl
      refine QINDEX 24 (.tmp 17) (.tmp 18) 19 0 ?_ (Nat.le_of_ble_eq_true rfl) a_a a.length a_c .i64 (k : Int) 3 1 ?_ ?_ ?_ ?_ (Rd.some ha (by omega)) (by omega) (by omega) ?_
      · as_aux_lemma => kernel_rfl
      · as_aux_lemma => kernel_rfl
      · as_aux_lemma => kernel_rfl
      · as_aux_lemma => kernel_rfl
      · as_aux_lemma => kernel_rfl
      refine QLOADE 3 (.tmp 19) 20 3 ?_ (Nat.le_of_ble_eq_true rfl) a_a (k * 1) 0 [vi y3] (vi y3) ?_ (fun w hw => (ha.fr hw.fr).flat hx_y3) ?_ ?_
      · as_aux_lemma => kernel_rfl
      · as_aux_lemma => kernel_rfl
      · as_aux_lemma => kernel_rfl
      refine QRUN 2 4 6 [(0, .v (.slice a_a a.length a_c)), (1, .v (.slice b_a b.length b_c)), (5, I (k : Int)), (20, I y3), (21, .v (.slice b_a b.length b_c)), (22, I (k : Int))] ?_ rfl ?_
      · as_aux_lemma => kernel_rfl
      obtain ⟨x5, hx6⟩ : ∃ y, b[k]? = some y := ⟨_, List.getElem?_eq_getElem (by omega)⟩
      refine QINDEX 24 (.tmp 21) (.tmp 22) 23 0 ?_ (Nat.le_of_ble_eq_true rfl) b_a b.length b_c .i64 (k : Int) 3 1 ?_ ?_ ?_ ?_ (Rd.some hb (by omega)) (by omega) (by omega) ?_
      · as_aux_lemma => kernel_rfl
      · as_aux_lemma => kernel_rfl
      · as_aux_lemma => kernel_rfl
      · as_aux_lemma => kernel_rfl
      · as_aux_lemma => kernel_rfl
      refine QLOADE 3 (.tmp 23) 24 3 ?_ (Nat.le_of_ble_eq_true rfl) b_a (k * 1) 0 [vi x5] (vi x5) ?_ (fun w hw => (hb.fr hw.fr).flat hx6) ?_ ?_
      · as_aux_lemma => kernel_rfl
      · as_aux_lemma => kernel_rfl
      · as_aux_lemma => kernel_rfl
      refine QRUN 1 8 9 [(0, .v (.slice a_a a.length a_c)), (1, .v (.slice b_a b.length b_c)), (5, I (k : Int)), (25, B (y3 != x5))] ?_ rfl ?_
      · as_aux_lemma => kernel_rfl
      refine QEND rfl (NEXT (IF (y3 != x5) ?_ (fun bh7 => ?_) (fun bh7 => ?_)))
      · as_aux_lemma => kernel_rfl
      · -- y3 != x5 = true
        have h7 := bh7
        have h7 := bne_iff_ne.1 h7
        refine SEQ (REGION [0] rfl (RUN0 1 [] [(4, B false)] ?_ rfl ?_))
        · as_aux_lemma => kernel_rfl
        refine ENDOPS (NEXT (RET (OUTR (PASS trivial (PASS trivial (OUTR (PASS trivial (FIN (.bool false) ?_ () ?_ [] ?_))))))))
        · as_aux_lemma => kernel_rfl
        · simp [RV, hv0, drop_get ‹b[k]? = some _›, eqInts, *]
        · rfl
      · -- y3 != x5 = false
        have h7 := bh7
        have h7 := bneF h7
        refine SKIP (OUTN (NEXT (REGION [0, 1, 2] rfl (RUN0 2 [2] [(0, .v (.slice a_a a.length a_c)), (1, .v (.slice b_a b.length b_c)), (16, I (wr ((k : Int) + 1)))] ?_ rfl ?_))))
        · as_aux_lemma => kernel_rfl
        refine CAST (d := 16) (vi (wr ((k : Int) + 1))) (vi ((k + 1 : Nat) : Int)) ?_ (vi_cast (by omega) (by omega)) ?_
        · as_aux_lemma => kernel_rfl
        refine RUN0 1 [] [(0, .v (.slice a_a a.length a_c)), (1, .v (.slice b_a b.length b_c)), (5, I ((k + 1 : Nat) : Int))] ?_ rfl ?_
        · as_aux_lemma => kernel_rfl
        refine ENDOPS (BACK (k + 1, ys4) [0, 1, 5] 0 [] _ ⟨hl_y3, hd_y3, hv0.trans (by simp [eqInts, drop_get ‹b[k]? = some _›, *])⟩ (by simp) ?_ rfl rfl rfl)
        · as_aux_lemma => kernel_rfl
    · -- decide ((k : Int) < (a.length : Int)) = false
      have h2 := bh2
      have h2 := of_decide_eq_false h2
      obtain rfl := drop_nil hk (by omega)
      refine EXIT (PASS trivial (PASS trivial (OUT (NEXT (SEQ (REGION [0] rfl (RUN0 1 [] [(4, B true)] ?_ rfl ?_)))))))
      · as_aux_lemma => kernel_rfl
      refine ENDOPS (NEXT (RET (FIN (.bool true) ?_ () ?_ [] ?_)))
      · as_aux_lemma => kernel_rfl
      · simp [RV, hv0, eqInts, List.drop_eq_nil_of_le (show b.length ≤ k by simp at hk; omega)]
      · rfl

theorem sDigits_c (W : World) (n : Int) (hn : i64R n) : Spec Tryd.prog W [] 27 #[vi n] (RV (.string (bs (Lib.itoa n)))) := by
  refine ENTER0 (N := 31) (vs := [vi n]) Tryd.func27 rfl rfl (Nat.le_of_ble_eq_true rfl) ?_
  refine SEQ (REGION [0] rfl (RUN0 1 [] [(0, I n)] ?_ rfl ?_))
  · as_aux_lemma => kernel_rfl
  refine ENDOPS (NEXT (SEQ (SEQ (REGION [0, 1] rfl (RUN0 2 [] [(0, I n), (7, B (n == 0))] ?_ rfl ?_)))))
  · as_aux_lemma => kernel_rfl
  refine ENDOPS (NEXT (IF (n == 0) ?_ (fun bh1 => ?_) (fun bh1 => ?_)))
  · as_aux_lemma => kernel_rfl
  · -- n == 0 = true
    have h1 := bh1
    have h1 := eq_of_beq h1
    refine SEQ (REGION [0] rfl (RUN0 1 [] [(2, .v (.string (bs ([48]))))] ?_ rfl ?_))
    · as_aux_lemma => kernel_rfl
    refine ENDOPS (NEXT (RET (PASS trivial (FIN (.string (bs ([48]))) ?_ () ?_ [] ?_))))
    · as_aux_lemma => kernel_rfl
    · (show Value.string _ = Value.string (bs (Lib.itoa n)); congr 2; first | (subst_vars; exact itoa_zero.symm) | (rw [itoa_of (by assumption), ← hv]; simp_all [ddz]))
    · rfl
  · -- n == 0 = false
    have h1 := bh1
    have h1 := ne_of_beq_false h1
    refine SKIP (NEXT (SEQ (REGION [0, 1, 2] rfl (RUN0 3 [] [(0, I n), (3, B (decide (n < 0)))] ?_ rfl ?_))))
    · as_aux_lemma => kernel_rfl
    refine ENDOPS (NEXT (SEQ (REGION [0] rfl (RUN0 1 [] [(0, I n), (3, B (decide (n < 0))), (4, .v (.string (bs ([]))))] ?_ rfl ?_))))
    · as_aux_lemma => kernel_rfl
    refine ENDOPS (NEXT (SEQ (BLOCK (LOOP (ι := Int × (List UInt8)) (fun j => [(0, I j.1), (3, B (decide (n < 0))), (4, .v (.string (bs j.2)))]) (fun j => []) (fun j => []) (fun j => i64R j.1 ∧ ddz j.1.natAbs ++ j.2 = ddz n.natAbs) (fun j => j.1.natAbs) (n, []) [0, 3, 4] ⟨hn, by simp⟩ ?_ rfl rfl ?_))))
    · as_aux_lemma => kernel_rfl
    rintro ⟨m, out⟩ ⟨hm, hv⟩
    dsimp only at hm hv
    have hol : out.length ≤ 20 := by have h1 := congrArg List.length hv; have h2 := dec_len (u := n.natAbs) (by unfold i64R at hn; omega); simp only [List.length_append] at h1; omega
    refine SEQ (SEQ (REGION [0, 1] rfl (RUN0 2 [] [(0, I m), (3, B (decide (n < 0))), (4, .v (.string (bs out))), (11, B (m != 0))] ?_ rfl ?_)))
    · as_aux_lemma => kernel_rfl
    refine ENDOPS (NEXT (IF (m != 0) ?_ (fun bh2 => ?_) (fun bh2 => ?_)))
    · as_aux_lemma => kernel_rfl
    · -- m != 0 = true
      have h2 := bh2
      have h2 := bne_iff_ne.1 h2
      refine SKIP (NEXT (BLOCK (SEQ (REGION [0, 1, 2] rfl (RUN0 3 [] [(0, I m), (3, B (decide (n < 0))), (4, .v (.string (bs out))), (5, I (Int.tmod m 10))] ?_ rfl ?_)))))
      · as_aux_lemma => kernel_rfl
      refine ENDOPS (NEXT (SEQ (SEQ (REGION [0, 1] rfl (RUN0 2 [] [(0, I m), (3, B (decide (n < 0))), (4, .v (.string (bs out))), (5, I (Int.tmod m 10)), (15, B (decide ((Int.tmod m 10) < 0)))] ?_ rfl ?_)))))
      · as_aux_lemma => kernel_rfl
      refine ENDOPS (NEXT (IF (decide ((Int.tmod m 10) < 0)) ?_ (fun bh3 => ?_) (fun bh3 => ?_)))
      · as_aux_lemma => kernel_rfl
      · -- decide ((Int.tmod m 10) < 0) = true
        have h3 := bh3
        have h3 := of_decide_eq_true h3
        refine REGION [0, 1, 2] rfl (RUN0 3 [] [(0, I m), (3, B (decide (n < 0))), (4, .v (.string (bs out))), (5, I (wr (0 - (Int.tmod m 10))))] ?_ rfl ?_)
        · as_aux_lemma => kernel_rfl
        refine ENDOPS (NEXT (SEQ (REGION [0, 1, 2, 3, 4, 5, 6, 7] rfl (RUN0 3 [3, 4, 5, 6, 7] [(0, I m), (3, B (decide (n < 0))), (4, .v (.string (bs out))), (20, .v (.int .u8 (IntKind.wrap .u8 (wr (48 + (wr (0 - (Int.tmod m 10))))))))] ?_ rfl ?_))))
        · as_aux_lemma => kernel_rfl
        refine CAST (d := 20) (.int .u8 (IntKind.wrap .u8 (wr (48 + (wr (0 - (Int.tmod m 10))))))) (.int .u8 (((byteOf (wr (48 + (wr (0 - (Int.tmod m 10)))))).toNat : Nat) : Int)) ?_ (v8 (wr (48 + (wr (0 - (Int.tmod m 10)))))) ?_
        · as_aux_lemma => kernel_rfl
        refine OPC (BUILDS 51 1 #[(0, .tmp 20)] 21 51 ?_ (Nat.le_of_ble_eq_true rfl) 5 [.int .u8 (((byteOf (wr (48 + (wr (0 - (Int.tmod m 10)))))).toNat : Nat) : Int)] ?_ byteL ([byteOf (wr (48 + (wr (0 - (Int.tmod m 10)))))] : List UInt8) rfl (by simp only [maxLen]; omega) [] [] _ rfl (flatRep rfl) (fun a4 ha5 => ?_))
        · as_aux_lemma => kernel_rfl
        · as_aux_lemma => kernel_rfl
        refine FACT (1 = ([byteOf (wr (48 + (wr (0 - (Int.tmod m 10)))))] : List UInt8).length) (fun w hw => (SlO.lenE (hw.own 0 rfl)).1) (fun hln6 => ?_)
        refine OPC (RUNV (.convert 51 9 (.tmp 21)) 22 9 ?_ (Nat.le_of_ble_eq_true rfl) (.string (bs ([byteOf (wr (48 + (wr (0 - (Int.tmod m 10)))))] : List UInt8))) (runs_bstr (a := a4) (n := 1) (c := 1) (xs := ([byteOf (wr (48 + (wr (0 - (Int.tmod m 10)))))] : List UInt8)) (e := 5) ?_ ?_ ?_ ?_ hln6.symm (fun w hw => (Rd.own (hw.own 0 rfl)))) ?_)
        · as_aux_lemma => kernel_rfl
        · as_aux_lemma => kernel_rfl
        · as_aux_lemma => kernel_rfl
        · as_aux_lemma => kernel_rfl
        · as_aux_lemma => kernel_rfl
        refine RUN0 1 [6, 7] [(0, I m), (3, B (decide (n < 0))), (22, .v (.string (bs ([byteOf (wr (48 + (wr (0 - (Int.tmod m 10)))))] : List UInt8)))), (23, .v (.string (bs out)))] ?_ rfl ?_
        · as_aux_lemma => kernel_rfl
        refine OPC (RUNV (.binOp .add 9 (.tmp 22) (.tmp 23) 9) 24 9 ?_ (Nat.le_of_ble_eq_true rfl) (.string (bs (([byteOf (wr (48 + (wr (0 - (Int.tmod m 10)))))] : List UInt8) ++ out))) (runs_scat (a := ([byteOf (wr (48 + (wr (0 - (Int.tmod m 10)))))] : List UInt8)) (b := out) ?_ ?_ (by first | omega | (simp only [List.length_append, List.length_cons, List.length_nil, List.length_take, List.length_drop] at *; omega))) ?_)
        · as_aux_lemma => kernel_rfl
        · as_aux_lemma => kernel_rfl
        · as_aux_lemma => kernel_rfl
        refine RUN0 1 [] [(0, I m), (3, B (decide (n < 0))), (4, .v (.string (bs (([byteOf (wr (48 + (wr (0 - (Int.tmod m 10)))))] : List UInt8) ++ out))))] ?_ rfl ?_
        · as_aux_lemma => kernel_rfl
        refine ENDOPS (NEXT (REGION [0, 1, 2] rfl (RUN0 3 [] [(0, I (wr (Int.tdiv m 10))), (3, B (decide (n < 0))), (4, .v (.string (bs (([byteOf (wr (48 + (wr (0 - (Int.tmod m 10)))))] : List UInt8) ++ out))))] ?_ rfl ?_)))
        · as_aux_lemma => kernel_rfl
        refine ENDOPS (OUTN (BACK (wr (Int.tdiv m 10), ([byteOf (wr (48 + (wr (0 - (Int.tmod m 10)))))] : List UInt8) ++ out) [0, 3, 4] 0 [] _ ⟨(quo10 hm).1, by rw [← hv, (quo10 hm).2, ddz_step (u := m.natAbs) (by omega)]; first | (rw [dig_pos hm (by assumption)]; simp) | (rw [dig_neg hm (by assumption)]; simp)⟩ (by have := (quo10 hm).2; dsimp only; omega) ?_ rfl rfl rfl))
        · as_aux_lemma => kernel_rfl
      · -- decide ((Int.tmod m 10) < 0) = false
        have h3 := bh3
        have h3 := of_decide_eq_false h3
        refine SKIP (NEXT (SEQ (REGION [0, 1, 2, 3, 4, 5, 6, 7] rfl (RUN0 3 [3, 4, 5, 6, 7] [(0, I m), (3, B (decide (n < 0))), (4, .v (.string (bs out))), (20, .v (.int .u8 (IntKind.wrap .u8 (wr (48 + (Int.tmod m 10))))))] ?_ rfl ?_))))
        · as_aux_lemma => kernel_rfl
        refine CAST (d := 20) (.int .u8 (IntKind.wrap .u8 (wr (48 + (Int.tmod m 10))))) (.int .u8 (((byteOf (wr (48 + (Int.tmod m 10)))).toNat : Nat) : Int)) ?_ (v8 (wr (48 + (Int.tmod m 10)))) ?_
        · as_aux_lemma => kernel_rfl
        refine OPC (BUILDS 51 1 #[(0, .tmp 20)] 21 51 ?_ (Nat.le_of_ble_eq_true rfl) 5 [.int .u8 (((byteOf (wr (48 + (Int.tmod m 10)))).toNat : Nat) : Int)] ?_ byteL ([byteOf (wr (48 + (Int.tmod m 10)))] : List UInt8) rfl (by simp only [maxLen]; omega) [] [] _ rfl (flatRep rfl) (fun a7 ha8 => ?_))
        · as_aux_lemma => kernel_rfl
        · as_aux_lemma => kernel_rfl
        refine FACT (1 = ([byteOf (wr (48 + (Int.tmod m 10)))] : List UInt8).length) (fun w hw => (SlO.lenE (hw.own 0 rfl)).1) (fun hln9 => ?_)
        refine OPC (RUNV (.convert 51 9 (.tmp 21)) 22 9 ?_ (Nat.le_of_ble_eq_true rfl) (.string (bs ([byteOf (wr (48 + (Int.tmod m 10)))] : List UInt8))) (runs_bstr (a := a7) (n := 1) (c := 1) (xs := ([byteOf (wr (48 + (Int.tmod m 10)))] : List UInt8)) (e := 5) ?_ ?_ ?_ ?_ hln9.symm (fun w hw => (Rd.own (hw.own 0 rfl)))) ?_)
        · as_aux_lemma => kernel_rfl
        · as_aux_lemma => kernel_rfl
        · as_aux_lemma => kernel_rfl
        · as_aux_lemma => kernel_rfl
        · as_aux_lemma => kernel_rfl
        refine RUN0 1 [6, 7] [(0, I m), (3, B (decide (n < 0))), (22, .v (.string (bs ([byteOf (wr (48 + (Int.tmod m 10)))] : List UInt8)))), (23, .v (.string (bs out)))] ?_ rfl ?_
        · as_aux_lemma => kernel_rfl
        refine OPC (RUNV (.binOp .add 9 (.tmp 22) (.tmp 23) 9) 24 9 ?_ (Nat.le_of_ble_eq_true rfl) (.string (bs (([byteOf (wr (48 + (Int.tmod m 10)))] : List UInt8) ++ out))) (runs_scat (a := ([byteOf (wr (48 + (Int.tmod m 10)))] : List UInt8)) (b := out) ?_ ?_ (by first | omega | (simp only [List.length_append, List.length_cons, List.length_nil, List.length_take, List.length_drop] at *; omega))) ?_)
        · as_aux_lemma => kernel_rfl
        · as_aux_lemma => kernel_rfl
        · as_aux_lemma => kernel_rfl
        refine RUN0 1 [] [(0, I m), (3, B (decide (n < 0))), (4, .v (.string (bs (([byteOf (wr (48 + (Int.tmod m 10)))] : List UInt8) ++ out))))] ?_ rfl ?_
        · as_aux_lemma => kernel_rfl
        refine ENDOPS (NEXT (REGION [0, 1, 2] rfl (RUN0 3 [] [(0, I (wr (Int.tdiv m 10))), (3, B (decide (n < 0))), (4, .v (.string (bs (([byteOf (wr (48 + (Int.tmod m 10)))] : List UInt8) ++ out))))] ?_ rfl ?_)))
        · as_aux_lemma => kernel_rfl
        refine ENDOPS (OUTN (BACK (wr (Int.tdiv m 10), ([byteOf (wr (48 + (Int.tmod m 10)))] : List UInt8) ++ out) [0, 3, 4] 0 [] _ ⟨(quo10 hm).1, by rw [← hv, (quo10 hm).2, ddz_step (u := m.natAbs) (by omega)]; first | (rw [dig_pos hm (by assumption)]; simp) | (rw [dig_neg hm (by assumption)]; simp)⟩ (by have := (quo10 hm).2; dsimp only; omega) ?_ rfl rfl rfl))
        · as_aux_lemma => kernel_rfl
    · -- m != 0 = false
      have h2 := bh2
      have h2 := bneF h2
      refine EXIT (PASS trivial (PASS trivial (OUT (NEXT (SEQ (SEQ (REGION [0] rfl (RUN0 1 [] [(4, .v (.string (bs out))), (27, B (decide (n < 0)))] ?_ rfl ?_))))))))
      · as_aux_lemma => kernel_rfl
      refine ENDOPS (NEXT (IF (decide (n < 0)) ?_ (fun bh10 => ?_) (fun bh10 => ?_)))
      · as_aux_lemma => kernel_rfl
      · -- decide (n < 0) = true
        have h10 := bh10
        have h10 := of_decide_eq_true h10
        refine SEQ (REGION [0, 1, 2] rfl (RUN0 1 [1, 2] [(28, .v (.string (bs out)))] ?_ rfl ?_))
        · as_aux_lemma => kernel_rfl
        refine OPC (RUNV (.binOp .add 9 (.const (.string (bs ([45])))) (.tmp 28) 9) 29 9 ?_ (Nat.le_of_ble_eq_true rfl) (.string (bs (([45]) ++ out))) (runs_scat (a := [45]) (b := out) ?_ ?_ (by first | omega | (simp only [List.length_append, List.length_cons, List.length_nil, List.length_take, List.length_drop] at *; omega))) ?_)
        · as_aux_lemma => kernel_rfl
        · as_aux_lemma => kernel_rfl
        · as_aux_lemma => kernel_rfl
        refine RUN0 1 [] [(2, .v (.string (bs (([45]) ++ out))))] ?_ rfl ?_
        · as_aux_lemma => kernel_rfl
        refine ENDOPS (NEXT (RET (PASS trivial (FIN (.string (bs (([45]) ++ out))) ?_ () ?_ [] ?_))))
        · as_aux_lemma => kernel_rfl
        · (show Value.string _ = Value.string (bs (Lib.itoa n)); congr 2; first | (subst_vars; exact itoa_zero.symm) | (rw [itoa_of (by assumption), ← hv]; simp_all [ddz]))
        · rfl
      · -- decide (n < 0) = false
        have h10 := bh10
        have h10 := of_decide_eq_false h10
        refine SKIP (NEXT (SEQ (REGION [0, 1] rfl (RUN0 2 [] [(2, .v (.string (bs out)))] ?_ rfl ?_))))
        · as_aux_lemma => kernel_rfl
        refine ENDOPS (NEXT (RET (FIN (.string (bs out)) ?_ () ?_ [] ?_)))
        · as_aux_lemma => kernel_rfl
        · (show Value.string _ = Value.string (bs (Lib.itoa n)); congr 2; first | (subst_vars; exact itoa_zero.symm) | (rw [itoa_of (by assumption), ← hv]; simp_all [ddz]))
        · rfl

theorem l12Field_c (W : World) (x : Int) : Spec Tryd.prog W [] 35 #[vi x] (RV (.bool (usedB x))) := by
  refine ENTER0 (N := 5) (vs := [vi x]) Tryd.func35 rfl rfl (Nat.le_of_ble_eq_true rfl) ?_
  refine SEQ (REGION [0] rfl (RUN0 1 [] [(0, I x)] ?_ rfl ?_))
  · as_aux_lemma => kernel_rfl
  refine ENDOPS (NEXT (SEQ (REGION [0, 1, 2] rfl (RUN0 1 [1, 2] [(3, I x)] ?_ rfl ?_))))
  · as_aux_lemma => kernel_rfl
  refine OPC (CALL 36 #[vi x, vi 0, vi 9999] (some 4) ?_ [] [] _ rfl (RV (.bool (inB x 0 9999))) (fun w hw => l1In_c w x 0 9999) (by rintro _ ⟨⟩; exact Nat.le_of_ble_eq_true rfl) ?_)
  · as_aux_lemma => kernel_rfl
  rintro ⟨⟩
  refine RUN0 1 [] [(2, B (inB x 0 9999))] ?_ rfl ?_
  · as_aux_lemma => kernel_rfl
  refine ENDOPS (NEXT (RET (FIN (.bool (inB x 0 9999)) ?_ () ?_ [] ?_)))
  · as_aux_lemma => kernel_rfl
  · simp [RV, usedB]
  · rfl

theorem sReqOk_c (W : World) (q : Req) : Spec Tryd.prog W [] 34 #[.agg #[vi q.kind, vi q.id, vi q.cabin, vi q.from', vi q.size, vi q.tier]] (RV (.bool (reqOk q))) := by
  refine ENTER0 (N := 75) (vs := [.agg #[vi q.kind, vi q.id, vi q.cabin, vi q.from', vi q.size, vi q.tier]]) Tryd.func34 rfl rfl (Nat.le_of_ble_eq_true rfl) ?_
  refine SEQ (REGION [0, 1] rfl (RUN 2 [] [(1, .p 0 0)] [(23, [vi q.kind, vi q.id, vi q.cabin, vi q.from', vi q.size, vi q.tier])] ?_ rfl ?_))
  · as_aux_lemma => kernel_rfl
  refine ENDOPS (NEXT (SEQ (SEQ (REGION [0, 1] rfl (RUN0 2 [] [(1, .p 0 0), (4, I q.kind)] ?_ rfl ?_)))))
  · as_aux_lemma => kernel_rfl
  refine ENDOPS (NEXT (BLOCK (SEQ (REGION [0, 1] rfl (RUN0 2 [] [(1, .p 0 0), (4, I q.kind), (5, B (q.kind == 1))] ?_ rfl ?_)))))
  · as_aux_lemma => kernel_rfl
  refine ENDOPS (NEXT (IF (q.kind == 1) ?_ (fun bh1 => ?_) (fun bh1 => ?_)))
  · as_aux_lemma => kernel_rfl
  · -- q.kind == 1 = true
    have h1 := bh1
    have h1 := eq_of_beq h1
    refine SEQ (REGION [0, 1, 2, 3, 4, 5, 6, 7, 8, 9, 10, 11, 12, 13, 14, 15, 16, 17, 18, 19, 20, 21, 22, 23] rfl (RUN0 2 [2, 3, 4, 5, 6, 7, 8, 9, 10, 11, 12, 13, 14, 15, 16, 17, 18, 19, 20, 21, 22, 23] [(1, .p 0 0), (8, I q.id)] ?_ rfl ?_))
    · as_aux_lemma => kernel_rfl
    refine OPC (CALL 35 #[vi q.id] (some 9) ?_ [] [] _ rfl (RV (.bool (usedB q.id))) (fun w hw => l12Field_c w q.id) (by rintro _ ⟨⟩; exact Nat.le_of_ble_eq_true rfl) ?_)
    · as_aux_lemma => kernel_rfl
    rintro ⟨⟩
    refine RUN0 1 [4, 5, 6, 7, 8, 9, 10, 11, 12, 13, 14, 15, 16, 17, 18, 19, 20, 21, 22, 23] [(1, .p 0 0), (10, B (usedB q.id))] ?_ rfl ?_
    · as_aux_lemma => kernel_rfl
    refine SPLIT (d := 10) (usedB q.id) ?_ (fun bh2 => ?_) (fun bh2 => ?_)
    · as_aux_lemma => kernel_rfl
    · -- usedB q.id = true
      have h2 := bh2
      refine RUN0 2 [6, 7, 8, 9, 10, 11, 12, 13, 14, 15, 16, 17, 18, 19, 20, 21, 22, 23] [(1, .p 0 0), (10, B true), (12, I q.cabin)] ?_ rfl ?_
      · as_aux_lemma => kernel_rfl
      refine OPC (CALL 35 #[vi q.cabin] (some 13) ?_ [] [] _ rfl (RV (.bool (usedB q.cabin))) (fun w hw => l12Field_c w q.cabin) (by rintro _ ⟨⟩; exact Nat.le_of_ble_eq_true rfl) ?_)
      · as_aux_lemma => kernel_rfl
      rintro ⟨⟩
      refine RUN0 2 [9, 10, 11, 12, 13, 14, 15, 16, 17, 18, 19, 20, 21, 22, 23] [(1, .p 0 0), (15, B (usedB q.cabin))] ?_ rfl ?_
      · as_aux_lemma => kernel_rfl
      refine SPLIT (d := 15) (usedB q.cabin) ?_ (fun bh3 => ?_) (fun bh3 => ?_)
      · as_aux_lemma => kernel_rfl
      · -- usedB q.cabin = true
        have h3 := bh3
        refine RUN0 2 [11, 12, 13, 14, 15, 16, 17, 18, 19, 20, 21, 22, 23] [(1, .p 0 0), (15, B true), (17, I q.from')] ?_ rfl ?_
        · as_aux_lemma => kernel_rfl
        refine OPC (CALL 36 #[vi q.from', vi (-1), vi 9999] (some 18) ?_ [] [] _ rfl (RV (.bool (inB q.from' (-1) 9999))) (fun w hw => l1In_c w q.from' (-1) 9999) (by rintro _ ⟨⟩; exact Nat.le_of_ble_eq_true rfl) ?_)
        · as_aux_lemma => kernel_rfl
        rintro ⟨⟩
        refine RUN0 2 [14, 15, 16, 17, 18, 19, 20, 21, 22, 23] [(1, .p 0 0), (20, B (inB q.from' (-1) 9999))] ?_ rfl ?_
        · as_aux_lemma => kernel_rfl
        refine SPLIT (d := 20) (inB q.from' (-1) 9999) ?_ (fun bh4 => ?_) (fun bh4 => ?_)
        · as_aux_lemma => kernel_rfl
        · -- inB q.from' (-1) 9999 = true
          have h4 := bh4
          refine RUN0 2 [16, 17, 18, 19, 20, 21, 22, 23] [(1, .p 0 0), (20, B true), (22, I q.size)] ?_ rfl ?_
          · as_aux_lemma => kernel_rfl
          refine OPC (CALL 35 #[vi q.size] (some 23) ?_ [] [] _ rfl (RV (.bool (usedB q.size))) (fun w hw => l12Field_c w q.size) (by rintro _ ⟨⟩; exact Nat.le_of_ble_eq_true rfl) ?_)
          · as_aux_lemma => kernel_rfl
          rintro ⟨⟩
          refine RUN0 2 [19, 20, 21, 22, 23] [(1, .p 0 0), (25, B (usedB q.size))] ?_ rfl ?_
          · as_aux_lemma => kernel_rfl
          refine SPLIT (d := 25) (usedB q.size) ?_ (fun bh5 => ?_) (fun bh5 => ?_)
          · as_aux_lemma => kernel_rfl
          · -- usedB q.size = true
            have h5 := bh5
            refine RUN0 2 [21, 22, 23] [(25, B true), (27, I q.tier)] ?_ rfl ?_
            · as_aux_lemma => kernel_rfl
            refine OPC (CALL 35 #[vi q.tier] (some 28) ?_ [] [] _ rfl (RV (.bool (usedB q.tier))) (fun w hw => l12Field_c w q.tier) (by rintro _ ⟨⟩; exact Nat.le_of_ble_eq_true rfl) ?_)
            · as_aux_lemma => kernel_rfl
            rintro ⟨⟩
            refine RUN0 2 [] [(2, B (usedB q.tier))] ?_ rfl ?_
            · as_aux_lemma => kernel_rfl
            refine ENDOPS (NEXT (RET (OUTR (PASS trivial (FIN (.bool (usedB q.tier)) ?_ () ?_ [] ?_)))))
            · as_aux_lemma => kernel_rfl
            · simp [RV, reqOk, reqEq, *]
            · rfl
          · -- usedB q.size = false
            have h5 := bh5
            refine RUN0 5 [] [(2, B false)] ?_ rfl ?_
            · as_aux_lemma => kernel_rfl
            refine ENDOPS (NEXT (RET (OUTR (PASS trivial (FIN (.bool false) ?_ () ?_ [] ?_)))))
            · as_aux_lemma => kernel_rfl
            · simp [RV, reqOk, reqEq, *]
            · rfl
        · -- inB q.from' (-1) 9999 = false
          have h4 := bh4
          refine RUN0 10 [] [(2, B false)] ?_ rfl ?_
          · as_aux_lemma => kernel_rfl
          refine ENDOPS (NEXT (RET (OUTR (PASS trivial (FIN (.bool false) ?_ () ?_ [] ?_)))))
          · as_aux_lemma => kernel_rfl
          · simp [RV, reqOk, reqEq, *]
          · rfl
      · -- usedB q.cabin = false
        have h3 := bh3
        refine RUN0 15 [] [(2, B false)] ?_ rfl ?_
        · as_aux_lemma => kernel_rfl
        refine ENDOPS (NEXT (RET (OUTR (PASS trivial (FIN (.bool false) ?_ () ?_ [] ?_)))))
        · as_aux_lemma => kernel_rfl
        · simp [RV, reqOk, reqEq, *]
        · rfl
    · -- usedB q.id = false
      have h2 := bh2
      refine RUN0 20 [] [(2, B false)] ?_ rfl ?_
      · as_aux_lemma => kernel_rfl
      refine ENDOPS (NEXT (RET (OUTR (PASS trivial (FIN (.bool false) ?_ () ?_ [] ?_)))))
      · as_aux_lemma => kernel_rfl
      · simp [RV, reqOk, reqEq, *]
      · rfl
  · -- q.kind == 1 = false
    have h1 := bh1
    have h1 := ne_of_beq_false h1
    refine SEQ (SEQ (REGION [0, 1] rfl (RUN0 2 [] [(1, .p 0 0), (4, I q.kind), (30, B (q.kind == 2))] ?_ rfl ?_)))
    · as_aux_lemma => kernel_rfl
    refine ENDOPS (NEXT (IF (q.kind == 2) ?_ (fun bh6 => ?_) (fun bh6 => ?_)))
    · as_aux_lemma => kernel_rfl
    · -- q.kind == 2 = true
      have h6 := bh6
      have h6 := eq_of_beq h6
      refine SKIP (NEXT (IF (q.kind == 2) ?_ (fun bh7 => ?_) (fun bh7 => ?_)))
      · as_aux_lemma => kernel_rfl
      · -- q.kind == 2 = true
        have h7 := bh7
        have h7 := eq_of_beq h7
        refine SEQ (REGION [0, 1, 2, 3, 4, 5, 6, 7, 8, 9, 10, 11, 12] rfl (RUN0 2 [2, 3, 4, 5, 6, 7, 8, 9, 10, 11, 12] [(1, .p 0 0), (36, I q.id)] ?_ rfl ?_))
        · as_aux_lemma => kernel_rfl
        refine OPC (CALL 35 #[vi q.id] (some 37) ?_ [] [] _ rfl (RV (.bool (usedB q.id))) (fun w hw => l12Field_c w q.id) (by rintro _ ⟨⟩; exact Nat.le_of_ble_eq_true rfl) ?_)
        · as_aux_lemma => kernel_rfl
        rintro ⟨⟩
        refine RUN0 1 [4, 5, 6, 7, 8, 9, 10, 11, 12] [(1, .p 0 0), (38, B (usedB q.id))] ?_ rfl ?_
        · as_aux_lemma => kernel_rfl
        refine SPLIT (d := 38) (usedB q.id) ?_ (fun bh8 => ?_) (fun bh8 => ?_)
        · as_aux_lemma => kernel_rfl
        · -- usedB q.id = true
          have h8 := bh8
          refine RUN0 6 [10, 11, 12] [(38, B true), (39, .v (.agg #[vi q.kind, vi q.id, vi q.cabin, vi q.from', vi q.size, vi q.tier])), (44, .v (.agg #[vi q.kind, vi q.id, vi 0, vi 0, vi 0, vi 0]))] ?_ rfl ?_
          · as_aux_lemma => kernel_rfl
          refine OPC (RUNV (.binOp .eql 23 (.tmp 39) (.tmp 44) 23) 45 4 ?_ (Nat.le_of_ble_eq_true rfl) (.bool ((q.kind == q.kind) && ((q.id == q.id) && ((q.cabin == 0) && ((q.from' == 0) && ((q.size == 0) && ((q.tier == 0) && true))))))) (runs_eql (xs := [vi q.kind, vi q.id, vi q.cabin, vi q.from', vi q.size, vi q.tier]) (ys := [vi q.kind, vi q.id, vi 0, vi 0, vi 0, vi 0]) (r := (q.kind == q.kind) && ((q.id == q.id) && ((q.cabin == 0) && ((q.from' == 0) && ((q.size == 0) && ((q.tier == 0) && true)))))) ?_ ?_ ?_) ?_)
          · as_aux_lemma => kernel_rfl
          · as_aux_lemma => kernel_rfl
          · as_aux_lemma => kernel_rfl
          · as_aux_lemma => kernel_rfl
          refine RUN0 2 [] [(2, B ((q.kind == q.kind) && ((q.id == q.id) && ((q.cabin == 0) && ((q.from' == 0) && ((q.size == 0) && ((q.tier == 0) && true)))))))] ?_ rfl ?_
          · as_aux_lemma => kernel_rfl
          refine ENDOPS (NEXT (RET (OUTR (PASS trivial (FIN (.bool ((q.kind == q.kind) && ((q.id == q.id) && ((q.cabin == 0) && ((q.from' == 0) && ((q.size == 0) && ((q.tier == 0) && true))))))) ?_ () ?_ [] ?_)))))
          · as_aux_lemma => kernel_rfl
          · simp [RV, reqOk, reqEq, *]
          · rfl
        · -- usedB q.id = false
          have h8 := bh8
          refine RUN0 9 [] [(2, B false)] ?_ rfl ?_
          · as_aux_lemma => kernel_rfl
          refine ENDOPS (NEXT (RET (OUTR (PASS trivial (FIN (.bool false) ?_ () ?_ [] ?_)))))
          · as_aux_lemma => kernel_rfl
          · simp [RV, reqOk, reqEq, *]
          · rfl
      · exact Bool.noConfusion (bh6.symm.trans bh7)
    · -- q.kind == 2 = false
      have h6 := bh6
      have h6 := ne_of_beq_false h6
      refine SEQ (REGION [0, 1] rfl (RUN0 2 [] [(1, .p 0 0), (4, I q.kind), (30, B (q.kind == 4))] ?_ rfl ?_))
      · as_aux_lemma => kernel_rfl
      refine ENDOPS (NEXT (IF (q.kind == 4) ?_ (fun bh9 => ?_) (fun bh9 => ?_)))
      · as_aux_lemma => kernel_rfl
      · -- q.kind == 4 = true
        have h9 := bh9
        have h9 := eq_of_beq h9
        refine SKIP (NEXT (IF (q.kind == 4) ?_ (fun bh10 => ?_) (fun bh10 => ?_)))
        · as_aux_lemma => kernel_rfl
        · -- q.kind == 4 = true
          have h10 := bh10
          have h10 := eq_of_beq h10
          refine SEQ (REGION [0, 1, 2, 3, 4, 5, 6, 7, 8, 9, 10, 11, 12] rfl (RUN0 2 [2, 3, 4, 5, 6, 7, 8, 9, 10, 11, 12] [(1, .p 0 0), (36, I q.id)] ?_ rfl ?_))
          · as_aux_lemma => kernel_rfl
          refine OPC (CALL 35 #[vi q.id] (some 37) ?_ [] [] _ rfl (RV (.bool (usedB q.id))) (fun w hw => l12Field_c w q.id) (by rintro _ ⟨⟩; exact Nat.le_of_ble_eq_true rfl) ?_)
          · as_aux_lemma => kernel_rfl
          rintro ⟨⟩
          refine RUN0 1 [4, 5, 6, 7, 8, 9, 10, 11, 12] [(1, .p 0 0), (38, B (usedB q.id))] ?_ rfl ?_
          · as_aux_lemma => kernel_rfl
          refine SPLIT (d := 38) (usedB q.id) ?_ (fun bh11 => ?_) (fun bh11 => ?_)
          · as_aux_lemma => kernel_rfl
          · -- usedB q.id = true
            have h11 := bh11
            refine RUN0 6 [10, 11, 12] [(38, B true), (39, .v (.agg #[vi q.kind, vi q.id, vi q.cabin, vi q.from', vi q.size, vi q.tier])), (44, .v (.agg #[vi q.kind, vi q.id, vi 0, vi 0, vi 0, vi 0]))] ?_ rfl ?_
            · as_aux_lemma => kernel_rfl
            refine OPC (RUNV (.binOp .eql 23 (.tmp 39) (.tmp 44) 23) 45 4 ?_ (Nat.le_of_ble_eq_true rfl) (.bool ((q.kind == q.kind) && ((q.id == q.id) && ((q.cabin == 0) && ((q.from' == 0) && ((q.size == 0) && ((q.tier == 0) && true))))))) (runs_eql (xs := [vi q.kind, vi q.id, vi q.cabin, vi q.from', vi q.size, vi q.tier]) (ys := [vi q.kind, vi q.id, vi 0, vi 0, vi 0, vi 0]) (r := (q.kind == q.kind) && ((q.id == q.id) && ((q.cabin == 0) && ((q.from' == 0) && ((q.size == 0) && ((q.tier == 0) && true)))))) ?_ ?_ ?_) ?_)
            · as_aux_lemma => kernel_rfl
            · as_aux_lemma => kernel_rfl
            · as_aux_lemma => kernel_rfl
            · as_aux_lemma => kernel_rfl
            refine RUN0 2 [] [(2, B ((q.kind == q.kind) && ((q.id == q.id) && ((q.cabin == 0) && ((q.from' == 0) && ((q.size == 0) && ((q.tier == 0) && true)))))))] ?_ rfl ?_
            · as_aux_lemma => kernel_rfl
            refine ENDOPS (NEXT (RET (OUTR (PASS trivial (FIN (.bool ((q.kind == q.kind) && ((q.id == q.id) && ((q.cabin == 0) && ((q.from' == 0) && ((q.size == 0) && ((q.tier == 0) && true))))))) ?_ () ?_ [] ?_)))))
            · as_aux_lemma => kernel_rfl
            · simp [RV, reqOk, reqEq, *]
            · rfl
          · -- usedB q.id = false
            have h11 := bh11
            refine RUN0 9 [] [(2, B false)] ?_ rfl ?_
            · as_aux_lemma => kernel_rfl
            refine ENDOPS (NEXT (RET (OUTR (PASS trivial (FIN (.bool false) ?_ () ?_ [] ?_)))))
            · as_aux_lemma => kernel_rfl
            · simp [RV, reqOk, reqEq, *]
            · rfl
        · exact Bool.noConfusion (bh9.symm.trans bh10)
      · -- q.kind == 4 = false
        have h9 := bh9
        have h9 := ne_of_beq_false h9
        refine SEQ (REGION [0, 1] rfl (RUN0 2 [] [(1, .p 0 0), (4, I q.kind), (30, B (q.kind == 5))] ?_ rfl ?_))
        · as_aux_lemma => kernel_rfl
        refine ENDOPS (NEXT (IF (q.kind == 5) ?_ (fun bh12 => ?_) (fun bh12 => ?_)))
        · as_aux_lemma => kernel_rfl
        · -- q.kind == 5 = true
          have h12 := bh12
          have h12 := eq_of_beq h12
          refine SKIP (NEXT (IF (q.kind == 5) ?_ (fun bh13 => ?_) (fun bh13 => ?_)))
          · as_aux_lemma => kernel_rfl
          · -- q.kind == 5 = true
            have h13 := bh13
            have h13 := eq_of_beq h13
            refine SEQ (REGION [0, 1, 2, 3, 4, 5, 6, 7, 8, 9, 10, 11, 12] rfl (RUN0 2 [2, 3, 4, 5, 6, 7, 8, 9, 10, 11, 12] [(1, .p 0 0), (36, I q.id)] ?_ rfl ?_))
            · as_aux_lemma => kernel_rfl
            refine OPC (CALL 35 #[vi q.id] (some 37) ?_ [] [] _ rfl (RV (.bool (usedB q.id))) (fun w hw => l12Field_c w q.id) (by rintro _ ⟨⟩; exact Nat.le_of_ble_eq_true rfl) ?_)
            · as_aux_lemma => kernel_rfl
            rintro ⟨⟩
            refine RUN0 1 [4, 5, 6, 7, 8, 9, 10, 11, 12] [(1, .p 0 0), (38, B (usedB q.id))] ?_ rfl ?_
            · as_aux_lemma => kernel_rfl
            refine SPLIT (d := 38) (usedB q.id) ?_ (fun bh14 => ?_) (fun bh14 => ?_)
            · as_aux_lemma => kernel_rfl
            · -- usedB q.id = true
              have h14 := bh14
              refine RUN0 6 [10, 11, 12] [(38, B true), (39, .v (.agg #[vi q.kind, vi q.id, vi q.cabin, vi q.from', vi q.size, vi q.tier])), (44, .v (.agg #[vi q.kind, vi q.id, vi 0, vi 0, vi 0, vi 0]))] ?_ rfl ?_
              · as_aux_lemma => kernel_rfl
              refine OPC (RUNV (.binOp .eql 23 (.tmp 39) (.tmp 44) 23) 45 4 ?_ (Nat.le_of_ble_eq_true rfl) (.bool ((q.kind == q.kind) && ((q.id == q.id) && ((q.cabin == 0) && ((q.from' == 0) && ((q.size == 0) && ((q.tier == 0) && true))))))) (runs_eql (xs := [vi q.kind, vi q.id, vi q.cabin, vi q.from', vi q.size, vi q.tier]) (ys := [vi q.kind, vi q.id, vi 0, vi 0, vi 0, vi 0]) (r := (q.kind == q.kind) && ((q.id == q.id) && ((q.cabin == 0) && ((q.from' == 0) && ((q.size == 0) && ((q.tier == 0) && true)))))) ?_ ?_ ?_) ?_)
              · as_aux_lemma => kernel_rfl
              · as_aux_lemma => kernel_rfl
              · as_aux_lemma => kernel_rfl
              · as_aux_lemma => kernel_rfl
              refine RUN0 2 [] [(2, B ((q.kind == q.kind) && ((q.id == q.id) && ((q.cabin == 0) && ((q.from' == 0) && ((q.size == 0) && ((q.tier == 0) && true)))))))] ?_ rfl ?_
              · as_aux_lemma => kernel_rfl
              refine ENDOPS (NEXT (RET (OUTR (PASS trivial (FIN (.bool ((q.kind == q.kind) && ((q.id == q.id) && ((q.cabin == 0) && ((q.from' == 0) && ((q.size == 0) && ((q.tier == 0) && true))))))) ?_ () ?_ [] ?_)))))
              · as_aux_lemma => kernel_rfl
              · simp [RV, reqOk, reqEq, *]
              · rfl
            · -- usedB q.id = false
              have h14 := bh14
              refine RUN0 9 [] [(2, B false)] ?_ rfl ?_
              · as_aux_lemma => kernel_rfl
              refine ENDOPS (NEXT (RET (OUTR (PASS trivial (FIN (.bool false) ?_ () ?_ [] ?_)))))
              · as_aux_lemma => kernel_rfl
              · simp [RV, reqOk, reqEq, *]
              · rfl
          · exact Bool.noConfusion (bh12.symm.trans bh13)
        · -- q.kind == 5 = false
          have h12 := bh12
          have h12 := ne_of_beq_false h12
          refine REGION [0, 1] rfl (RUN0 2 [] [(1, .p 0 0), (4, I q.kind), (30, B (q.kind == 7))] ?_ rfl ?_)
          · as_aux_lemma => kernel_rfl
          refine ENDOPS (NEXT (IF (q.kind == 7) ?_ (fun bh15 => ?_) (fun bh15 => ?_)))
          · as_aux_lemma => kernel_rfl
          · -- q.kind == 7 = true
            have h15 := bh15
            have h15 := eq_of_beq h15
            refine SEQ (REGION [0, 1, 2, 3, 4, 5, 6, 7, 8, 9, 10, 11, 12] rfl (RUN0 2 [2, 3, 4, 5, 6, 7, 8, 9, 10, 11, 12] [(1, .p 0 0), (36, I q.id)] ?_ rfl ?_))
            · as_aux_lemma => kernel_rfl
            refine OPC (CALL 35 #[vi q.id] (some 37) ?_ [] [] _ rfl (RV (.bool (usedB q.id))) (fun w hw => l12Field_c w q.id) (by rintro _ ⟨⟩; exact Nat.le_of_ble_eq_true rfl) ?_)
            · as_aux_lemma => kernel_rfl
            rintro ⟨⟩
            refine RUN0 1 [4, 5, 6, 7, 8, 9, 10, 11, 12] [(1, .p 0 0), (38, B (usedB q.id))] ?_ rfl ?_
            · as_aux_lemma => kernel_rfl
            refine SPLIT (d := 38) (usedB q.id) ?_ (fun bh16 => ?_) (fun bh16 => ?_)
            · as_aux_lemma => kernel_rfl
            · -- usedB q.id = true
              have h16 := bh16
              refine RUN0 6 [10, 11, 12] [(38, B true), (39, .v (.agg #[vi q.kind, vi q.id, vi q.cabin, vi q.from', vi q.size, vi q.tier])), (44, .v (.agg #[vi q.kind, vi q.id, vi 0, vi 0, vi 0, vi 0]))] ?_ rfl ?_
              · as_aux_lemma => kernel_rfl
              refine OPC (RUNV (.binOp .eql 23 (.tmp 39) (.tmp 44) 23) 45 4 ?_ (Nat.le_of_ble_eq_true rfl) (.bool ((q.kind == q.kind) && ((q.id == q.id) && ((q.cabin == 0) && ((q.from' == 0) && ((q.size == 0) && ((q.tier == 0) && true))))))) (runs_eql (xs := [vi q.kind, vi q.id, vi q.cabin, vi q.from', vi q.size, vi q.tier]) (ys := [vi q.kind, vi q.id, vi 0, vi 0, vi 0, vi 0]) (r := (q.kind == q.kind) && ((q.id == q.id) && ((q.cabin == 0) && ((q.from' == 0) && ((q.size == 0) && ((q.tier == 0) && true)))))) ?_ ?_ ?_) ?_)
              · as_aux_lemma => kernel_rfl
              · as_aux_lemma => kernel_rfl
              · as_aux_lemma => kernel_rfl
              · as_aux_lemma => kernel_rfl
              refine RUN0 2 [] [(2, B ((q.kind == q.kind) && ((q.id == q.id) && ((q.cabin == 0) && ((q.from' == 0) && ((q.size == 0) && ((q.tier == 0) && true)))))))] ?_ rfl ?_
              · as_aux_lemma => kernel_rfl
              refine ENDOPS (NEXT (RET (OUTR (PASS trivial (FIN (.bool ((q.kind == q.kind) && ((q.id == q.id) && ((q.cabin == 0) && ((q.from' == 0) && ((q.size == 0) && ((q.tier == 0) && true))))))) ?_ () ?_ [] ?_)))))
              · as_aux_lemma => kernel_rfl
              · simp [RV, reqOk, reqEq, *]
              · rfl
            · -- usedB q.id = false
              have h16 := bh16
              refine RUN0 9 [] [(2, B false)] ?_ rfl ?_
              · as_aux_lemma => kernel_rfl
              refine ENDOPS (NEXT (RET (OUTR (PASS trivial (FIN (.bool false) ?_ () ?_ [] ?_)))))
              · as_aux_lemma => kernel_rfl
              · simp [RV, reqOk, reqEq, *]
              · rfl
          · -- q.kind == 7 = false
            have h15 := bh15
            have h15 := ne_of_beq_false h15
            refine SEQ (REGION [0, 1] rfl (RUN0 2 [] [(1, .p 0 0), (4, I q.kind), (47, B (q.kind == 3))] ?_ rfl ?_))
            · as_aux_lemma => kernel_rfl
            refine ENDOPS (NEXT (IF (q.kind == 3) ?_ (fun bh17 => ?_) (fun bh17 => ?_)))
            · as_aux_lemma => kernel_rfl
            · -- q.kind == 3 = true
              have h17 := bh17
              have h17 := eq_of_beq h17
              refine SEQ (REGION [0, 1, 2, 3, 4, 5, 6, 7, 8, 9, 10, 11, 12, 13, 14, 15, 16, 17, 18, 19] rfl (RUN0 2 [2, 3, 4, 5, 6, 7, 8, 9, 10, 11, 12, 13, 14, 15, 16, 17, 18, 19] [(1, .p 0 0), (50, I q.cabin)] ?_ rfl ?_))
              · as_aux_lemma => kernel_rfl
              refine OPC (CALL 35 #[vi q.cabin] (some 51) ?_ [] [] _ rfl (RV (.bool (usedB q.cabin))) (fun w hw => l12Field_c w q.cabin) (by rintro _ ⟨⟩; exact Nat.le_of_ble_eq_true rfl) ?_)
              · as_aux_lemma => kernel_rfl
              rintro ⟨⟩
              refine RUN0 1 [4, 5, 6, 7, 8, 9, 10, 11, 12, 13, 14, 15, 16, 17, 18, 19] [(1, .p 0 0), (52, B (usedB q.cabin))] ?_ rfl ?_
              · as_aux_lemma => kernel_rfl
              refine SPLIT (d := 52) (usedB q.cabin) ?_ (fun bh18 => ?_) (fun bh18 => ?_)
              · as_aux_lemma => kernel_rfl
              · -- usedB q.cabin = true
                have h18 := bh18
                refine RUN0 2 [6, 7, 8, 9, 10, 11, 12, 13, 14, 15, 16, 17, 18, 19] [(1, .p 0 0), (52, B true), (54, I q.size)] ?_ rfl ?_
                · as_aux_lemma => kernel_rfl
                refine OPC (CALL 35 #[vi q.size] (some 55) ?_ [] [] _ rfl (RV (.bool (usedB q.size))) (fun w hw => l12Field_c w q.size) (by rintro _ ⟨⟩; exact Nat.le_of_ble_eq_true rfl) ?_)
                · as_aux_lemma => kernel_rfl
                rintro ⟨⟩
                refine RUN0 2 [9, 10, 11, 12, 13, 14, 15, 16, 17, 18, 19] [(1, .p 0 0), (57, B (usedB q.size))] ?_ rfl ?_
                · as_aux_lemma => kernel_rfl
                refine SPLIT (d := 57) (usedB q.size) ?_ (fun bh19 => ?_) (fun bh19 => ?_)
                · as_aux_lemma => kernel_rfl
                · -- usedB q.size = true
                  have h19 := bh19
                  refine RUN0 8 [17, 18, 19] [(57, B true), (58, .v (.agg #[vi q.kind, vi q.id, vi q.cabin, vi q.from', vi q.size, vi q.tier])), (65, .v (.agg #[vi q.kind, vi 0, vi q.cabin, vi 0, vi q.size, vi 0]))] ?_ rfl ?_
                  · as_aux_lemma => kernel_rfl
                  refine OPC (RUNV (.binOp .eql 23 (.tmp 58) (.tmp 65) 23) 66 4 ?_ (Nat.le_of_ble_eq_true rfl) (.bool ((q.kind == q.kind) && ((q.id == 0) && ((q.cabin == q.cabin) && ((q.from' == 0) && ((q.size == q.size) && ((q.tier == 0) && true))))))) (runs_eql (xs := [vi q.kind, vi q.id, vi q.cabin, vi q.from', vi q.size, vi q.tier]) (ys := [vi q.kind, vi 0, vi q.cabin, vi 0, vi q.size, vi 0]) (r := (q.kind == q.kind) && ((q.id == 0) && ((q.cabin == q.cabin) && ((q.from' == 0) && ((q.size == q.size) && ((q.tier == 0) && true)))))) ?_ ?_ ?_) ?_)
                  · as_aux_lemma => kernel_rfl
                  · as_aux_lemma => kernel_rfl
                  · as_aux_lemma => kernel_rfl
                  · as_aux_lemma => kernel_rfl
                  refine RUN0 2 [] [(2, B ((q.kind == q.kind) && ((q.id == 0) && ((q.cabin == q.cabin) && ((q.from' == 0) && ((q.size == q.size) && ((q.tier == 0) && true)))))))] ?_ rfl ?_
                  · as_aux_lemma => kernel_rfl
                  refine ENDOPS (NEXT (RET (OUTR (PASS trivial (FIN (.bool ((q.kind == q.kind) && ((q.id == 0) && ((q.cabin == q.cabin) && ((q.from' == 0) && ((q.size == q.size) && ((q.tier == 0) && true))))))) ?_ () ?_ [] ?_)))))
                  · as_aux_lemma => kernel_rfl
                  · simp [RV, reqOk, reqEq, *]
                  · rfl
                · -- usedB q.size = false
                  have h19 := bh19
                  refine RUN0 11 [] [(2, B false)] ?_ rfl ?_
                  · as_aux_lemma => kernel_rfl
                  refine ENDOPS (NEXT (RET (OUTR (PASS trivial (FIN (.bool false) ?_ () ?_ [] ?_)))))
                  · as_aux_lemma => kernel_rfl
                  · simp [RV, reqOk, reqEq, *]
                  · rfl
              · -- usedB q.cabin = false
                have h18 := bh18
                refine RUN0 16 [] [(2, B false)] ?_ rfl ?_
                · as_aux_lemma => kernel_rfl
                refine ENDOPS (NEXT (RET (OUTR (PASS trivial (FIN (.bool false) ?_ () ?_ [] ?_)))))
                · as_aux_lemma => kernel_rfl
                · simp [RV, reqOk, reqEq, *]
                · rfl
            · -- q.kind == 3 = false
              have h17 := bh17
              have h17 := ne_of_beq_false h17
              refine SEQ (REGION [0, 1] rfl (RUN0 2 [] [(1, .p 0 0), (68, B (q.kind == 6))] ?_ rfl ?_))
              · as_aux_lemma => kernel_rfl
              refine ENDOPS (NEXT (IF (q.kind == 6) ?_ (fun bh20 => ?_) (fun bh20 => ?_)))
              · as_aux_lemma => kernel_rfl
              · -- q.kind == 6 = true
                have h20 := bh20
                have h20 := eq_of_beq h20
                refine SEQ (REGION [0, 1, 2, 3, 4, 5] rfl (RUN0 4 [4, 5] [(70, .v (.agg #[vi q.kind, vi q.id, vi q.cabin, vi q.from', vi q.size, vi q.tier])), (73, .v (.agg #[vi q.kind, vi 0, vi 0, vi 0, vi 0, vi 0]))] ?_ rfl ?_))
                · as_aux_lemma => kernel_rfl
                refine OPC (RUNV (.binOp .eql 23 (.tmp 70) (.tmp 73) 23) 74 4 ?_ (Nat.le_of_ble_eq_true rfl) (.bool ((q.kind == q.kind) && ((q.id == 0) && ((q.cabin == 0) && ((q.from' == 0) && ((q.size == 0) && ((q.tier == 0) && true))))))) (runs_eql (xs := [vi q.kind, vi q.id, vi q.cabin, vi q.from', vi q.size, vi q.tier]) (ys := [vi q.kind, vi 0, vi 0, vi 0, vi 0, vi 0]) (r := (q.kind == q.kind) && ((q.id == 0) && ((q.cabin == 0) && ((q.from' == 0) && ((q.size == 0) && ((q.tier == 0) && true)))))) ?_ ?_ ?_) ?_)
                · as_aux_lemma => kernel_rfl
                · as_aux_lemma => kernel_rfl
                · as_aux_lemma => kernel_rfl
                · as_aux_lemma => kernel_rfl
                refine RUN0 1 [] [(2, B ((q.kind == q.kind) && ((q.id == 0) && ((q.cabin == 0) && ((q.from' == 0) && ((q.size == 0) && ((q.tier == 0) && true)))))))] ?_ rfl ?_
                · as_aux_lemma => kernel_rfl
                refine ENDOPS (NEXT (RET (OUTR (PASS trivial (FIN (.bool ((q.kind == q.kind) && ((q.id == 0) && ((q.cabin == 0) && ((q.from' == 0) && ((q.size == 0) && ((q.tier == 0) && true))))))) ?_ () ?_ [] ?_)))))
                · as_aux_lemma => kernel_rfl
                · simp [RV, reqOk, reqEq, *]
                · rfl
              · -- q.kind == 6 = false
                have h20 := bh20
                have h20 := ne_of_beq_false h20
                refine SKIP (OUTN (NEXT (SEQ (REGION [0] rfl (RUN0 1 [] [(2, B false)] ?_ rfl ?_)))))
                · as_aux_lemma => kernel_rfl
                refine ENDOPS (NEXT (RET (FIN (.bool false) ?_ () ?_ [] ?_)))
                · as_aux_lemma => kernel_rfl
                · simp [RV, reqOk, reqEq, *]
                · rfl

theorem iReqOk1_c (W : World) (n : Int) : Spec Tryd.prog W [] 38 #[vi n] (RV (.bool (usedB n))) := by
  refine ENTER0 (N := 5) (vs := [vi n]) Tryd.func38 rfl rfl (Nat.le_of_ble_eq_true rfl) ?_
  refine SEQ (REGION [0] rfl (RUN0 1 [] [(0, I n)] ?_ rfl ?_))
  · as_aux_lemma => kernel_rfl
  refine ENDOPS (NEXT (SEQ (REGION [0, 1, 2] rfl (RUN0 1 [1, 2] [(3, I n)] ?_ rfl ?_))))
  · as_aux_lemma => kernel_rfl
  refine OPC (CALL 33 #[vi n, vi 0, vi 9999] (some 4) ?_ [] [] _ rfl (RV (.bool (inB n 0 9999))) (fun w hw => within_c w n 0 9999) (by rintro _ ⟨⟩; exact Nat.le_of_ble_eq_true rfl) ?_)
  · as_aux_lemma => kernel_rfl
  rintro ⟨⟩
  refine RUN0 1 [] [(2, B (inB n 0 9999))] ?_ rfl ?_
  · as_aux_lemma => kernel_rfl
  refine ENDOPS (NEXT (RET (FIN (.bool (inB n 0 9999)) ?_ () ?_ [] ?_)))
  · as_aux_lemma => kernel_rfl
  · simp [RV, usedB]
  · rfl

theorem iReqOk_c (W : World) (q : Req) : Spec Tryd.prog W [] 29 #[.agg #[vi q.kind, vi q.id, vi q.cabin, vi q.from', vi q.size, vi q.tier]] (RV (.bool (reqOk q))) := by
  refine ENTER0 (N := 81) (vs := [.agg #[vi q.kind, vi q.id, vi q.cabin, vi q.from', vi q.size, vi q.tier]]) Tryd.func29 rfl rfl (Nat.le_of_ble_eq_true rfl) ?_
  refine SEQ (REGION [0, 1] rfl (RUN 2 [] [(1, .p 0 0)] [(23, [vi q.kind, vi q.id, vi q.cabin, vi q.from', vi q.size, vi q.tier])] ?_ rfl ?_))
  · as_aux_lemma => kernel_rfl
  refine ENDOPS (NEXT (SEQ (REGION [0] rfl (RUN0 1 [] [(1, .p 0 0), (3, .v (.func (.func 38) #[] #[]))] ?_ rfl ?_))))
  · as_aux_lemma => kernel_rfl
  refine ENDOPS (NEXT (SEQ (SEQ (REGION [0, 1] rfl (RUN0 2 [] [(1, .p 0 0), (3, .v (.func (.func 38) #[] #[])), (5, I q.kind)] ?_ rfl ?_)))))
  · as_aux_lemma => kernel_rfl
  refine ENDOPS (NEXT (BLOCK (SEQ (REGION [0, 1] rfl (RUN0 2 [] [(1, .p 0 0), (3, .v (.func (.func 38) #[] #[])), (5, I q.kind), (6, B (q.kind == 1))] ?_ rfl ?_)))))
  · as_aux_lemma => kernel_rfl
  refine ENDOPS (NEXT (IF (q.kind == 1) ?_ (fun bh1 => ?_) (fun bh1 => ?_)))
  · as_aux_lemma => kernel_rfl
  · -- q.kind == 1 = true
    have h1 := bh1
    have h1 := eq_of_beq h1
    refine SEQ (REGION [0, 1, 2, 3, 4, 5, 6, 7, 8, 9, 10, 11, 12, 13, 14, 15, 16, 17, 18, 19, 20, 21, 22, 23, 24, 25, 26, 27] rfl (RUN0 3 [3, 4, 5, 6, 7, 8, 9, 10, 11, 12, 13, 14, 15, 16, 17, 18, 19, 20, 21, 22, 23, 24, 25, 26, 27] [(1, .p 0 0), (3, .v (.func (.func 38) #[] #[])), (8, .v (.func (.func 38) #[] #[])), (10, I q.id)] ?_ rfl ?_))
    · as_aux_lemma => kernel_rfl
    refine OPC (CALL 38 #[vi q.id] (some 11) ?_ [] [] _ rfl (RV (.bool (usedB q.id))) (fun w hw => iReqOk1_c w q.id) (by rintro _ ⟨⟩; exact Nat.le_of_ble_eq_true rfl) ?_)
    · as_aux_lemma => kernel_rfl
    rintro ⟨⟩
    refine RUN0 1 [5, 6, 7, 8, 9, 10, 11, 12, 13, 14, 15, 16, 17, 18, 19, 20, 21, 22, 23, 24, 25, 26, 27] [(1, .p 0 0), (3, .v (.func (.func 38) #[] #[])), (12, B (usedB q.id))] ?_ rfl ?_
    · as_aux_lemma => kernel_rfl
    refine SPLIT (d := 12) (usedB q.id) ?_ (fun bh2 => ?_) (fun bh2 => ?_)
    · as_aux_lemma => kernel_rfl
    · -- usedB q.id = true
      have h2 := bh2
      refine RUN0 3 [8, 9, 10, 11, 12, 13, 14, 15, 16, 17, 18, 19, 20, 21, 22, 23, 24, 25, 26, 27] [(1, .p 0 0), (3, .v (.func (.func 38) #[] #[])), (12, B true), (13, .v (.func (.func 38) #[] #[])), (15, I q.cabin)] ?_ rfl ?_
      · as_aux_lemma => kernel_rfl
      refine OPC (CALL 38 #[vi q.cabin] (some 16) ?_ [] [] _ rfl (RV (.bool (usedB q.cabin))) (fun w hw => iReqOk1_c w q.cabin) (by rintro _ ⟨⟩; exact Nat.le_of_ble_eq_true rfl) ?_)
      · as_aux_lemma => kernel_rfl
      rintro ⟨⟩
      refine RUN0 2 [11, 12, 13, 14, 15, 16, 17, 18, 19, 20, 21, 22, 23, 24, 25, 26, 27] [(1, .p 0 0), (3, .v (.func (.func 38) #[] #[])), (18, B (usedB q.cabin))] ?_ rfl ?_
      · as_aux_lemma => kernel_rfl
      refine SPLIT (d := 18) (usedB q.cabin) ?_ (fun bh3 => ?_) (fun bh3 => ?_)
      · as_aux_lemma => kernel_rfl
      · -- usedB q.cabin = true
        have h3 := bh3
        refine RUN0 2 [13, 14, 15, 16, 17, 18, 19, 20, 21, 22, 23, 24, 25, 26, 27] [(1, .p 0 0), (3, .v (.func (.func 38) #[] #[])), (18, B true), (20, I q.from')] ?_ rfl ?_
        · as_aux_lemma => kernel_rfl
        refine OPC (CALL 33 #[vi q.from', vi (-1), vi 9999] (some 21) ?_ [] [] _ rfl (RV (.bool (inB q.from' (-1) 9999))) (fun w hw => within_c w q.from' (-1) 9999) (by rintro _ ⟨⟩; exact Nat.le_of_ble_eq_true rfl) ?_)
        · as_aux_lemma => kernel_rfl
        rintro ⟨⟩
        refine RUN0 2 [16, 17, 18, 19, 20, 21, 22, 23, 24, 25, 26, 27] [(1, .p 0 0), (3, .v (.func (.func 38) #[] #[])), (23, B (inB q.from' (-1) 9999))] ?_ rfl ?_
        · as_aux_lemma => kernel_rfl
        refine SPLIT (d := 23) (inB q.from' (-1) 9999) ?_ (fun bh4 => ?_) (fun bh4 => ?_)
        · as_aux_lemma => kernel_rfl
        · -- inB q.from' (-1) 9999 = true
          have h4 := bh4
          refine RUN0 3 [19, 20, 21, 22, 23, 24, 25, 26, 27] [(1, .p 0 0), (3, .v (.func (.func 38) #[] #[])), (23, B true), (24, .v (.func (.func 38) #[] #[])), (26, I q.size)] ?_ rfl ?_
          · as_aux_lemma => kernel_rfl
          refine OPC (CALL 38 #[vi q.size] (some 27) ?_ [] [] _ rfl (RV (.bool (usedB q.size))) (fun w hw => iReqOk1_c w q.size) (by rintro _ ⟨⟩; exact Nat.le_of_ble_eq_true rfl) ?_)
          · as_aux_lemma => kernel_rfl
          rintro ⟨⟩
          refine RUN0 2 [22, 23, 24, 25, 26, 27] [(1, .p 0 0), (3, .v (.func (.func 38) #[] #[])), (29, B (usedB q.size))] ?_ rfl ?_
          · as_aux_lemma => kernel_rfl
          refine SPLIT (d := 29) (usedB q.size) ?_ (fun bh5 => ?_) (fun bh5 => ?_)
          · as_aux_lemma => kernel_rfl
          · -- usedB q.size = true
            have h5 := bh5
            refine RUN0 3 [25, 26, 27] [(29, B true), (30, .v (.func (.func 38) #[] #[])), (32, I q.tier)] ?_ rfl ?_
            · as_aux_lemma => kernel_rfl
            refine OPC (CALL 38 #[vi q.tier] (some 33) ?_ [] [] _ rfl (RV (.bool (usedB q.tier))) (fun w hw => iReqOk1_c w q.tier) (by rintro _ ⟨⟩; exact Nat.le_of_ble_eq_true rfl) ?_)
            · as_aux_lemma => kernel_rfl
            rintro ⟨⟩
            refine RUN0 2 [] [(2, B (usedB q.tier))] ?_ rfl ?_
            · as_aux_lemma => kernel_rfl
            refine ENDOPS (NEXT (RET (OUTR (PASS trivial (FIN (.bool (usedB q.tier)) ?_ () ?_ [] ?_)))))
            · as_aux_lemma => kernel_rfl
            · simp [RV, reqOk, reqEq, *]
            · rfl
          · -- usedB q.size = false
            have h5 := bh5
            refine RUN0 6 [] [(2, B false)] ?_ rfl ?_
            · as_aux_lemma => kernel_rfl
            refine ENDOPS (NEXT (RET (OUTR (PASS trivial (FIN (.bool false) ?_ () ?_ [] ?_)))))
            · as_aux_lemma => kernel_rfl
            · simp [RV, reqOk, reqEq, *]
            · rfl
        · -- inB q.from' (-1) 9999 = false
          have h4 := bh4
          refine RUN0 12 [] [(2, B false)] ?_ rfl ?_
          · as_aux_lemma => kernel_rfl
          refine ENDOPS (NEXT (RET (OUTR (PASS trivial (FIN (.bool false) ?_ () ?_ [] ?_)))))
          · as_aux_lemma => kernel_rfl
          · simp [RV, reqOk, reqEq, *]
          · rfl
      · -- usedB q.cabin = false
        have h3 := bh3
        refine RUN0 17 [] [(2, B false)] ?_ rfl ?_
        · as_aux_lemma => kernel_rfl
        refine ENDOPS (NEXT (RET (OUTR (PASS trivial (FIN (.bool false) ?_ () ?_ [] ?_)))))
        · as_aux_lemma => kernel_rfl
        · simp [RV, reqOk, reqEq, *]
        · rfl
    · -- usedB q.id = false
      have h2 := bh2
      refine RUN0 23 [] [(2, B false)] ?_ rfl ?_
      · as_aux_lemma => kernel_rfl
      refine ENDOPS (NEXT (RET (OUTR (PASS trivial (FIN (.bool false) ?_ () ?_ [] ?_)))))
      · as_aux_lemma => kernel_rfl
      · simp [RV, reqOk, reqEq, *]
      · rfl
  · -- q.kind == 1 = false
    have h1 := bh1
    have h1 := ne_of_beq_false h1
    refine SEQ (SEQ (REGION [0, 1] rfl (RUN0 2 [] [(1, .p 0 0), (3, .v (.func (.func 38) #[] #[])), (5, I q.kind), (35, B (q.kind == 2))] ?_ rfl ?_)))
    · as_aux_lemma => kernel_rfl
    refine ENDOPS (NEXT (IF (q.kind == 2) ?_ (fun bh6 => ?_) (fun bh6 => ?_)))
    · as_aux_lemma => kernel_rfl
    · -- q.kind == 2 = true
      have h6 := bh6
      have h6 := eq_of_beq h6
      refine SKIP (NEXT (IF (q.kind == 2) ?_ (fun bh7 => ?_) (fun bh7 => ?_)))
      · as_aux_lemma => kernel_rfl
      · -- q.kind == 2 = true
        have h7 := bh7
        have h7 := eq_of_beq h7
        refine SEQ (REGION [0, 1, 2, 3, 4, 5, 6, 7, 8, 9, 10, 11, 12, 13] rfl (RUN0 3 [3, 4, 5, 6, 7, 8, 9, 10, 11, 12, 13] [(1, .p 0 0), (40, .v (.func (.func 38) #[] #[])), (42, I q.id)] ?_ rfl ?_))
        · as_aux_lemma => kernel_rfl
        refine OPC (CALL 38 #[vi q.id] (some 43) ?_ [] [] _ rfl (RV (.bool (usedB q.id))) (fun w hw => iReqOk1_c w q.id) (by rintro _ ⟨⟩; exact Nat.le_of_ble_eq_true rfl) ?_)
        · as_aux_lemma => kernel_rfl
        rintro ⟨⟩
        refine RUN0 1 [5, 6, 7, 8, 9, 10, 11, 12, 13] [(1, .p 0 0), (44, B (usedB q.id))] ?_ rfl ?_
        · as_aux_lemma => kernel_rfl
        refine SPLIT (d := 44) (usedB q.id) ?_ (fun bh8 => ?_) (fun bh8 => ?_)
        · as_aux_lemma => kernel_rfl
        · -- usedB q.id = true
          have h8 := bh8
          refine RUN0 6 [11, 12, 13] [(44, B true), (45, .v (.agg #[vi q.kind, vi q.id, vi q.cabin, vi q.from', vi q.size, vi q.tier])), (50, .v (.agg #[vi q.kind, vi q.id, vi 0, vi 0, vi 0, vi 0]))] ?_ rfl ?_
          · as_aux_lemma => kernel_rfl
          refine OPC (RUNV (.binOp .eql 23 (.tmp 45) (.tmp 50) 23) 51 4 ?_ (Nat.le_of_ble_eq_true rfl) (.bool ((q.kind == q.kind) && ((q.id == q.id) && ((q.cabin == 0) && ((q.from' == 0) && ((q.size == 0) && ((q.tier == 0) && true))))))) (runs_eql (xs := [vi q.kind, vi q.id, vi q.cabin, vi q.from', vi q.size, vi q.tier]) (ys := [vi q.kind, vi q.id, vi 0, vi 0, vi 0, vi 0]) (r := (q.kind == q.kind) && ((q.id == q.id) && ((q.cabin == 0) && ((q.from' == 0) && ((q.size == 0) && ((q.tier == 0) && true)))))) ?_ ?_ ?_) ?_)
          · as_aux_lemma => kernel_rfl
          · as_aux_lemma => kernel_rfl
          · as_aux_lemma => kernel_rfl
          · as_aux_lemma => kernel_rfl
          refine RUN0 2 [] [(2, B ((q.kind == q.kind) && ((q.id == q.id) && ((q.cabin == 0) && ((q.from' == 0) && ((q.size == 0) && ((q.tier == 0) && true)))))))] ?_ rfl ?_
          · as_aux_lemma => kernel_rfl
          refine ENDOPS (NEXT (RET (OUTR (PASS trivial (FIN (.bool ((q.kind == q.kind) && ((q.id == q.id) && ((q.cabin == 0) && ((q.from' == 0) && ((q.size == 0) && ((q.tier == 0) && true))))))) ?_ () ?_ [] ?_)))))
          · as_aux_lemma => kernel_rfl
          · simp [RV, reqOk, reqEq, *]
          · rfl
        · -- usedB q.id = false
          have h8 := bh8
          refine RUN0 9 [] [(2, B false)] ?_ rfl ?_
          · as_aux_lemma => kernel_rfl
          refine ENDOPS (NEXT (RET (OUTR (PASS trivial (FIN (.bool false) ?_ () ?_ [] ?_)))))
          · as_aux_lemma => kernel_rfl
          · simp [RV, reqOk, reqEq, *]
          · rfl
      · exact Bool.noConfusion (bh6.symm.trans bh7)
    · -- q.kind == 2 = false
      have h6 := bh6
      have h6 := ne_of_beq_false h6
      refine SEQ (REGION [0, 1] rfl (RUN0 2 [] [(1, .p 0 0), (3, .v (.func (.func 38) #[] #[])), (5, I q.kind), (35, B (q.kind == 4))] ?_ rfl ?_))
      · as_aux_lemma => kernel_rfl
      refine ENDOPS (NEXT (IF (q.kind == 4) ?_ (fun bh9 => ?_) (fun bh9 => ?_)))
      · as_aux_lemma => kernel_rfl
      · -- q.kind == 4 = true
        have h9 := bh9
        have h9 := eq_of_beq h9
        refine SKIP (NEXT (IF (q.kind == 4) ?_ (fun bh10 => ?_) (fun bh10 => ?_)))
        · as_aux_lemma => kernel_rfl
        · -- q.kind == 4 = true
          have h10 := bh10
          have h10 := eq_of_beq h10
          refine SEQ (REGION [0, 1, 2, 3, 4, 5, 6, 7, 8, 9, 10, 11, 12, 13] rfl (RUN0 3 [3, 4, 5, 6, 7, 8, 9, 10, 11, 12, 13] [(1, .p 0 0), (40, .v (.func (.func 38) #[] #[])), (42, I q.id)] ?_ rfl ?_))
          · as_aux_lemma => kernel_rfl
          refine OPC (CALL 38 #[vi q.id] (some 43) ?_ [] [] _ rfl (RV (.bool (usedB q.id))) (fun w hw => iReqOk1_c w q.id) (by rintro _ ⟨⟩; exact Nat.le_of_ble_eq_true rfl) ?_)
          · as_aux_lemma => kernel_rfl
          rintro ⟨⟩
          refine RUN0 1 [5, 6, 7, 8, 9, 10, 11, 12, 13] [(1, .p 0 0), (44, B (usedB q.id))] ?_ rfl ?_
          · as_aux_lemma => kernel_rfl
          refine SPLIT (d := 44) (usedB q.id) ?_ (fun bh11 => ?_) (fun bh11 => ?_)
          · as_aux_lemma => kernel_rfl
          · -- usedB q.id = true
            have h11 := bh11
            refine RUN0 6 [11, 12, 13] [(44, B true), (45, .v (.agg #[vi q.kind, vi q.id, vi q.cabin, vi q.from', vi q.size, vi q.tier])), (50, .v (.agg #[vi q.kind, vi q.id, vi 0, vi 0, vi 0, vi 0]))] ?_ rfl ?_
            · as_aux_lemma => kernel_rfl
            refine OPC (RUNV (.binOp .eql 23 (.tmp 45) (.tmp 50) 23) 51 4 ?_ (Nat.le_of_ble_eq_true rfl) (.bool ((q.kind == q.kind) && ((q.id == q.id) && ((q.cabin == 0) && ((q.from' == 0) && ((q.size == 0) && ((q.tier == 0) && true))))))) (runs_eql (xs := [vi q.kind, vi q.id, vi q.cabin, vi q.from', vi q.size, vi q.tier]) (ys := [vi q.kind, vi q.id, vi 0, vi 0, vi 0, vi 0]) (r := (q.kind == q.kind) && ((q.id == q.id) && ((q.cabin == 0) && ((q.from' == 0) && ((q.size == 0) && ((q.tier == 0) && true)))))) ?_ ?_ ?_) ?_)
            · as_aux_lemma => kernel_rfl
            · as_aux_lemma => kernel_rfl
            · as_aux_lemma => kernel_rfl
            · as_aux_lemma => kernel_rfl
            refine RUN0 2 [] [(2, B ((q.kind == q.kind) && ((q.id == q.id) && ((q.cabin == 0) && ((q.from' == 0) && ((q.size == 0) && ((q.tier == 0) && true)))))))] ?_ rfl ?_
            · as_aux_lemma => kernel_rfl
            refine ENDOPS (NEXT (RET (OUTR (PASS trivial (FIN (.bool ((q.kind == q.kind) && ((q.id == q.id) && ((q.cabin == 0) && ((q.from' == 0) && ((q.size == 0) && ((q.tier == 0) && true))))))) ?_ () ?_ [] ?_)))))
            · as_aux_lemma => kernel_rfl
            · simp [RV, reqOk, reqEq, *]
            · rfl
          · -- usedB q.id = false
            have h11 := bh11
            refine RUN0 9 [] [(2, B false)] ?_ rfl ?_
            · as_aux_lemma => kernel_rfl
            refine ENDOPS (NEXT (RET (OUTR (PASS trivial (FIN (.bool false) ?_ () ?_ [] ?_)))))
            · as_aux_lemma => kernel_rfl
            · simp [RV, reqOk, reqEq, *]
            · rfl
        · exact Bool.noConfusion (bh9.symm.trans bh10)
      · -- q.kind == 4 = false
        have h9 := bh9
        have h9 := ne_of_beq_false h9
        refine SEQ (REGION [0, 1] rfl (RUN0 2 [] [(1, .p 0 0), (3, .v (.func (.func 38) #[] #[])), (5, I q.kind), (35, B (q.kind == 5))] ?_ rfl ?_))
        · as_aux_lemma => kernel_rfl
        refine ENDOPS (NEXT (IF (q.kind == 5) ?_ (fun bh12 => ?_) (fun bh12 => ?_)))
        · as_aux_lemma => kernel_rfl
        · -- q.kind == 5 = true
          have h12 := bh12
          have h12 := eq_of_beq h12
          refine SKIP (NEXT (IF (q.kind == 5) ?_ (fun bh13 => ?_) (fun bh13 => ?_)))
          · as_aux_lemma => kernel_rfl
          · -- q.kind == 5 = true
            have h13 := bh13
            have h13 := eq_of_beq h13
            refine SEQ (REGION [0, 1, 2, 3, 4, 5, 6, 7, 8, 9, 10, 11, 12, 13] rfl (RUN0 3 [3, 4, 5, 6, 7, 8, 9, 10, 11, 12, 13] [(1, .p 0 0), (40, .v (.func (.func 38) #[] #[])), (42, I q.id)] ?_ rfl ?_))
            · as_aux_lemma => kernel_rfl
            refine OPC (CALL 38 #[vi q.id] (some 43) ?_ [] [] _ rfl (RV (.bool (usedB q.id))) (fun w hw => iReqOk1_c w q.id) (by rintro _ ⟨⟩; exact Nat.le_of_ble_eq_true rfl) ?_)
            · as_aux_lemma => kernel_rfl
            rintro ⟨⟩
            refine RUN0 1 [5, 6, 7, 8, 9, 10, 11, 12, 13] [(1, .p 0 0), (44, B (usedB q.id))] ?_ rfl ?_
            · as_aux_lemma => kernel_rfl
            refine SPLIT (d := 44) (usedB q.id) ?_ (fun bh14 => ?_) (fun bh14 => ?_)
            · as_aux_lemma => kernel_rfl
            · -- usedB q.id = true
              have h14 := bh14
              refine RUN0 6 [11, 12, 13] [(44, B true), (45, .v (.agg #[vi q.kind, vi q.id, vi q.cabin, vi q.from', vi q.size, vi q.tier])), (50, .v (.agg #[vi q.kind, vi q.id, vi 0, vi 0, vi 0, vi 0]))] ?_ rfl ?_
              · as_aux_lemma => kernel_rfl
              refine OPC (RUNV (.binOp .eql 23 (.tmp 45) (.tmp 50) 23) 51 4 ?_ (Nat.le_of_ble_eq_true rfl) (.bool ((q.kind == q.kind) && ((q.id == q.id) && ((q.cabin == 0) && ((q.from' == 0) && ((q.size == 0) && ((q.tier == 0) && true))))))) (runs_eql (xs := [vi q.kind, vi q.id, vi q.cabin, vi q.from', vi q.size, vi q.tier]) (ys := [vi q.kind, vi q.id, vi 0, vi 0, vi 0, vi 0]) (r := (q.kind == q.kind) && ((q.id == q.id) && ((q.cabin == 0) && ((q.from' == 0) && ((q.size == 0) && ((q.tier == 0) && true)))))) ?_ ?_ ?_) ?_)
              · as_aux_lemma => kernel_rfl
              · as_aux_lemma => kernel_rfl
              · as_aux_lemma => kernel_rfl
              · as_aux_lemma => kernel_rfl
              refine RUN0 2 [] [(2, B ((q.kind == q.kind) && ((q.id == q.id) && ((q.cabin == 0) && ((q.from' == 0) && ((q.size == 0) && ((q.tier == 0) && true)))))))] ?_ rfl ?_
              · as_aux_lemma => kernel_rfl
              refine ENDOPS (NEXT (RET (OUTR (PASS trivial (FIN (.bool ((q.kind == q.kind) && ((q.id == q.id) && ((q.cabin == 0) && ((q.from' == 0) && ((q.size == 0) && ((q.tier == 0) && true))))))) ?_ () ?_ [] ?_)))))
              · as_aux_lemma => kernel_rfl
              · simp [RV, reqOk, reqEq, *]
              · rfl
            · -- usedB q.id = false
              have h14 := bh14
              refine RUN0 9 [] [(2, B false)] ?_ rfl ?_
              · as_aux_lemma => kernel_rfl
              refine ENDOPS (NEXT (RET (OUTR (PASS trivial (FIN (.bool false) ?_ () ?_ [] ?_)))))
              · as_aux_lemma => kernel_rfl
              · simp [RV, reqOk, reqEq, *]
              · rfl
          · exact Bool.noConfusion (bh12.symm.trans bh13)
        · -- q.kind == 5 = false
          have h12 := bh12
          have h12 := ne_of_beq_false h12
          refine REGION [0, 1] rfl (RUN0 2 [] [(1, .p 0 0), (3, .v (.func (.func 38) #[] #[])), (5, I q.kind), (35, B (q.kind == 7))] ?_ rfl ?_)
          · as_aux_lemma => kernel_rfl
          refine ENDOPS (NEXT (IF (q.kind == 7) ?_ (fun bh15 => ?_) (fun bh15 => ?_)))
          · as_aux_lemma => kernel_rfl
          · -- q.kind == 7 = true
            have h15 := bh15
            have h15 := eq_of_beq h15
            refine SEQ (REGION [0, 1, 2, 3, 4, 5, 6, 7, 8, 9, 10, 11, 12, 13] rfl (RUN0 3 [3, 4, 5, 6, 7, 8, 9, 10, 11, 12, 13] [(1, .p 0 0), (40, .v (.func (.func 38) #[] #[])), (42, I q.id)] ?_ rfl ?_))
            · as_aux_lemma => kernel_rfl
            refine OPC (CALL 38 #[vi q.id] (some 43) ?_ [] [] _ rfl (RV (.bool (usedB q.id))) (fun w hw => iReqOk1_c w q.id) (by rintro _ ⟨⟩; exact Nat.le_of_ble_eq_true rfl) ?_)
            · as_aux_lemma => kernel_rfl
            rintro ⟨⟩
            refine RUN0 1 [5, 6, 7, 8, 9, 10, 11, 12, 13] [(1, .p 0 0), (44, B (usedB q.id))] ?_ rfl ?_
            · as_aux_lemma => kernel_rfl
            refine SPLIT (d := 44) (usedB q.id) ?_ (fun bh16 => ?_) (fun bh16 => ?_)
            · as_aux_lemma => kernel_rfl
            · -- usedB q.id = true
              have h16 := bh16
              refine RUN0 6 [11, 12, 13] [(44, B true), (45, .v (.agg #[vi q.kind, vi q.id, vi q.cabin, vi q.from', vi q.size, vi q.tier])), (50, .v (.agg #[vi q.kind, vi q.id, vi 0, vi 0, vi 0, vi 0]))] ?_ rfl ?_
              · as_aux_lemma => kernel_rfl
              refine OPC (RUNV (.binOp .eql 23 (.tmp 45) (.tmp 50) 23) 51 4 ?_ (Nat.le_of_ble_eq_true rfl) (.bool ((q.kind == q.kind) && ((q.id == q.id) && ((q.cabin == 0) && ((q.from' == 0) && ((q.size == 0) && ((q.tier == 0) && true))))))) (runs_eql (xs := [vi q.kind, vi q.id, vi q.cabin, vi q.from', vi q.size, vi q.tier]) (ys := [vi q.kind, vi q.id, vi 0, vi 0, vi 0, vi 0]) (r := (q.kind == q.kind) && ((q.id == q.id) && ((q.cabin == 0) && ((q.from' == 0) && ((q.size == 0) && ((q.tier == 0) && true)))))) ?_ ?_ ?_) ?_)
              · as_aux_lemma => kernel_rfl
              · as_aux_lemma => kernel_rfl
              · as_aux_lemma => kernel_rfl
              · as_aux_lemma => kernel_rfl
              refine RUN0 2 [] [(2, B ((q.kind == q.kind) && ((q.id == q.id) && ((q.cabin == 0) && ((q.from' == 0) && ((q.size == 0) && ((q.tier == 0) && true)))))))] ?_ rfl ?_
              · as_aux_lemma => kernel_rfl
              refine ENDOPS (NEXT (RET (OUTR (PASS trivial (FIN (.bool ((q.kind == q.kind) && ((q.id == q.id) && ((q.cabin == 0) && ((q.from' == 0) && ((q.size == 0) && ((q.tier == 0) && true))))))) ?_ () ?_ [] ?_)))))
              · as_aux_lemma => kernel_rfl
              · simp [RV, reqOk, reqEq, *]
              · rfl
            · -- usedB q.id = false
              have h16 := bh16
              refine RUN0 9 [] [(2, B false)] ?_ rfl ?_
              · as_aux_lemma => kernel_rfl
              refine ENDOPS (NEXT (RET (OUTR (PASS trivial (FIN (.bool false) ?_ () ?_ [] ?_)))))
              · as_aux_lemma => kernel_rfl
              · simp [RV, reqOk, reqEq, *]
              · rfl
          · -- q.kind == 7 = false
            have h15 := bh15
            have h15 := ne_of_beq_false h15
            refine SEQ (REGION [0, 1] rfl (RUN0 2 [] [(1, .p 0 0), (3, .v (.func (.func 38) #[] #[])), (5, I q.kind), (53, B (q.kind == 3))] ?_ rfl ?_))
            · as_aux_lemma => kernel_rfl
            refine ENDOPS (NEXT (IF (q.kind == 3) ?_ (fun bh17 => ?_) (fun bh17 => ?_)))
            · as_aux_lemma => kernel_rfl
            · -- q.kind == 3 = true
              have h17 := bh17
              have h17 := eq_of_beq h17
              refine SEQ (REGION [0, 1, 2, 3, 4, 5, 6, 7, 8, 9, 10, 11, 12, 13, 14, 15, 16, 17, 18, 19, 20, 21] rfl (RUN0 3 [3, 4, 5, 6, 7, 8, 9, 10, 11, 12, 13, 14, 15, 16, 17, 18, 19, 20, 21] [(1, .p 0 0), (3, .v (.func (.func 38) #[] #[])), (55, .v (.func (.func 38) #[] #[])), (57, I q.cabin)] ?_ rfl ?_))
              · as_aux_lemma => kernel_rfl
              refine OPC (CALL 38 #[vi q.cabin] (some 58) ?_ [] [] _ rfl (RV (.bool (usedB q.cabin))) (fun w hw => iReqOk1_c w q.cabin) (by rintro _ ⟨⟩; exact Nat.le_of_ble_eq_true rfl) ?_)
              · as_aux_lemma => kernel_rfl
              rintro ⟨⟩
              refine RUN0 1 [5, 6, 7, 8, 9, 10, 11, 12, 13, 14, 15, 16, 17, 18, 19, 20, 21] [(1, .p 0 0), (3, .v (.func (.func 38) #[] #[])), (59, B (usedB q.cabin))] ?_ rfl ?_
              · as_aux_lemma => kernel_rfl
              refine SPLIT (d := 59) (usedB q.cabin) ?_ (fun bh18 => ?_) (fun bh18 => ?_)
              · as_aux_lemma => kernel_rfl
              · -- usedB q.cabin = true
                have h18 := bh18
                refine RUN0 3 [8, 9, 10, 11, 12, 13, 14, 15, 16, 17, 18, 19, 20, 21] [(1, .p 0 0), (59, B true), (60, .v (.func (.func 38) #[] #[])), (62, I q.size)] ?_ rfl ?_
                · as_aux_lemma => kernel_rfl
                refine OPC (CALL 38 #[vi q.size] (some 63) ?_ [] [] _ rfl (RV (.bool (usedB q.size))) (fun w hw => iReqOk1_c w q.size) (by rintro _ ⟨⟩; exact Nat.le_of_ble_eq_true rfl) ?_)
                · as_aux_lemma => kernel_rfl
                rintro ⟨⟩
                refine RUN0 2 [11, 12, 13, 14, 15, 16, 17, 18, 19, 20, 21] [(1, .p 0 0), (65, B (usedB q.size))] ?_ rfl ?_
                · as_aux_lemma => kernel_rfl
                refine SPLIT (d := 65) (usedB q.size) ?_ (fun bh19 => ?_) (fun bh19 => ?_)
                · as_aux_lemma => kernel_rfl
                · -- usedB q.size = true
                  have h19 := bh19
                  refine RUN0 8 [19, 20, 21] [(65, B true), (66, .v (.agg #[vi q.kind, vi q.id, vi q.cabin, vi q.from', vi q.size, vi q.tier])), (73, .v (.agg #[vi q.kind, vi 0, vi q.cabin, vi 0, vi q.size, vi 0]))] ?_ rfl ?_
                  · as_aux_lemma => kernel_rfl
                  refine OPC (RUNV (.binOp .eql 23 (.tmp 66) (.tmp 73) 23) 74 4 ?_ (Nat.le_of_ble_eq_true rfl) (.bool ((q.kind == q.kind) && ((q.id == 0) && ((q.cabin == q.cabin) && ((q.from' == 0) && ((q.size == q.size) && ((q.tier == 0) && true))))))) (runs_eql (xs := [vi q.kind, vi q.id, vi q.cabin, vi q.from', vi q.size, vi q.tier]) (ys := [vi q.kind, vi 0, vi q.cabin, vi 0, vi q.size, vi 0]) (r := (q.kind == q.kind) && ((q.id == 0) && ((q.cabin == q.cabin) && ((q.from' == 0) && ((q.size == q.size) && ((q.tier == 0) && true)))))) ?_ ?_ ?_) ?_)
                  · as_aux_lemma => kernel_rfl
                  · as_aux_lemma => kernel_rfl
                  · as_aux_lemma => kernel_rfl
                  · as_aux_lemma => kernel_rfl
                  refine RUN0 2 [] [(2, B ((q.kind == q.kind) && ((q.id == 0) && ((q.cabin == q.cabin) && ((q.from' == 0) && ((q.size == q.size) && ((q.tier == 0) && true)))))))] ?_ rfl ?_
                  · as_aux_lemma => kernel_rfl
                  refine ENDOPS (NEXT (RET (OUTR (PASS trivial (FIN (.bool ((q.kind == q.kind) && ((q.id == 0) && ((q.cabin == q.cabin) && ((q.from' == 0) && ((q.size == q.size) && ((q.tier == 0) && true))))))) ?_ () ?_ [] ?_)))))
                  · as_aux_lemma => kernel_rfl
                  · simp [RV, reqOk, reqEq, *]
                  · rfl
                · -- usedB q.size = false
                  have h19 := bh19
                  refine RUN0 11 [] [(2, B false)] ?_ rfl ?_
                  · as_aux_lemma => kernel_rfl
                  refine ENDOPS (NEXT (RET (OUTR (PASS trivial (FIN (.bool false) ?_ () ?_ [] ?_)))))
                  · as_aux_lemma => kernel_rfl
                  · simp [RV, reqOk, reqEq, *]
                  · rfl
              · -- usedB q.cabin = false
                have h18 := bh18
                refine RUN0 17 [] [(2, B false)] ?_ rfl ?_
                · as_aux_lemma => kernel_rfl
                refine ENDOPS (NEXT (RET (OUTR (PASS trivial (FIN (.bool false) ?_ () ?_ [] ?_)))))
                · as_aux_lemma => kernel_rfl
                · simp [RV, reqOk, reqEq, *]
                · rfl
            · -- q.kind == 3 = false
              have h17 := bh17
              have h17 := ne_of_beq_false h17
              refine SEQ (REGION [0, 1] rfl (RUN0 2 [] [(1, .p 0 0), (76, B (q.kind == 6))] ?_ rfl ?_))
              · as_aux_lemma => kernel_rfl
              refine ENDOPS (NEXT (IF (q.kind == 6) ?_ (fun bh20 => ?_) (fun bh20 => ?_)))
              · as_aux_lemma => kernel_rfl
              · -- q.kind == 6 = true
                have h20 := bh20
                have h20 := eq_of_beq h20
                refine SEQ (REGION [0, 1, 2, 3] rfl (RUN0 2 [2, 3] [(78, .v (.agg #[vi q.kind, vi q.id, vi q.cabin, vi q.from', vi q.size, vi q.tier])), (79, .v (.agg #[vi 6, vi 0, vi 0, vi 0, vi 0, vi 0]))] ?_ rfl ?_))
                · as_aux_lemma => kernel_rfl
                refine OPC (RUNV (.binOp .eql 23 (.tmp 78) (.tmp 79) 23) 80 4 ?_ (Nat.le_of_ble_eq_true rfl) (.bool ((q.kind == 6) && ((q.id == 0) && ((q.cabin == 0) && ((q.from' == 0) && ((q.size == 0) && ((q.tier == 0) && true))))))) (runs_eql (xs := [vi q.kind, vi q.id, vi q.cabin, vi q.from', vi q.size, vi q.tier]) (ys := [vi 6, vi 0, vi 0, vi 0, vi 0, vi 0]) (r := (q.kind == 6) && ((q.id == 0) && ((q.cabin == 0) && ((q.from' == 0) && ((q.size == 0) && ((q.tier == 0) && true)))))) ?_ ?_ ?_) ?_)
                · as_aux_lemma => kernel_rfl
                · as_aux_lemma => kernel_rfl
                · as_aux_lemma => kernel_rfl
                · as_aux_lemma => kernel_rfl
                refine RUN0 1 [] [(2, B ((q.kind == 6) && ((q.id == 0) && ((q.cabin == 0) && ((q.from' == 0) && ((q.size == 0) && ((q.tier == 0) && true)))))))] ?_ rfl ?_
                · as_aux_lemma => kernel_rfl
                refine ENDOPS (NEXT (RET (OUTR (PASS trivial (FIN (.bool ((q.kind == 6) && ((q.id == 0) && ((q.cabin == 0) && ((q.from' == 0) && ((q.size == 0) && ((q.tier == 0) && true))))))) ?_ () ?_ [] ?_)))))
                · as_aux_lemma => kernel_rfl
                · simp [RV, reqOk, reqEq, *]
                · rfl
              · -- q.kind == 6 = false
                have h20 := bh20
                have h20 := ne_of_beq_false h20
                refine SKIP (OUTN (NEXT (SEQ (REGION [0] rfl (RUN0 1 [] [(2, B false)] ?_ rfl ?_)))))
                · as_aux_lemma => kernel_rfl
                refine ENDOPS (NEXT (RET (FIN (.bool false) ?_ () ?_ [] ?_)))
                · as_aux_lemma => kernel_rfl
                · simp [RV, reqOk, reqEq, *]
                · rfl

theorem eqReq_c (W : World) (a : Req) (b : Req) : Spec Tryd.prog W [] 19 #[.agg #[vi a.kind, vi a.id, vi a.cabin, vi a.from', vi a.size, vi a.tier], .agg #[vi b.kind, vi b.id, vi b.cabin, vi b.from', vi b.size, vi b.tier]] (RV (.bool (eqReq a b))) := by
  refine ENTER0 (N := 35) (vs := [.agg #[vi a.kind, vi a.id, vi a.cabin, vi a.from', vi a.size, vi a.tier], .agg #[vi b.kind, vi b.id, vi b.cabin, vi b.from', vi b.size, vi b.tier]]) Tryd.func19 rfl rfl (Nat.le_of_ble_eq_true rfl) ?_
  refine SEQ (REGION [0, 1, 2] rfl (RUN 3 [] [(2, .p 0 0), (3, .p 1 0)] [(23, [vi a.kind, vi a.id, vi a.cabin, vi a.from', vi a.size, vi a.tier]), (23, [vi b.kind, vi b.id, vi b.cabin, vi b.from', vi b.size, vi b.tier])] ?_ rfl ?_))
  · as_aux_lemma => kernel_rfl
  refine ENDOPS (NEXT (SEQ (SEQ (REGION [0, 1, 2, 3, 4] rfl (RUN0 5 [] [(2, .p 0 0), (3, .p 1 0), (9, B (a.kind != b.kind))] ?_ rfl ?_)))))
  · as_aux_lemma => kernel_rfl
  refine ENDOPS (NEXT (IF (a.kind != b.kind) ?_ (fun bh1 => ?_) (fun bh1 => ?_)))
  · as_aux_lemma => kernel_rfl
  · -- a.kind != b.kind = true
    have h1 := bh1
    have h1 := bne_iff_ne.1 h1
    refine SEQ (REGION [0] rfl (RUN0 1 [] [(4, B false)] ?_ rfl ?_))
    · as_aux_lemma => kernel_rfl
    refine ENDOPS (NEXT (RET (PASS trivial (FIN (.bool false) ?_ () ?_ [] ?_))))
    · as_aux_lemma => kernel_rfl
    · simp [RV, eqReq, *]
    · rfl
  · -- a.kind != b.kind = false
    have h1 := bh1
    have h1 := bneF h1
    refine SKIP (NEXT (SEQ (SEQ (REGION [0, 1, 2, 3, 4] rfl (RUN0 5 [] [(2, .p 0 0), (3, .p 1 0), (14, B (a.id != b.id))] ?_ rfl ?_)))))
    · as_aux_lemma => kernel_rfl
    refine ENDOPS (NEXT (IF (a.id != b.id) ?_ (fun bh2 => ?_) (fun bh2 => ?_)))
    · as_aux_lemma => kernel_rfl
    · -- a.id != b.id = true
      have h2 := bh2
      have h2 := bne_iff_ne.1 h2
      refine SEQ (REGION [0] rfl (RUN0 1 [] [(4, B false)] ?_ rfl ?_))
      · as_aux_lemma => kernel_rfl
      refine ENDOPS (NEXT (RET (PASS trivial (FIN (.bool false) ?_ () ?_ [] ?_))))
      · as_aux_lemma => kernel_rfl
      · simp [RV, eqReq, *]
      · rfl
    · -- a.id != b.id = false
      have h2 := bh2
      have h2 := bneF h2
      refine SKIP (NEXT (SEQ (SEQ (REGION [0, 1, 2, 3, 4] rfl (RUN0 5 [] [(2, .p 0 0), (3, .p 1 0), (19, B (a.cabin != b.cabin))] ?_ rfl ?_)))))
      · as_aux_lemma => kernel_rfl
      refine ENDOPS (NEXT (IF (a.cabin != b.cabin) ?_ (fun bh3 => ?_) (fun bh3 => ?_)))
      · as_aux_lemma => kernel_rfl
      · -- a.cabin != b.cabin = true
        have h3 := bh3
        have h3 := bne_iff_ne.1 h3
        refine SEQ (REGION [0] rfl (RUN0 1 [] [(4, B false)] ?_ rfl ?_))
        · as_aux_lemma => kernel_rfl
        refine ENDOPS (NEXT (RET (PASS trivial (FIN (.bool false) ?_ () ?_ [] ?_))))
        · as_aux_lemma => kernel_rfl
        · simp [RV, eqReq, *]
        · rfl
      · -- a.cabin != b.cabin = false
        have h3 := bh3
        have h3 := bneF h3
        refine SKIP (NEXT (SEQ (SEQ (REGION [0, 1, 2, 3, 4] rfl (RUN0 5 [] [(2, .p 0 0), (3, .p 1 0), (24, B (a.from' != b.from'))] ?_ rfl ?_)))))
        · as_aux_lemma => kernel_rfl
        refine ENDOPS (NEXT (IF (a.from' != b.from') ?_ (fun bh4 => ?_) (fun bh4 => ?_)))
        · as_aux_lemma => kernel_rfl
        · -- a.from' != b.from' = true
          have h4 := bh4
          have h4 := bne_iff_ne.1 h4
          refine SEQ (REGION [0] rfl (RUN0 1 [] [(4, B false)] ?_ rfl ?_))
          · as_aux_lemma => kernel_rfl
          refine ENDOPS (NEXT (RET (PASS trivial (FIN (.bool false) ?_ () ?_ [] ?_))))
          · as_aux_lemma => kernel_rfl
          · simp [RV, eqReq, *]
          · rfl
        · -- a.from' != b.from' = false
          have h4 := bh4
          have h4 := bneF h4
          refine SKIP (NEXT (SEQ (SEQ (REGION [0, 1, 2, 3, 4] rfl (RUN0 5 [] [(2, .p 0 0), (3, .p 1 0), (29, B (a.size != b.size))] ?_ rfl ?_)))))
          · as_aux_lemma => kernel_rfl
          refine ENDOPS (NEXT (IF (a.size != b.size) ?_ (fun bh5 => ?_) (fun bh5 => ?_)))
          · as_aux_lemma => kernel_rfl
          · -- a.size != b.size = true
            have h5 := bh5
            have h5 := bne_iff_ne.1 h5
            refine SEQ (REGION [0] rfl (RUN0 1 [] [(4, B false)] ?_ rfl ?_))
            · as_aux_lemma => kernel_rfl
            refine ENDOPS (NEXT (RET (PASS trivial (FIN (.bool false) ?_ () ?_ [] ?_))))
            · as_aux_lemma => kernel_rfl
            · simp [RV, eqReq, *]
            · rfl
          · -- a.size != b.size = false
            have h5 := bh5
            have h5 := bneF h5
            refine SKIP (NEXT (SEQ (SEQ (REGION [0, 1, 2, 3, 4] rfl (RUN0 5 [] [(34, B (a.tier != b.tier))] ?_ rfl ?_)))))
            · as_aux_lemma => kernel_rfl
            refine ENDOPS (NEXT (IF (a.tier != b.tier) ?_ (fun bh6 => ?_) (fun bh6 => ?_)))
            · as_aux_lemma => kernel_rfl
            · -- a.tier != b.tier = true
              have h6 := bh6
              have h6 := bne_iff_ne.1 h6
              refine SEQ (REGION [0] rfl (RUN0 1 [] [(4, B false)] ?_ rfl ?_))
              · as_aux_lemma => kernel_rfl
              refine ENDOPS (NEXT (RET (PASS trivial (FIN (.bool false) ?_ () ?_ [] ?_))))
              · as_aux_lemma => kernel_rfl
              · simp [RV, eqReq, *]
              · rfl
            · -- a.tier != b.tier = false
              have h6 := bh6
              have h6 := bneF h6
              refine SKIP (NEXT (SEQ (REGION [0] rfl (RUN0 1 [] [(4, B true)] ?_ rfl ?_))))
              · as_aux_lemma => kernel_rfl
              refine ENDOPS (NEXT (RET (FIN (.bool true) ?_ () ?_ [] ?_)))
              · as_aux_lemma => kernel_rfl
              · simp [RV, eqReq, *]
              · rfl

theorem l29Word_c (W : World) (kind : Int) (hk : 0 ≤ kind ∧ kind < 8) : Spec Tryd.prog W [] 23 #[vi kind] (RV (.string (bs (reqWord kind)))) := by
  refine ENTER0 (N := 7) (vs := [vi kind]) Tryd.func23 rfl rfl (Nat.le_of_ble_eq_true rfl) ?_
  refine SEQ (REGION [0] rfl (RUN0 1 [] [(0, I kind)] ?_ rfl ?_))
  · as_aux_lemma => kernel_rfl
  refine ENDOPS (NEXT (SEQ (REGION [0, 1, 2, 3, 4] rfl (OPC (BUILDS 32 8 #[(0, .const (.string (bs ([])))), (1, .const (.string (bs ([106, 111, 105, 110])))), (2, .const (.string (bs ([99, 97, 110, 99, 101, 108])))), (3, .const (.string (bs ([102, 114, 101, 101])))), (4, .const (.string (bs ([97, 99, 99, 101, 112, 116])))), (5, .const (.string (bs ([100, 101, 99, 108, 105, 110, 101])))), (6, .const (.string (bs ([116, 105, 99, 107])))), (7, .const (.string (bs ([112, 105, 99, 107]))))] 3 32 ?_ (Nat.le_of_ble_eq_true rfl) 9 [.string (bs ([])), .string (bs ([106, 111, 105, 110])), .string (bs ([99, 97, 110, 99, 101, 108])), .string (bs ([102, 114, 101, 101])), .string (bs ([97, 99, 99, 101, 112, 116])), .string (bs ([100, 101, 99, 108, 105, 110, 101])), .string (bs ([116, 105, 99, 107])), .string (bs ([112, 105, 99, 107]))] ?_ strL ([[], [106, 111, 105, 110], [99, 97, 110, 99, 101, 108], [102, 114, 101, 101], [97, 99, 99, 101, 112, 116], [100, 101, 99, 108, 105, 110, 101], [116, 105, 99, 107], [112, 105, 99, 107]] : List (List UInt8)) rfl (by simp only [maxLen]; omega) [] [] _ rfl (flatRep rfl) (fun a1 ha2 => ?_))))))
  · as_aux_lemma => kernel_rfl
  · as_aux_lemma => kernel_rfl
  refine RUN0 1 [2, 3, 4] [(3, .v (.slice a1 8 8)), (4, I kind)] ?_ rfl ?_
  · as_aux_lemma => kernel_rfl
  refine FACT (8 = ([[], [106, 111, 105, 110], [99, 97, 110, 99, 101, 108], [102, 114, 101, 101], [97, 99, 99, 101, 112, 116], [100, 101, 99, 108, 105, 110, 101], [116, 105, 99, 107], [112, 105, 99, 107]] : List (List UInt8)).length) (fun w hw => (SlO.lenE (hw.own 0 rfl)).1) (fun hln3 => ?_)
  obtain ⟨x4, hx5⟩ : ∃ y, ([[], [106, 111, 105, 110], [99, 97, 110, 99, 101, 108], [102, 114, 101, 101], [97, 99, 99, 101, 112, 116], [100, 101, 99, 108, 105, 110, 101], [116, 105, 99, 107], [112, 105, 99, 107]] : List (List UInt8))[kind.toNat]? = some y := ⟨_, List.getElem?_eq_getElem (by omega)⟩
  refine OPC (INDEX 32 (.tmp 3) (.tmp 4) 5 0 ?_ (Nat.le_of_ble_eq_true rfl) a1 8 8 .i64 kind 9 1 ?_ ?_ ?_ ?_ ha2 (by omega) (by omega) ?_)
  · as_aux_lemma => kernel_rfl
  · as_aux_lemma => kernel_rfl
  · as_aux_lemma => kernel_rfl
  · as_aux_lemma => kernel_rfl
  · as_aux_lemma => kernel_rfl
  refine OPC (LOADE 9 (.tmp 5) 6 9 ?_ (Nat.le_of_ble_eq_true rfl) a1 (kind.toNat * 1) 0 [.string (bs x4)] (.string (bs x4)) ?_ (fun w hw => (Rd.own (hw.own 0 rfl)).flat hx5) ?_ ?_)
  · as_aux_lemma => kernel_rfl
  · as_aux_lemma => kernel_rfl
  · as_aux_lemma => kernel_rfl
  refine RUN0 1 [] [(2, .v (.string (bs x4)))] ?_ rfl ?_
  · as_aux_lemma => kernel_rfl
  refine ENDOPS (NEXT (RET (FIN (.string (bs x4)) ?_ () ?_ [] ?_)))
  · as_aux_lemma => kernel_rfl
  · (rw [reqWord_of hx5]; rfl)
  · rfl

theorem sReqLine_c (W : World) (q : Req) : Spec Tryd.prog W [] 24 #[.agg #[vi q.kind, vi q.id, vi q.cabin, vi q.from', vi q.size, vi q.tier]] (RV (.string (bs (reqLine q)))) := by
  refine ENTER0 (N := 67) (vs := [.agg #[vi q.kind, vi q.id, vi q.cabin, vi q.from', vi q.size, vi q.tier]]) Tryd.func24 rfl rfl (Nat.le_of_ble_eq_true rfl) ?_
  refine SEQ (REGION [0, 1] rfl (RUN 2 [] [(1, .p 0 0)] [(23, [vi q.kind, vi q.id, vi q.cabin, vi q.from', vi q.size, vi q.tier])] ?_ rfl ?_))
  · as_aux_lemma => kernel_rfl
  refine ENDOPS (NEXT (SEQ (SEQ (REGION [0, 1, 2] rfl (RUN0 1 [1, 2] [(1, .p 0 0), (5, .v (.agg #[vi q.kind, vi q.id, vi q.cabin, vi q.from', vi q.size, vi q.tier]))] ?_ rfl ?_)))))
  · as_aux_lemma => kernel_rfl
  refine OPC (CALL 34 #[.agg #[vi q.kind, vi q.id, vi q.cabin, vi q.from', vi q.size, vi q.tier]] (some 6) ?_ [] [] _ rfl (RV (.bool (reqOk q))) (fun w hw => sReqOk_c w q) (by rintro _ ⟨⟩; exact Nat.le_of_ble_eq_true rfl) ?_)
  · as_aux_lemma => kernel_rfl
  rintro ⟨⟩
  refine RUN0 1 [] [(1, .p 0 0), (7, B (!(reqOk q)))] ?_ rfl ?_
  · as_aux_lemma => kernel_rfl
  refine ENDOPS (NEXT (IF (!(reqOk q)) ?_ (fun bh1 => ?_) (fun bh1 => ?_)))
  · as_aux_lemma => kernel_rfl
  · -- !(reqOk q) = true
    have h1 := bh1
    have h1 := notT h1
    refine SEQ (REGION [0] rfl (RUN0 1 [] [(2, .v (.string (bs ([]))))] ?_ rfl ?_))
    · as_aux_lemma => kernel_rfl
    refine ENDOPS (NEXT (RET (PASS trivial (FIN (.string (bs ([]))) ?_ () ?_ [] ?_))))
    · as_aux_lemma => kernel_rfl
    · (first | (simp [RV, reqLine, reqWord, reqWords, *]; done) | (have h7 : q.kind = 7 := (by omega); simp [RV, reqLine, reqWord, reqWords, *]; done) | (have h9 : ¬ q.from' = -1 := (by omega); simp [RV, reqLine, reqWord, reqWords, *]; done) | (have h9 : q.from' = -1 := (by omega); simp [RV, reqLine, reqWord, reqWords, *]))
    · rfl
  · -- !(reqOk q) = false
    have h1 := bh1
    have h1 := notF h1
    have hq := reqOk_rng h1
    refine SKIP (NEXT (SEQ (REGION [0, 1, 2, 3] rfl (RUN0 2 [2, 3] [(1, .p 0 0), (9, I q.kind)] ?_ rfl ?_))))
    · as_aux_lemma => kernel_rfl
    refine OPC (CALL 23 #[vi q.kind] (some 10) ?_ [] [] _ rfl (RV (.string (bs (reqWord q.kind)))) (fun w hw => l29Word_c w q.kind (by omega)) (by rintro _ ⟨⟩; exact Nat.le_of_ble_eq_true rfl) ?_)
    · as_aux_lemma => kernel_rfl
    rintro ⟨⟩
    have hr2 := reqWord_len q.kind
    refine RUN0 1 [] [(1, .p 0 0), (3, .v (.string (bs (reqWord q.kind))))] ?_ rfl ?_
    · as_aux_lemma => kernel_rfl
    refine ENDOPS (NEXT (SEQ (SEQ (REGION [0, 1] rfl (RUN0 2 [] [(1, .p 0 0), (3, .v (.string (bs (reqWord q.kind)))), (12, I q.kind)] ?_ rfl ?_)))))
    · as_aux_lemma => kernel_rfl
    refine ENDOPS (NEXT (BLOCK (SEQ (REGION [0, 1] rfl (RUN0 2 [] [(1, .p 0 0), (3, .v (.string (bs (reqWord q.kind)))), (12, I q.kind), (13, B (q.kind == 1))] ?_ rfl ?_)))))
    · as_aux_lemma => kernel_rfl
    refine ENDOPS (NEXT (IF (q.kind == 1) ?_ (fun bh3 => ?_) (fun bh3 => ?_)))
    · as_aux_lemma => kernel_rfl
    · -- q.kind == 1 = true
      have h3 := bh3
      have h3 := eq_of_beq h3
      refine SEQ (REGION [0] rfl (RUN0 1 [] [(1, .p 0 0), (3, .v (.string (bs (reqWord q.kind)))), (4, .v (.string (bs ([45]))))] ?_ rfl ?_))
      · as_aux_lemma => kernel_rfl
      refine ENDOPS (NEXT (SEQ (SEQ (REGION [0, 1, 2] rfl (RUN0 3 [] [(1, .p 0 0), (3, .v (.string (bs (reqWord q.kind)))), (4, .v (.string (bs ([45])))), (17, B (decide (q.from' ≥ 0)))] ?_ rfl ?_)))))
      · as_aux_lemma => kernel_rfl
      refine ENDOPS (NEXT (IF (decide (q.from' ≥ 0)) ?_ (fun bh4 => ?_) (fun bh4 => ?_)))
      · as_aux_lemma => kernel_rfl
      · -- decide (q.from' ≥ 0) = true
        have h4 := bh4
        have h4 := of_decide_eq_true h4
        refine REGION [0, 1, 2, 3] rfl (RUN0 2 [2, 3] [(1, .p 0 0), (3, .v (.string (bs (reqWord q.kind)))), (19, I q.from')] ?_ rfl ?_)
        · as_aux_lemma => kernel_rfl
        refine OPC (CALL 27 #[vi q.from'] (some 20) ?_ [] [] _ rfl (RV (.string (bs (Lib.itoa q.from')))) (fun w hw => sDigits_c w q.from' (by first | assumption | exact wr_range _ | (unfold i64R at *; omega) | (simp only [i64R] at *; omega))) (by rintro _ ⟨⟩; exact Nat.le_of_ble_eq_true rfl) ?_)
        · as_aux_lemma => kernel_rfl
        rintro ⟨⟩
        have hr5 := itoa_len (n := q.from') (by first | assumption | exact wr_range _ | (unfold i64R at *; omega) | (simp only [i64R] at *; omega))
        refine RUN0 1 [] [(1, .p 0 0), (3, .v (.string (bs (reqWord q.kind)))), (4, .v (.string (bs (Lib.itoa q.from'))))] ?_ rfl ?_
        · as_aux_lemma => kernel_rfl
        refine ENDOPS (NEXT (SEQ (REGIONQ ?_ ?_ ?_)))
        · as_aux_lemma => kernel_rfl
        · as_aux_lemma => kernel_rfl
        refine QRUN 1 0 1 [(1, .p 0 0), (4, .v (.string (bs (Lib.itoa q.from')))), (21, .v (.string (bs (reqWord q.kind))))] ?_ rfl ?_
        · as_aux_lemma => kernel_rfl
        refine QRUNV (.binOp .add 9 (.tmp 21) (.const (.string (bs ([32])))) 9) 22 9 ?_ (Nat.le_of_ble_eq_true rfl) (.string (bs ((reqWord q.kind) ++ ([32])))) (runs_scat (a := reqWord q.kind) (b := [32]) ?_ ?_ (by first | omega | (simp only [List.length_append, List.length_cons, List.length_nil, List.length_take, List.length_drop] at *; omega))) ?_
        · as_aux_lemma => kernel_rfl
        · as_aux_lemma => kernel_rfl
        · as_aux_lemma => kernel_rfl
        refine QRUN 2 2 4 [(1, .p 0 0), (4, .v (.string (bs (Lib.itoa q.from')))), (22, .v (.string (bs ((reqWord q.kind) ++ ([32]))))), (24, I q.id)] ?_ rfl ?_
        · as_aux_lemma => kernel_rfl
        have hr6 := itoa_len (n := q.id) (by first | assumption | exact wr_range _ | (unfold i64R at *; omega) | (simp only [i64R] at *; omega))
        refine QCALL 27 #[vi q.id] (some 25) ?_ (.string (bs (Lib.itoa q.id))) (fun w hw => sDigits_c w q.id (by first | assumption | exact wr_range _ | (unfold i64R at *; omega) | (simp only [i64R] at *; omega))) (by rintro _ ⟨⟩; exact Nat.le_of_ble_eq_true rfl) ?_
        · as_aux_lemma => kernel_rfl
        refine QRUNV (.binOp .add 9 (.tmp 22) (.tmp 25) 9) 26 9 ?_ (Nat.le_of_ble_eq_true rfl) (.string (bs (((reqWord q.kind) ++ ([32])) ++ (Lib.itoa q.id)))) (runs_scat (a := (reqWord q.kind) ++ ([32])) (b := Lib.itoa q.id) ?_ ?_ (by first | omega | (simp only [List.length_append, List.length_cons, List.length_nil, List.length_take, List.length_drop] at *; omega))) ?_
        · as_aux_lemma => kernel_rfl
        · as_aux_lemma => kernel_rfl
        · as_aux_lemma => kernel_rfl
        refine QRUNV (.binOp .add 9 (.tmp 26) (.const (.string (bs ([32])))) 9) 27 9 ?_ (Nat.le_of_ble_eq_true rfl) (.string (bs ((((reqWord q.kind) ++ ([32])) ++ (Lib.itoa q.id)) ++ ([32])))) (runs_scat (a := ((reqWord q.kind) ++ ([32])) ++ (Lib.itoa q.id)) (b := [32]) ?_ ?_ (by first | omega | (simp only [List.length_append, List.length_cons, List.length_nil, List.length_take, List.length_drop] at *; omega))) ?_
        · as_aux_lemma => kernel_rfl
        · as_aux_lemma => kernel_rfl
        · as_aux_lemma => kernel_rfl
        refine QRUN 2 7 9 [(1, .p 0 0), (4, .v (.string (bs (Lib.itoa q.from')))), (27, .v (.string (bs ((((reqWord q.kind) ++ ([32])) ++ (Lib.itoa q.id)) ++ ([32]))))), (29, I q.cabin)] ?_ rfl ?_
        · as_aux_lemma => kernel_rfl
        have hr7 := itoa_len (n := q.cabin) (by first | assumption | exact wr_range _ | (unfold i64R at *; omega) | (simp only [i64R] at *; omega))
        refine QCALL 27 #[vi q.cabin] (some 30) ?_ (.string (bs (Lib.itoa q.cabin))) (fun w hw => sDigits_c w q.cabin (by first | assumption | exact wr_range _ | (unfold i64R at *; omega) | (simp only [i64R] at *; omega))) (by rintro _ ⟨⟩; exact Nat.le_of_ble_eq_true rfl) ?_
        · as_aux_lemma => kernel_rfl
        refine QRUNV (.binOp .add 9 (.tmp 27) (.tmp 30) 9) 31 9 ?_ (Nat.le_of_ble_eq_true rfl) (.string (bs (((((reqWord q.kind) ++ ([32])) ++ (Lib.itoa q.id)) ++ ([32])) ++ (Lib.itoa q.cabin)))) (runs_scat (a := (((reqWord q.kind) ++ ([32])) ++ (Lib.itoa q.id)) ++ ([32])) (b := Lib.itoa q.cabin) ?_ ?_ (by first | omega | (simp only [List.length_append, List.length_cons, List.length_nil, List.length_take, List.length_drop] at *; omega))) ?_
        · as_aux_lemma => kernel_rfl
        · as_aux_lemma => kernel_rfl
        · as_aux_lemma => kernel_rfl
        refine QRUNV (.binOp .add 9 (.tmp 31) (.const (.string (bs ([32])))) 9) 32 9 ?_ (Nat.le_of_ble_eq_true rfl) (.string (bs ((((((reqWord q.kind) ++ ([32])) ++ (Lib.itoa q.id)) ++ ([32])) ++ (Lib.itoa q.cabin)) ++ ([32])))) (runs_scat (a := ((((reqWord q.kind) ++ ([32])) ++ (Lib.itoa q.id)) ++ ([32])) ++ (Lib.itoa q.cabin)) (b := [32]) ?_ ?_ (by first | omega | (simp only [List.length_append, List.length_cons, List.length_nil, List.length_take, List.length_drop] at *; omega))) ?_
        · as_aux_lemma => kernel_rfl
        · as_aux_lemma => kernel_rfl
        · as_aux_lemma => kernel_rfl
        refine QRUN 1 12 13 [(1, .p 0 0), (32, .v (.string (bs ((((((reqWord q.kind) ++ ([32])) ++ (Lib.itoa q.id)) ++ ([32])) ++ (Lib.itoa q.cabin)) ++ ([32]))))), (33, .v (.string (bs (Lib.itoa q.from'))))] ?_ rfl ?_
        · as_aux_lemma => kernel_rfl
        refine QRUNV (.binOp .add 9 (.tmp 32) (.tmp 33) 9) 34 9 ?_ (Nat.le_of_ble_eq_true rfl) (.string (bs (((((((reqWord q.kind) ++ ([32])) ++ (Lib.itoa q.id)) ++ ([32])) ++ (Lib.itoa q.cabin)) ++ ([32])) ++ (Lib.itoa q.from')))) (runs_scat (a := (((((reqWord q.kind) ++ ([32])) ++ (Lib.itoa q.id)) ++ ([32])) ++ (Lib.itoa q.cabin)) ++ ([32])) (b := Lib.itoa q.from') ?_ ?_ (by first | omega | (simp only [List.length_append, List.length_cons, List.length_nil, List.length_take, List.length_drop] at *; omega))) ?_
        · as_aux_lemma => kernel_rfl
        · as_aux_lemma => kernel_rfl
        · as_aux_lemma => kernel_rfl
        refine QRUNV (.binOp .add 9 (.tmp 34) (.const (.string (bs ([32])))) 9) 35 9 ?_ (Nat.le_of_ble_eq_true rfl) (.string (bs ((((((((reqWord q.kind) ++ ([32])) ++ (Lib.itoa q.id)) ++ ([32])) ++ (Lib.itoa q.cabin)) ++ ([32])) ++ (Lib.itoa q.from')) ++ ([32])))) (runs_scat (a := ((((((reqWord q.kind) ++ ([32])) ++ (Lib.itoa q.id)) ++ ([32])) ++ (Lib.itoa q.cabin)) ++ ([32])) ++ (Lib.itoa q.from')) (b := [32]) ?_ ?_ (by first | omega | (simp only [List.length_append, List.length_cons, List.length_nil, List.length_take, List.length_drop] at *; omega))) ?_
        · as_aux_lemma => kernel_rfl
        · as_aux_lemma => kernel_rfl
        · as_aux_lemma => kernel_rfl
        refine QRUN 2 15 17 [(1, .p 0 0), (35, .v (.string (bs ((((((((reqWord q.kind) ++ ([32])) ++ (Lib.itoa q.id)) ++ ([32])) ++ (Lib.itoa q.cabin)) ++ ([32])) ++ (Lib.itoa q.from')) ++ ([32]))))), (37, I q.size)] ?_ rfl ?_
        · as_aux_lemma => kernel_rfl
        have hr8 := itoa_len (n := q.size) (by first | assumption | exact wr_range _ | (unfold i64R at *; omega) | (simp only [i64R] at *; omega))
        refine QCALL 27 #[vi q.size] (some 38) ?_ (.string (bs (Lib.itoa q.size))) (fun w hw => sDigits_c w q.size (by first | assumption | exact wr_range _ | (unfold i64R at *; omega) | (simp only [i64R] at *; omega))) (by rintro _ ⟨⟩; exact Nat.le_of_ble_eq_true rfl) ?_
        · as_aux_lemma => kernel_rfl
        refine QRUNV (.binOp .add 9 (.tmp 35) (.tmp 38) 9) 39 9 ?_ (Nat.le_of_ble_eq_true rfl) (.string (bs (((((((((reqWord q.kind) ++ ([32])) ++ (Lib.itoa q.id)) ++ ([32])) ++ (Lib.itoa q.cabin)) ++ ([32])) ++ (Lib.itoa q.from')) ++ ([32])) ++ (Lib.itoa q.size)))) (runs_scat (a := (((((((reqWord q.kind) ++ ([32])) ++ (Lib.itoa q.id)) ++ ([32])) ++ (Lib.itoa q.cabin)) ++ ([32])) ++ (Lib.itoa q.from')) ++ ([32])) (b := Lib.itoa q.size) ?_ ?_ (by first | omega | (simp only [List.length_append, List.length_cons, List.length_nil, List.length_take, List.length_drop] at *; omega))) ?_
        · as_aux_lemma => kernel_rfl
        · as_aux_lemma => kernel_rfl
        · as_aux_lemma => kernel_rfl
        refine QRUNV (.binOp .add 9 (.tmp 39) (.const (.string (bs ([32])))) 9) 40 9 ?_ (Nat.le_of_ble_eq_true rfl) (.string (bs ((((((((((reqWord q.kind) ++ ([32])) ++ (Lib.itoa q.id)) ++ ([32])) ++ (Lib.itoa q.cabin)) ++ ([32])) ++ (Lib.itoa q.from')) ++ ([32])) ++ (Lib.itoa q.size)) ++ ([32])))) (runs_scat (a := ((((((((reqWord q.kind) ++ ([32])) ++ (Lib.itoa q.id)) ++ ([32])) ++ (Lib.itoa q.cabin)) ++ ([32])) ++ (Lib.itoa q.from')) ++ ([32])) ++ (Lib.itoa q.size)) (b := [32]) ?_ ?_ (by first | omega | (simp only [List.length_append, List.length_cons, List.length_nil, List.length_take, List.length_drop] at *; omega))) ?_
        · as_aux_lemma => kernel_rfl
        · as_aux_lemma => kernel_rfl
        · as_aux_lemma => kernel_rfl
        refine QRUN 2 20 22 [(40, .v (.string (bs ((((((((((reqWord q.kind) ++ ([32])) ++ (Lib.itoa q.id)) ++ ([32])) ++ (Lib.itoa q.cabin)) ++ ([32])) ++ (Lib.itoa q.from')) ++ ([32])) ++ (Lib.itoa q.size)) ++ ([32]))))), (42, I q.tier)] ?_ rfl ?_
        · as_aux_lemma => kernel_rfl
        have hr9 := itoa_len (n := q.tier) (by first | assumption | exact wr_range _ | (unfold i64R at *; omega) | (simp only [i64R] at *; omega))
        refine QCALL 27 #[vi q.tier] (some 43) ?_ (.string (bs (Lib.itoa q.tier))) (fun w hw => sDigits_c w q.tier (by first | assumption | exact wr_range _ | (unfold i64R at *; omega) | (simp only [i64R] at *; omega))) (by rintro _ ⟨⟩; exact Nat.le_of_ble_eq_true rfl) ?_
        · as_aux_lemma => kernel_rfl
        refine QRUNV (.binOp .add 9 (.tmp 40) (.tmp 43) 9) 44 9 ?_ (Nat.le_of_ble_eq_true rfl) (.string (bs (((((((((((reqWord q.kind) ++ ([32])) ++ (Lib.itoa q.id)) ++ ([32])) ++ (Lib.itoa q.cabin)) ++ ([32])) ++ (Lib.itoa q.from')) ++ ([32])) ++ (Lib.itoa q.size)) ++ ([32])) ++ (Lib.itoa q.tier)))) (runs_scat (a := (((((((((reqWord q.kind) ++ ([32])) ++ (Lib.itoa q.id)) ++ ([32])) ++ (Lib.itoa q.cabin)) ++ ([32])) ++ (Lib.itoa q.from')) ++ ([32])) ++ (Lib.itoa q.size)) ++ ([32])) (b := Lib.itoa q.tier) ?_ ?_ (by first | omega | (simp only [List.length_append, List.length_cons, List.length_nil, List.length_take, List.length_drop] at *; omega))) ?_
        · as_aux_lemma => kernel_rfl
        · as_aux_lemma => kernel_rfl
        · as_aux_lemma => kernel_rfl
        refine QRUN 1 24 25 [(2, .v (.string (bs (((((((((((reqWord q.kind) ++ ([32])) ++ (Lib.itoa q.id)) ++ ([32])) ++ (Lib.itoa q.cabin)) ++ ([32])) ++ (Lib.itoa q.from')) ++ ([32])) ++ (Lib.itoa q.size)) ++ ([32])) ++ (Lib.itoa q.tier)))))] ?_ rfl ?_
        · as_aux_lemma => kernel_rfl
        refine QEND rfl (NEXT (RET (OUTR (PASS trivial (FIN (.string (bs (((((((((((reqWord q.kind) ++ ([32])) ++ (Lib.itoa q.id)) ++ ([32])) ++ (Lib.itoa q.cabin)) ++ ([32])) ++ (Lib.itoa q.from')) ++ ([32])) ++ (Lib.itoa q.size)) ++ ([32])) ++ (Lib.itoa q.tier)))) ?_ () ?_ [] ?_)))))
        · as_aux_lemma => kernel_rfl
        · (first | (simp [RV, reqLine, reqWord, reqWords, *]; done) | (have h7 : q.kind = 7 := (by omega); simp [RV, reqLine, reqWord, reqWords, *]; done) | (have h9 : ¬ q.from' = -1 := (by omega); simp [RV, reqLine, reqWord, reqWords, *]; done) | (have h9 : q.from' = -1 := (by omega); simp [RV, reqLine, reqWord, reqWords, *]))
        · rfl
      · -- decide (q.from' ≥ 0) = false
        have h4 := bh4
        have h4 := of_decide_eq_false h4
        refine SKIP (NEXT (SEQ (REGIONQ ?_ ?_ ?_)))
        · as_aux_lemma => kernel_rfl
        · as_aux_lemma => kernel_rfl
        refine QRUN 1 0 1 [(1, .p 0 0), (4, .v (.string (bs ([45])))), (21, .v (.string (bs (reqWord q.kind))))] ?_ rfl ?_
        · as_aux_lemma => kernel_rfl
        refine QRUNV (.binOp .add 9 (.tmp 21) (.const (.string (bs ([32])))) 9) 22 9 ?_ (Nat.le_of_ble_eq_true rfl) (.string (bs ((reqWord q.kind) ++ ([32])))) (runs_scat (a := reqWord q.kind) (b := [32]) ?_ ?_ (by first | omega | (simp only [List.length_append, List.length_cons, List.length_nil, List.length_take, List.length_drop] at *; omega))) ?_
        · as_aux_lemma => kernel_rfl
        · as_aux_lemma => kernel_rfl
        · as_aux_lemma => kernel_rfl
        refine QRUN 2 2 4 [(1, .p 0 0), (4, .v (.string (bs ([45])))), (22, .v (.string (bs ((reqWord q.kind) ++ ([32]))))), (24, I q.id)] ?_ rfl ?_
        · as_aux_lemma => kernel_rfl
        have hr10 := itoa_len (n := q.id) (by first | assumption | exact wr_range _ | (unfold i64R at *; omega) | (simp only [i64R] at *; omega))
        refine QCALL 27 #[vi q.id] (some 25) ?_ (.string (bs (Lib.itoa q.id))) (fun w hw => sDigits_c w q.id (by first | assumption | exact wr_range _ | (unfold i64R at *; omega) | (simp only [i64R] at *; omega))) (by rintro _ ⟨⟩; exact Nat.le_of_ble_eq_true rfl) ?_
        · as_aux_lemma => kernel_rfl
        refine QRUNV (.binOp .add 9 (.tmp 22) (.tmp 25) 9) 26 9 ?_ (Nat.le_of_ble_eq_true rfl) (.string (bs (((reqWord q.kind) ++ ([32])) ++ (Lib.itoa q.id)))) (runs_scat (a := (reqWord q.kind) ++ ([32])) (b := Lib.itoa q.id) ?_ ?_ (by first | omega | (simp only [List.length_append, List.length_cons, List.length_nil, List.length_take, List.length_drop] at *; omega))) ?_
        · as_aux_lemma => kernel_rfl
        · as_aux_lemma => kernel_rfl
        · as_aux_lemma => kernel_rfl
        refine QRUNV (.binOp .add 9 (.tmp 26) (.const (.string (bs ([32])))) 9) 27 9 ?_ (Nat.le_of_ble_eq_true rfl) (.string (bs ((((reqWord q.kind) ++ ([32])) ++ (Lib.itoa q.id)) ++ ([32])))) (runs_scat (a := ((reqWord q.kind) ++ ([32])) ++ (Lib.itoa q.id)) (b := [32]) ?_ ?_ (by first | omega | (simp only [List.length_append, List.length_cons, List.length_nil, List.length_take, List.length_drop] at *; omega))) ?_
        · as_aux_lemma => kernel_rfl
        · as_aux_lemma => kernel_rfl
        · as_aux_lemma => kernel_rfl
        refine QRUN 2 7 9 [(1, .p 0 0), (4, .v (.string (bs ([45])))), (27, .v (.string (bs ((((reqWord q.kind) ++ ([32])) ++ (Lib.itoa q.id)) ++ ([32]))))), (29, I q.cabin)] ?_ rfl ?_
        · as_aux_lemma => kernel_rfl
        have hr11 := itoa_len (n := q.cabin) (by first | assumption | exact wr_range _ | (unfold i64R at *; omega) | (simp only [i64R] at *; omega))
        refine QCALL 27 #[vi q.cabin] (some 30) ?_ (.string (bs (Lib.itoa q.cabin))) (fun w hw => sDigits_c w q.cabin (by first | assumption | exact wr_range _ | (unfold i64R at *; omega) | (simp only [i64R] at *; omega))) (by rintro _ ⟨⟩; exact Nat.le_of_ble_eq_true rfl) ?_
        · as_aux_lemma => kernel_rfl
        refine QRUNV (.binOp .add 9 (.tmp 27) (.tmp 30) 9) 31 9 ?_ (Nat.le_of_ble_eq_true rfl) (.string (bs (((((reqWord q.kind) ++ ([32])) ++ (Lib.itoa q.id)) ++ ([32])) ++ (Lib.itoa q.cabin)))) (runs_scat (a := (((reqWord q.kind) ++ ([32])) ++ (Lib.itoa q.id)) ++ ([32])) (b := Lib.itoa q.cabin) ?_ ?_ (by first | omega | (simp only [List.length_append, List.length_cons, List.length_nil, List.length_take, List.length_drop] at *; omega))) ?_
        · as_aux_lemma => kernel_rfl
        · as_aux_lemma => kernel_rfl
        · as_aux_lemma => kernel_rfl
        refine QRUNV (.binOp .add 9 (.tmp 31) (.const (.string (bs ([32])))) 9) 32 9 ?_ (Nat.le_of_ble_eq_true rfl) (.string (bs ((((((reqWord q.kind) ++ ([32])) ++ (Lib.itoa q.id)) ++ ([32])) ++ (Lib.itoa q.cabin)) ++ ([32])))) (runs_scat (a := ((((reqWord q.kind) ++ ([32])) ++ (Lib.itoa q.id)) ++ ([32])) ++ (Lib.itoa q.cabin)) (b := [32]) ?_ ?_ (by first | omega | (simp only [List.length_append, List.length_cons, List.length_nil, List.length_take, List.length_drop] at *; omega))) ?_
        · as_aux_lemma => kernel_rfl
        · as_aux_lemma => kernel_rfl
        · as_aux_lemma => kernel_rfl
        refine QRUN 1 12 13 [(1, .p 0 0), (32, .v (.string (bs ((((((reqWord q.kind) ++ ([32])) ++ (Lib.itoa q.id)) ++ ([32])) ++ (Lib.itoa q.cabin)) ++ ([32]))))), (33, .v (.string (bs ([45]))))] ?_ rfl ?_
        · as_aux_lemma => kernel_rfl
        refine QRUNV (.binOp .add 9 (.tmp 32) (.tmp 33) 9) 34 9 ?_ (Nat.le_of_ble_eq_true rfl) (.string (bs (((((((reqWord q.kind) ++ ([32])) ++ (Lib.itoa q.id)) ++ ([32])) ++ (Lib.itoa q.cabin)) ++ ([32])) ++ ([45])))) (runs_scat (a := (((((reqWord q.kind) ++ ([32])) ++ (Lib.itoa q.id)) ++ ([32])) ++ (Lib.itoa q.cabin)) ++ ([32])) (b := [45]) ?_ ?_ (by first | omega | (simp only [List.length_append, List.length_cons, List.length_nil, List.length_take, List.length_drop] at *; omega))) ?_
        · as_aux_lemma => kernel_rfl
        · as_aux_lemma => kernel_rfl
        · as_aux_lemma => kernel_rfl
        refine QRUNV (.binOp .add 9 (.tmp 34) (.const (.string (bs ([32])))) 9) 35 9 ?_ (Nat.le_of_ble_eq_true rfl) (.string (bs ((((((((reqWord q.kind) ++ ([32])) ++ (Lib.itoa q.id)) ++ ([32])) ++ (Lib.itoa q.cabin)) ++ ([32])) ++ ([45])) ++ ([32])))) (runs_scat (a := ((((((reqWord q.kind) ++ ([32])) ++ (Lib.itoa q.id)) ++ ([32])) ++ (Lib.itoa q.cabin)) ++ ([32])) ++ ([45])) (b := [32]) ?_ ?_ (by first | omega | (simp only [List.length_append, List.length_cons, List.length_nil, List.length_take, List.length_drop] at *; omega))) ?_
        · as_aux_lemma => kernel_rfl
        · as_aux_lemma => kernel_rfl
        · as_aux_lemma => kernel_rfl
        refine QRUN 2 15 17 [(1, .p 0 0), (35, .v (.string (bs ((((((((reqWord q.kind) ++ ([32])) ++ (Lib.itoa q.id)) ++ ([32])) ++ (Lib.itoa q.cabin)) ++ ([32])) ++ ([45])) ++ ([32]))))), (37, I q.size)] ?_ rfl ?_
        · as_aux_lemma => kernel_rfl
        have hr12 := itoa_len (n := q.size) (by first | assumption | exact wr_range _ | (unfold i64R at *; omega) | (simp only [i64R] at *; omega))
        refine QCALL 27 #[vi q.size] (some 38) ?_ (.string (bs (Lib.itoa q.size))) (fun w hw => sDigits_c w q.size (by first | assumption | exact wr_range _ | (unfold i64R at *; omega) | (simp only [i64R] at *; omega))) (by rintro _ ⟨⟩; exact Nat.le_of_ble_eq_true rfl) ?_
        · as_aux_lemma => kernel_rfl
        refine QRUNV (.binOp .add 9 (.tmp 35) (.tmp 38) 9) 39 9 ?_ (Nat.le_of_ble_eq_true rfl) (.string (bs (((((((((reqWord q.kind) ++ ([32])) ++ (Lib.itoa q.id)) ++ ([32])) ++ (Lib.itoa q.cabin)) ++ ([32])) ++ ([45])) ++ ([32])) ++ (Lib.itoa q.size)))) (runs_scat (a := (((((((reqWord q.kind) ++ ([32])) ++ (Lib.itoa q.id)) ++ ([32])) ++ (Lib.itoa q.cabin)) ++ ([32])) ++ ([45])) ++ ([32])) (b := Lib.itoa q.size) ?_ ?_ (by first | omega | (simp only [List.length_append, List.length_cons, List.length_nil, List.length_take, List.length_drop] at *; omega))) ?_
        · as_aux_lemma => kernel_rfl
        · as_aux_lemma => kernel_rfl
        · as_aux_lemma => kernel_rfl
        refine QRUNV (.binOp .add 9 (.tmp 39) (.const (.string (bs ([32])))) 9) 40 9 ?_ (Nat.le_of_ble_eq_true rfl) (.string (bs ((((((((((reqWord q.kind) ++ ([32])) ++ (Lib.itoa q.id)) ++ ([32])) ++ (Lib.itoa q.cabin)) ++ ([32])) ++ ([45])) ++ ([32])) ++ (Lib.itoa q.size)) ++ ([32])))) (runs_scat (a := ((((((((reqWord q.kind) ++ ([32])) ++ (Lib.itoa q.id)) ++ ([32])) ++ (Lib.itoa q.cabin)) ++ ([32])) ++ ([45])) ++ ([32])) ++ (Lib.itoa q.size)) (b := [32]) ?_ ?_ (by first | omega | (simp only [List.length_append, List.length_cons, List.length_nil, List.length_take, List.length_drop] at *; omega))) ?_
        · as_aux_lemma => kernel_rfl
        · as_aux_lemma => kernel_rfl
        · as_aux_lemma => kernel_rfl
        refine QRUN 2 20 22 [(40, .v (.string (bs ((((((((((reqWord q.kind) ++ ([32])) ++ (Lib.itoa q.id)) ++ ([32])) ++ (Lib.itoa q.cabin)) ++ ([32])) ++ ([45])) ++ ([32])) ++ (Lib.itoa q.size)) ++ ([32]))))), (42, I q.tier)] ?_ rfl ?_
        · as_aux_lemma => kernel_rfl
        have hr13 := itoa_len (n := q.tier) (by first | assumption | exact wr_range _ | (unfold i64R at *; omega) | (simp only [i64R] at *; omega))
        refine QCALL 27 #[vi q.tier] (some 43) ?_ (.string (bs (Lib.itoa q.tier))) (fun w hw => sDigits_c w q.tier (by first | assumption | exact wr_range _ | (unfold i64R at *; omega) | (simp only [i64R] at *; omega))) (by rintro _ ⟨⟩; exact Nat.le_of_ble_eq_true rfl) ?_
        · as_aux_lemma => kernel_rfl
        refine QRUNV (.binOp .add 9 (.tmp 40) (.tmp 43) 9) 44 9 ?_ (Nat.le_of_ble_eq_true rfl) (.string (bs (((((((((((reqWord q.kind) ++ ([32])) ++ (Lib.itoa q.id)) ++ ([32])) ++ (Lib.itoa q.cabin)) ++ ([32])) ++ ([45])) ++ ([32])) ++ (Lib.itoa q.size)) ++ ([32])) ++ (Lib.itoa q.tier)))) (runs_scat (a := (((((((((reqWord q.kind) ++ ([32])) ++ (Lib.itoa q.id)) ++ ([32])) ++ (Lib.itoa q.cabin)) ++ ([32])) ++ ([45])) ++ ([32])) ++ (Lib.itoa q.size)) ++ ([32])) (b := Lib.itoa q.tier) ?_ ?_ (by first | omega | (simp only [List.length_append, List.length_cons, List.length_nil, List.length_take, List.length_drop] at *; omega))) ?_
        · as_aux_lemma => kernel_rfl
        · as_aux_lemma => kernel_rfl
        · as_aux_lemma => kernel_rfl
        refine QRUN 1 24 25 [(2, .v (.string (bs (((((((((((reqWord q.kind) ++ ([32])) ++ (Lib.itoa q.id)) ++ ([32])) ++ (Lib.itoa q.cabin)) ++ ([32])) ++ ([45])) ++ ([32])) ++ (Lib.itoa q.size)) ++ ([32])) ++ (Lib.itoa q.tier)))))] ?_ rfl ?_
        · as_aux_lemma => kernel_rfl
        refine QEND rfl (NEXT (RET (OUTR (PASS trivial (FIN (.string (bs (((((((((((reqWord q.kind) ++ ([32])) ++ (Lib.itoa q.id)) ++ ([32])) ++ (Lib.itoa q.cabin)) ++ ([32])) ++ ([45])) ++ ([32])) ++ (Lib.itoa q.size)) ++ ([32])) ++ (Lib.itoa q.tier)))) ?_ () ?_ [] ?_)))))
        · as_aux_lemma => kernel_rfl
        · (first | (simp [RV, reqLine, reqWord, reqWords, *]; done) | (have h7 : q.kind = 7 := (by omega); simp [RV, reqLine, reqWord, reqWords, *]; done) | (have h9 : ¬ q.from' = -1 := (by omega); simp [RV, reqLine, reqWord, reqWords, *]; done) | (have h9 : q.from' = -1 := (by omega); simp [RV, reqLine, reqWord, reqWords, *]))
        · rfl
    · -- q.kind == 1 = false
      have h3 := bh3
      have h3 := ne_of_beq_false h3
      refine SEQ (REGION [0, 1] rfl (RUN0 2 [] [(1, .p 0 0), (3, .v (.string (bs (reqWord q.kind)))), (12, I q.kind), (45, B (q.kind == 3))] ?_ rfl ?_))
      · as_aux_lemma => kernel_rfl
      refine ENDOPS (NEXT (IF (q.kind == 3) ?_ (fun bh14 => ?_) (fun bh14 => ?_)))
      · as_aux_lemma => kernel_rfl
      · -- q.kind == 3 = true
        have h14 := bh14
        have h14 := eq_of_beq h14
        refine SEQ (REGIONQ ?_ ?_ ?_)
        · as_aux_lemma => kernel_rfl
        · as_aux_lemma => kernel_rfl
        refine QRUN 1 0 1 [(1, .p 0 0), (47, .v (.string (bs (reqWord q.kind))))] ?_ rfl ?_
        · as_aux_lemma => kernel_rfl
        refine QRUNV (.binOp .add 9 (.tmp 47) (.const (.string (bs ([32])))) 9) 48 9 ?_ (Nat.le_of_ble_eq_true rfl) (.string (bs ((reqWord q.kind) ++ ([32])))) (runs_scat (a := reqWord q.kind) (b := [32]) ?_ ?_ (by first | omega | (simp only [List.length_append, List.length_cons, List.length_nil, List.length_take, List.length_drop] at *; omega))) ?_
        · as_aux_lemma => kernel_rfl
        · as_aux_lemma => kernel_rfl
        · as_aux_lemma => kernel_rfl
        refine QRUN 2 2 4 [(1, .p 0 0), (48, .v (.string (bs ((reqWord q.kind) ++ ([32]))))), (50, I q.cabin)] ?_ rfl ?_
        · as_aux_lemma => kernel_rfl
        have hr15 := itoa_len (n := q.cabin) (by first | assumption | exact wr_range _ | (unfold i64R at *; omega) | (simp only [i64R] at *; omega))
        refine QCALL 27 #[vi q.cabin] (some 51) ?_ (.string (bs (Lib.itoa q.cabin))) (fun w hw => sDigits_c w q.cabin (by first | assumption | exact wr_range _ | (unfold i64R at *; omega) | (simp only [i64R] at *; omega))) (by rintro _ ⟨⟩; exact Nat.le_of_ble_eq_true rfl) ?_
        · as_aux_lemma => kernel_rfl
        refine QRUNV (.binOp .add 9 (.tmp 48) (.tmp 51) 9) 52 9 ?_ (Nat.le_of_ble_eq_true rfl) (.string (bs (((reqWord q.kind) ++ ([32])) ++ (Lib.itoa q.cabin)))) (runs_scat (a := (reqWord q.kind) ++ ([32])) (b := Lib.itoa q.cabin) ?_ ?_ (by first | omega | (simp only [List.length_append, List.length_cons, List.length_nil, List.length_take, List.length_drop] at *; omega))) ?_
        · as_aux_lemma => kernel_rfl
        · as_aux_lemma => kernel_rfl
        · as_aux_lemma => kernel_rfl
        refine QRUNV (.binOp .add 9 (.tmp 52) (.const (.string (bs ([32])))) 9) 53 9 ?_ (Nat.le_of_ble_eq_true rfl) (.string (bs ((((reqWord q.kind) ++ ([32])) ++ (Lib.itoa q.cabin)) ++ ([32])))) (runs_scat (a := ((reqWord q.kind) ++ ([32])) ++ (Lib.itoa q.cabin)) (b := [32]) ?_ ?_ (by first | omega | (simp only [List.length_append, List.length_cons, List.length_nil, List.length_take, List.length_drop] at *; omega))) ?_
        · as_aux_lemma => kernel_rfl
        · as_aux_lemma => kernel_rfl
        · as_aux_lemma => kernel_rfl
        refine QRUN 2 7 9 [(53, .v (.string (bs ((((reqWord q.kind) ++ ([32])) ++ (Lib.itoa q.cabin)) ++ ([32]))))), (55, I q.size)] ?_ rfl ?_
        · as_aux_lemma => kernel_rfl
        have hr16 := itoa_len (n := q.size) (by first | assumption | exact wr_range _ | (unfold i64R at *; omega) | (simp only [i64R] at *; omega))
        refine QCALL 27 #[vi q.size] (some 56) ?_ (.string (bs (Lib.itoa q.size))) (fun w hw => sDigits_c w q.size (by first | assumption | exact wr_range _ | (unfold i64R at *; omega) | (simp only [i64R] at *; omega))) (by rintro _ ⟨⟩; exact Nat.le_of_ble_eq_true rfl) ?_
        · as_aux_lemma => kernel_rfl
        refine QRUNV (.binOp .add 9 (.tmp 53) (.tmp 56) 9) 57 9 ?_ (Nat.le_of_ble_eq_true rfl) (.string (bs (((((reqWord q.kind) ++ ([32])) ++ (Lib.itoa q.cabin)) ++ ([32])) ++ (Lib.itoa q.size)))) (runs_scat (a := (((reqWord q.kind) ++ ([32])) ++ (Lib.itoa q.cabin)) ++ ([32])) (b := Lib.itoa q.size) ?_ ?_ (by first | omega | (simp only [List.length_append, List.length_cons, List.length_nil, List.length_take, List.length_drop] at *; omega))) ?_
        · as_aux_lemma => kernel_rfl
        · as_aux_lemma => kernel_rfl
        · as_aux_lemma => kernel_rfl
        refine QRUN 1 11 12 [(2, .v (.string (bs (((((reqWord q.kind) ++ ([32])) ++ (Lib.itoa q.cabin)) ++ ([32])) ++ (Lib.itoa q.size)))))] ?_ rfl ?_
        · as_aux_lemma => kernel_rfl
        refine QEND rfl (NEXT (RET (OUTR (PASS trivial (FIN (.string (bs (((((reqWord q.kind) ++ ([32])) ++ (Lib.itoa q.cabin)) ++ ([32])) ++ (Lib.itoa q.size)))) ?_ () ?_ [] ?_)))))
        · as_aux_lemma => kernel_rfl
        · (first | (simp [RV, reqLine, reqWord, reqWords, *]; done) | (have h7 : q.kind = 7 := (by omega); simp [RV, reqLine, reqWord, reqWords, *]; done) | (have h9 : ¬ q.from' = -1 := (by omega); simp [RV, reqLine, reqWord, reqWords, *]; done) | (have h9 : q.from' = -1 := (by omega); simp [RV, reqLine, reqWord, reqWords, *]))
        · rfl
      · -- q.kind == 3 = false
        have h14 := bh14
        have h14 := ne_of_beq_false h14
        refine SEQ (REGION [0, 1] rfl (RUN0 2 [] [(1, .p 0 0), (3, .v (.string (bs (reqWord q.kind)))), (58, B (q.kind == 6))] ?_ rfl ?_))
        · as_aux_lemma => kernel_rfl
        refine ENDOPS (NEXT (IF (q.kind == 6) ?_ (fun bh17 => ?_) (fun bh17 => ?_)))
        · as_aux_lemma => kernel_rfl
        · -- q.kind == 6 = true
          have h17 := bh17
          have h17 := eq_of_beq h17
          refine SEQ (REGION [0, 1] rfl (RUN0 2 [] [(2, .v (.string (bs (reqWord q.kind))))] ?_ rfl ?_))
          · as_aux_lemma => kernel_rfl
          refine ENDOPS (NEXT (RET (OUTR (PASS trivial (FIN (.string (bs (reqWord q.kind))) ?_ () ?_ [] ?_)))))
          · as_aux_lemma => kernel_rfl
          · (first | (simp [RV, reqLine, reqWord, reqWords, *]; done) | (have h7 : q.kind = 7 := (by omega); simp [RV, reqLine, reqWord, reqWords, *]; done) | (have h9 : ¬ q.from' = -1 := (by omega); simp [RV, reqLine, reqWord, reqWords, *]; done) | (have h9 : q.from' = -1 := (by omega); simp [RV, reqLine, reqWord, reqWords, *]))
          · rfl
        · -- q.kind == 6 = false
          have h17 := bh17
          have h17 := ne_of_beq_false h17
          refine SKIP (OUTN (NEXT (SEQ (REGION [0, 1, 2, 3, 4, 5, 6] rfl (RUN0 1 [1, 2, 3, 4, 5, 6] [(1, .p 0 0), (61, .v (.string (bs (reqWord q.kind))))] ?_ rfl ?_)))))
          · as_aux_lemma => kernel_rfl
          refine OPC (RUNV (.binOp .add 9 (.tmp 61) (.const (.string (bs ([32])))) 9) 62 9 ?_ (Nat.le_of_ble_eq_true rfl) (.string (bs ((reqWord q.kind) ++ ([32])))) (runs_scat (a := reqWord q.kind) (b := [32]) ?_ ?_ (by first | omega | (simp only [List.length_append, List.length_cons, List.length_nil, List.length_take, List.length_drop] at *; omega))) ?_)
          · as_aux_lemma => kernel_rfl
          · as_aux_lemma => kernel_rfl
          · as_aux_lemma => kernel_rfl
          refine RUN0 2 [4, 5, 6] [(62, .v (.string (bs ((reqWord q.kind) ++ ([32]))))), (64, I q.id)] ?_ rfl ?_
          · as_aux_lemma => kernel_rfl
          refine OPC (CALL 27 #[vi q.id] (some 65) ?_ [] [] _ rfl (RV (.string (bs (Lib.itoa q.id)))) (fun w hw => sDigits_c w q.id (by first | assumption | exact wr_range _ | (unfold i64R at *; omega) | (simp only [i64R] at *; omega))) (by rintro _ ⟨⟩; exact Nat.le_of_ble_eq_true rfl) ?_)
          · as_aux_lemma => kernel_rfl
          rintro ⟨⟩
          have hr18 := itoa_len (n := q.id) (by first | assumption | exact wr_range _ | (unfold i64R at *; omega) | (simp only [i64R] at *; omega))
          refine OPC (RUNV (.binOp .add 9 (.tmp 62) (.tmp 65) 9) 66 9 ?_ (Nat.le_of_ble_eq_true rfl) (.string (bs (((reqWord q.kind) ++ ([32])) ++ (Lib.itoa q.id)))) (runs_scat (a := (reqWord q.kind) ++ ([32])) (b := Lib.itoa q.id) ?_ ?_ (by first | omega | (simp only [List.length_append, List.length_cons, List.length_nil, List.length_take, List.length_drop] at *; omega))) ?_)
          · as_aux_lemma => kernel_rfl
          · as_aux_lemma => kernel_rfl
          · as_aux_lemma => kernel_rfl
          refine RUN0 1 [] [(2, .v (.string (bs (((reqWord q.kind) ++ ([32])) ++ (Lib.itoa q.id)))))] ?_ rfl ?_
          · as_aux_lemma => kernel_rfl
          refine ENDOPS (NEXT (RET (FIN (.string (bs (((reqWord q.kind) ++ ([32])) ++ (Lib.itoa q.id)))) ?_ () ?_ [] ?_)))
          · as_aux_lemma => kernel_rfl
          · (first | (simp [RV, reqLine, reqWord, reqWords, *]; done) | (have h7 : q.kind = 7 := (by omega); simp [RV, reqLine, reqWord, reqWords, *]; done) | (have h9 : ¬ q.from' = -1 := (by omega); simp [RV, reqLine, reqWord, reqWords, *]; done) | (have h9 : q.from' = -1 := (by omega); simp [RV, reqLine, reqWord, reqWords, *]))
          · rfl

theorem itoa_c (W : World) (n : Int) (hn : i64R n) (htab : Tab Tryd.prog W) : Spec Tryd.prog W [] 39 #[vi n] (RV (.string (bs (Lib.itoa n)))) := Spec.grow (Tryd.strconv_Itoa n hn.1 hn.2 W htab)

theorem iDigits_c (W : World) (n : Int) (hn : i64R n) (htab : Tab Tryd.prog W) : Spec Tryd.prog W [] 31 #[vi n] (RV (.string (bs (Lib.itoa n)))) := by
  refine ENTER0 (N := 5) (vs := [vi n]) Tryd.func31 rfl rfl (Nat.le_of_ble_eq_true rfl) ?_
  refine SEQ (REGION [0] rfl (RUN0 1 [] [(0, I n)] ?_ rfl ?_))
  · as_aux_lemma => kernel_rfl
  refine ENDOPS (NEXT (SEQ (REGION [0, 1, 2] rfl (RUN0 1 [1, 2] [(3, I n)] ?_ rfl ?_))))
  · as_aux_lemma => kernel_rfl
  refine OPC (CALL 39 #[vi n] (some 4) ?_ [] [] _ rfl (RV (.string (bs (Lib.itoa n)))) (fun w hw => itoa_c w n (by first | assumption | exact wr_range _ | (unfold i64R at *; omega) | (simp only [i64R] at *; omega)) (htab.fr hw.fr)) (by rintro _ ⟨⟩; exact Nat.le_of_ble_eq_true rfl) ?_)
  · as_aux_lemma => kernel_rfl
  rintro ⟨⟩
  have hr1 := itoa_len (n := n) (by first | assumption | exact wr_range _ | (unfold i64R at *; omega) | (simp only [i64R] at *; omega))
  refine RUN0 1 [] [(2, .v (.string (bs (Lib.itoa n))))] ?_ rfl ?_
  · as_aux_lemma => kernel_rfl
  refine ENDOPS (NEXT (RET (FIN (.string (bs (Lib.itoa n))) ?_ () ?_ [] ?_)))
  · as_aux_lemma => kernel_rfl
  · simp [RV]
  · rfl

theorem iReqLine_c (W : World) (q : Req) (htab : Tab Tryd.prog W) : Spec Tryd.prog W [] 30 #[.agg #[vi q.kind, vi q.id, vi q.cabin, vi q.from', vi q.size, vi q.tier]] (RV (.string (bs (reqLine q)))) := by
  refine ENTER0 (N := 74) (vs := [.agg #[vi q.kind, vi q.id, vi q.cabin, vi q.from', vi q.size, vi q.tier]]) Tryd.func30 rfl rfl (Nat.le_of_ble_eq_true rfl) ?_
  refine SEQ (REGION [0, 1] rfl (RUN 2 [] [(1, .p 0 0)] [(23, [vi q.kind, vi q.id, vi q.cabin, vi q.from', vi q.size, vi q.tier])] ?_ rfl ?_))
  · as_aux_lemma => kernel_rfl
  refine ENDOPS (NEXT (SEQ (SEQ (REGION [0, 1, 2] rfl (RUN0 1 [1, 2] [(1, .p 0 0), (4, .v (.agg #[vi q.kind, vi q.id, vi q.cabin, vi q.from', vi q.size, vi q.tier]))] ?_ rfl ?_)))))
  · as_aux_lemma => kernel_rfl
  refine OPC (CALL 29 #[.agg #[vi q.kind, vi q.id, vi q.cabin, vi q.from', vi q.size, vi q.tier]] (some 5) ?_ [] [] _ rfl (RV (.bool (reqOk q))) (fun w hw => iReqOk_c w q) (by rintro _ ⟨⟩; exact Nat.le_of_ble_eq_true rfl) ?_)
  · as_aux_lemma => kernel_rfl
  rintro ⟨⟩
  refine RUN0 1 [] [(1, .p 0 0), (6, B (!(reqOk q)))] ?_ rfl ?_
  · as_aux_lemma => kernel_rfl
  refine ENDOPS (NEXT (IF (!(reqOk q)) ?_ (fun bh1 => ?_) (fun bh1 => ?_)))
  · as_aux_lemma => kernel_rfl
  · -- !(reqOk q) = true
    have h1 := bh1
    have h1 := notT h1
    refine SEQ (REGION [0] rfl (RUN0 1 [] [(2, .v (.string (bs ([]))))] ?_ rfl ?_))
    · as_aux_lemma => kernel_rfl
    refine ENDOPS (NEXT (RET (PASS trivial (FIN (.string (bs ([]))) ?_ () ?_ [] ?_))))
    · as_aux_lemma => kernel_rfl
    · (first | (simp [RV, reqLine, reqWord, reqWords, *]; done) | (have h7 : q.kind = 7 := (by omega); simp [RV, reqLine, reqWord, reqWords, *]; done) | (have h9 : ¬ q.from' = -1 := (by omega); simp [RV, reqLine, reqWord, reqWords, *]; done) | (have h9 : q.from' = -1 := (by omega); simp [RV, reqLine, reqWord, reqWords, *]))
    · rfl
  · -- !(reqOk q) = false
    have h1 := bh1
    have h1 := notF h1
    have hq := reqOk_rng h1
    refine SKIP (NEXT (SEQ (SEQ (REGION [0, 1] rfl (RUN0 2 [] [(1, .p 0 0), (8, I q.kind)] ?_ rfl ?_)))))
    · as_aux_lemma => kernel_rfl
    refine ENDOPS (NEXT (BLOCK (SEQ (REGION [0, 1] rfl (RUN0 2 [] [(1, .p 0 0), (8, I q.kind), (9, B (q.kind == 1))] ?_ rfl ?_)))))
    · as_aux_lemma => kernel_rfl
    refine ENDOPS (NEXT (IF (q.kind == 1) ?_ (fun bh2 => ?_) (fun bh2 => ?_)))
    · as_aux_lemma => kernel_rfl
    · -- q.kind == 1 = true
      have h2 := bh2
      have h2 := eq_of_beq h2
      refine SEQ (REGION [0] rfl (RUN0 1 [] [(1, .p 0 0), (3, .v (.string (bs ([45]))))] ?_ rfl ?_))
      · as_aux_lemma => kernel_rfl
      refine ENDOPS (NEXT (SEQ (SEQ (REGION [0, 1, 2] rfl (RUN0 3 [] [(1, .p 0 0), (3, .v (.string (bs ([45])))), (13, B (q.from' != (-1)))] ?_ rfl ?_)))))
      · as_aux_lemma => kernel_rfl
      refine ENDOPS (NEXT (IF (q.from' != (-1)) ?_ (fun bh3 => ?_) (fun bh3 => ?_)))
      · as_aux_lemma => kernel_rfl
      · -- q.from' != (-1) = true
        have h3 := bh3
        have h3 := bne_iff_ne.1 h3
        refine REGION [0, 1, 2, 3] rfl (RUN0 2 [2, 3] [(1, .p 0 0), (15, I q.from')] ?_ rfl ?_)
        · as_aux_lemma => kernel_rfl
        refine OPC (CALL 31 #[vi q.from'] (some 16) ?_ [] [] _ rfl (RV (.string (bs (Lib.itoa q.from')))) (fun w hw => iDigits_c w q.from' (by first | assumption | exact wr_range _ | (unfold i64R at *; omega) | (simp only [i64R] at *; omega)) (htab.fr hw.fr)) (by rintro _ ⟨⟩; exact Nat.le_of_ble_eq_true rfl) ?_)
        · as_aux_lemma => kernel_rfl
        rintro ⟨⟩
        have hr4 := itoa_len (n := q.from') (by first | assumption | exact wr_range _ | (unfold i64R at *; omega) | (simp only [i64R] at *; omega))
        refine RUN0 1 [] [(1, .p 0 0), (3, .v (.string (bs (Lib.itoa q.from'))))] ?_ rfl ?_
        · as_aux_lemma => kernel_rfl
        refine ENDOPS (NEXT (SEQ (REGIONQ ?_ ?_ ?_)))
        · as_aux_lemma => kernel_rfl
        · as_aux_lemma => kernel_rfl
        refine QRUN 2 0 2 [(1, .p 0 0), (3, .v (.string (bs (Lib.itoa q.from')))), (18, I q.id)] ?_ rfl ?_
        · as_aux_lemma => kernel_rfl
        have hr5 := itoa_len (n := q.id) (by first | assumption | exact wr_range _ | (unfold i64R at *; omega) | (simp only [i64R] at *; omega))
        refine QCALL 31 #[vi q.id] (some 19) ?_ (.string (bs (Lib.itoa q.id))) (fun w hw => iDigits_c w q.id (by first | assumption | exact wr_range _ | (unfold i64R at *; omega) | (simp only [i64R] at *; omega)) (htab.fr hw.fr)) (by rintro _ ⟨⟩; exact Nat.le_of_ble_eq_true rfl) ?_
        · as_aux_lemma => kernel_rfl
        refine QRUNV (.binOp .add 9 (.const (.string (bs ([106, 111, 105, 110, 32])))) (.tmp 19) 9) 20 9 ?_ (Nat.le_of_ble_eq_true rfl) (.string (bs (([106, 111, 105, 110, 32]) ++ (Lib.itoa q.id)))) (runs_scat (a := [106, 111, 105, 110, 32]) (b := Lib.itoa q.id) ?_ ?_ (by first | omega | (simp only [List.length_append, List.length_cons, List.length_nil, List.length_take, List.length_drop] at *; omega))) ?_
        · as_aux_lemma => kernel_rfl
        · as_aux_lemma => kernel_rfl
        · as_aux_lemma => kernel_rfl
        refine QRUNV (.binOp .add 9 (.tmp 20) (.const (.string (bs ([32])))) 9) 21 9 ?_ (Nat.le_of_ble_eq_true rfl) (.string (bs ((([106, 111, 105, 110, 32]) ++ (Lib.itoa q.id)) ++ ([32])))) (runs_scat (a := ([106, 111, 105, 110, 32]) ++ (Lib.itoa q.id)) (b := [32]) ?_ ?_ (by first | omega | (simp only [List.length_append, List.length_cons, List.length_nil, List.length_take, List.length_drop] at *; omega))) ?_
        · as_aux_lemma => kernel_rfl
        · as_aux_lemma => kernel_rfl
        · as_aux_lemma => kernel_rfl
        refine QRUN 2 5 7 [(1, .p 0 0), (3, .v (.string (bs (Lib.itoa q.from')))), (21, .v (.string (bs ((([106, 111, 105, 110, 32]) ++ (Lib.itoa q.id)) ++ ([32]))))), (23, I q.cabin)] ?_ rfl ?_
        · as_aux_lemma => kernel_rfl
        have hr6 := itoa_len (n := q.cabin) (by first | assumption | exact wr_range _ | (unfold i64R at *; omega) | (simp only [i64R] at *; omega))
        refine QCALL 31 #[vi q.cabin] (some 24) ?_ (.string (bs (Lib.itoa q.cabin))) (fun w hw => iDigits_c w q.cabin (by first | assumption | exact wr_range _ | (unfold i64R at *; omega) | (simp only [i64R] at *; omega)) (htab.fr hw.fr)) (by rintro _ ⟨⟩; exact Nat.le_of_ble_eq_true rfl) ?_
        · as_aux_lemma => kernel_rfl
        refine QRUNV (.binOp .add 9 (.tmp 21) (.tmp 24) 9) 25 9 ?_ (Nat.le_of_ble_eq_true rfl) (.string (bs (((([106, 111, 105, 110, 32]) ++ (Lib.itoa q.id)) ++ ([32])) ++ (Lib.itoa q.cabin)))) (runs_scat (a := (([106, 111, 105, 110, 32]) ++ (Lib.itoa q.id)) ++ ([32])) (b := Lib.itoa q.cabin) ?_ ?_ (by first | omega | (simp only [List.length_append, List.length_cons, List.length_nil, List.length_take, List.length_drop] at *; omega))) ?_
        · as_aux_lemma => kernel_rfl
        · as_aux_lemma => kernel_rfl
        · as_aux_lemma => kernel_rfl
        refine QRUNV (.binOp .add 9 (.tmp 25) (.const (.string (bs ([32])))) 9) 26 9 ?_ (Nat.le_of_ble_eq_true rfl) (.string (bs ((((([106, 111, 105, 110, 32]) ++ (Lib.itoa q.id)) ++ ([32])) ++ (Lib.itoa q.cabin)) ++ ([32])))) (runs_scat (a := ((([106, 111, 105, 110, 32]) ++ (Lib.itoa q.id)) ++ ([32])) ++ (Lib.itoa q.cabin)) (b := [32]) ?_ ?_ (by first | omega | (simp only [List.length_append, List.length_cons, List.length_nil, List.length_take, List.length_drop] at *; omega))) ?_
        · as_aux_lemma => kernel_rfl
        · as_aux_lemma => kernel_rfl
        · as_aux_lemma => kernel_rfl
        refine QRUN 1 10 11 [(1, .p 0 0), (26, .v (.string (bs ((((([106, 111, 105, 110, 32]) ++ (Lib.itoa q.id)) ++ ([32])) ++ (Lib.itoa q.cabin)) ++ ([32]))))), (27, .v (.string (bs (Lib.itoa q.from'))))] ?_ rfl ?_
        · as_aux_lemma => kernel_rfl
        refine QRUNV (.binOp .add 9 (.tmp 26) (.tmp 27) 9) 28 9 ?_ (Nat.le_of_ble_eq_true rfl) (.string (bs (((((([106, 111, 105, 110, 32]) ++ (Lib.itoa q.id)) ++ ([32])) ++ (Lib.itoa q.cabin)) ++ ([32])) ++ (Lib.itoa q.from')))) (runs_scat (a := (((([106, 111, 105, 110, 32]) ++ (Lib.itoa q.id)) ++ ([32])) ++ (Lib.itoa q.cabin)) ++ ([32])) (b := Lib.itoa q.from') ?_ ?_ (by first | omega | (simp only [List.length_append, List.length_cons, List.length_nil, List.length_take, List.length_drop] at *; omega))) ?_
        · as_aux_lemma => kernel_rfl
        · as_aux_lemma => kernel_rfl
        · as_aux_lemma => kernel_rfl
        refine QRUNV (.binOp .add 9 (.tmp 28) (.const (.string (bs ([32])))) 9) 29 9 ?_ (Nat.le_of_ble_eq_true rfl) (.string (bs ((((((([106, 111, 105, 110, 32]) ++ (Lib.itoa q.id)) ++ ([32])) ++ (Lib.itoa q.cabin)) ++ ([32])) ++ (Lib.itoa q.from')) ++ ([32])))) (runs_scat (a := ((((([106, 111, 105, 110, 32]) ++ (Lib.itoa q.id)) ++ ([32])) ++ (Lib.itoa q.cabin)) ++ ([32])) ++ (Lib.itoa q.from')) (b := [32]) ?_ ?_ (by first | omega | (simp only [List.length_append, List.length_cons, List.length_nil, List.length_take, List.length_drop] at *; omega))) ?_
        · as_aux_lemma => kernel_rfl
        · as_aux_lemma => kernel_rfl
        · as_aux_lemma => kernel_rfl
        refine QRUN 2 13 15 [(1, .p 0 0), (29, .v (.string (bs ((((((([106, 111, 105, 110, 32]) ++ (Lib.itoa q.id)) ++ ([32])) ++ (Lib.itoa q.cabin)) ++ ([32])) ++ (Lib.itoa q.from')) ++ ([32]))))), (31, I q.size)] ?_ rfl ?_
        · as_aux_lemma => kernel_rfl
        have hr7 := itoa_len (n := q.size) (by first | assumption | exact wr_range _ | (unfold i64R at *; omega) | (simp only [i64R] at *; omega))
        refine QCALL 31 #[vi q.size] (some 32) ?_ (.string (bs (Lib.itoa q.size))) (fun w hw => iDigits_c w q.size (by first | assumption | exact wr_range _ | (unfold i64R at *; omega) | (simp only [i64R] at *; omega)) (htab.fr hw.fr)) (by rintro _ ⟨⟩; exact Nat.le_of_ble_eq_true rfl) ?_
        · as_aux_lemma => kernel_rfl
        refine QRUNV (.binOp .add 9 (.tmp 29) (.tmp 32) 9) 33 9 ?_ (Nat.le_of_ble_eq_true rfl) (.string (bs (((((((([106, 111, 105, 110, 32]) ++ (Lib.itoa q.id)) ++ ([32])) ++ (Lib.itoa q.cabin)) ++ ([32])) ++ (Lib.itoa q.from')) ++ ([32])) ++ (Lib.itoa q.size)))) (runs_scat (a := (((((([106, 111, 105, 110, 32]) ++ (Lib.itoa q.id)) ++ ([32])) ++ (Lib.itoa q.cabin)) ++ ([32])) ++ (Lib.itoa q.from')) ++ ([32])) (b := Lib.itoa q.size) ?_ ?_ (by first | omega | (simp only [List.length_append, List.length_cons, List.length_nil, List.length_take, List.length_drop] at *; omega))) ?_
        · as_aux_lemma => kernel_rfl
        · as_aux_lemma => kernel_rfl
        · as_aux_lemma => kernel_rfl
        refine QRUNV (.binOp .add 9 (.tmp 33) (.const (.string (bs ([32])))) 9) 34 9 ?_ (Nat.le_of_ble_eq_true rfl) (.string (bs ((((((((([106, 111, 105, 110, 32]) ++ (Lib.itoa q.id)) ++ ([32])) ++ (Lib.itoa q.cabin)) ++ ([32])) ++ (Lib.itoa q.from')) ++ ([32])) ++ (Lib.itoa q.size)) ++ ([32])))) (runs_scat (a := ((((((([106, 111, 105, 110, 32]) ++ (Lib.itoa q.id)) ++ ([32])) ++ (Lib.itoa q.cabin)) ++ ([32])) ++ (Lib.itoa q.from')) ++ ([32])) ++ (Lib.itoa q.size)) (b := [32]) ?_ ?_ (by first | omega | (simp only [List.length_append, List.length_cons, List.length_nil, List.length_take, List.length_drop] at *; omega))) ?_
        · as_aux_lemma => kernel_rfl
        · as_aux_lemma => kernel_rfl
        · as_aux_lemma => kernel_rfl
        refine QRUN 2 18 20 [(34, .v (.string (bs ((((((((([106, 111, 105, 110, 32]) ++ (Lib.itoa q.id)) ++ ([32])) ++ (Lib.itoa q.cabin)) ++ ([32])) ++ (Lib.itoa q.from')) ++ ([32])) ++ (Lib.itoa q.size)) ++ ([32]))))), (36, I q.tier)] ?_ rfl ?_
        · as_aux_lemma => kernel_rfl
        have hr8 := itoa_len (n := q.tier) (by first | assumption | exact wr_range _ | (unfold i64R at *; omega) | (simp only [i64R] at *; omega))
        refine QCALL 31 #[vi q.tier] (some 37) ?_ (.string (bs (Lib.itoa q.tier))) (fun w hw => iDigits_c w q.tier (by first | assumption | exact wr_range _ | (unfold i64R at *; omega) | (simp only [i64R] at *; omega)) (htab.fr hw.fr)) (by rintro _ ⟨⟩; exact Nat.le_of_ble_eq_true rfl) ?_
        · as_aux_lemma => kernel_rfl
        refine QRUNV (.binOp .add 9 (.tmp 34) (.tmp 37) 9) 38 9 ?_ (Nat.le_of_ble_eq_true rfl) (.string (bs (((((((((([106, 111, 105, 110, 32]) ++ (Lib.itoa q.id)) ++ ([32])) ++ (Lib.itoa q.cabin)) ++ ([32])) ++ (Lib.itoa q.from')) ++ ([32])) ++ (Lib.itoa q.size)) ++ ([32])) ++ (Lib.itoa q.tier)))) (runs_scat (a := (((((((([106, 111, 105, 110, 32]) ++ (Lib.itoa q.id)) ++ ([32])) ++ (Lib.itoa q.cabin)) ++ ([32])) ++ (Lib.itoa q.from')) ++ ([32])) ++ (Lib.itoa q.size)) ++ ([32])) (b := Lib.itoa q.tier) ?_ ?_ (by first | omega | (simp only [List.length_append, List.length_cons, List.length_nil, List.length_take, List.length_drop] at *; omega))) ?_
        · as_aux_lemma => kernel_rfl
        · as_aux_lemma => kernel_rfl
        · as_aux_lemma => kernel_rfl
        refine QRUN 1 22 23 [(2, .v (.string (bs (((((((((([106, 111, 105, 110, 32]) ++ (Lib.itoa q.id)) ++ ([32])) ++ (Lib.itoa q.cabin)) ++ ([32])) ++ (Lib.itoa q.from')) ++ ([32])) ++ (Lib.itoa q.size)) ++ ([32])) ++ (Lib.itoa q.tier)))))] ?_ rfl ?_
        · as_aux_lemma => kernel_rfl
        refine QEND rfl (NEXT (RET (OUTR (PASS trivial (FIN (.string (bs (((((((((([106, 111, 105, 110, 32]) ++ (Lib.itoa q.id)) ++ ([32])) ++ (Lib.itoa q.cabin)) ++ ([32])) ++ (Lib.itoa q.from')) ++ ([32])) ++ (Lib.itoa q.size)) ++ ([32])) ++ (Lib.itoa q.tier)))) ?_ () ?_ [] ?_)))))
        · as_aux_lemma => kernel_rfl
        · (first | (simp [RV, reqLine, reqWord, reqWords, *]; done) | (have h7 : q.kind = 7 := (by omega); simp [RV, reqLine, reqWord, reqWords, *]; done) | (have h9 : ¬ q.from' = -1 := (by omega); simp [RV, reqLine, reqWord, reqWords, *]; done) | (have h9 : q.from' = -1 := (by omega); simp [RV, reqLine, reqWord, reqWords, *]))
        · rfl
      · -- q.from' != (-1) = false
        have h3 := bh3
        have h3 := bneF h3
        refine SKIP (NEXT (SEQ (REGIONQ ?_ ?_ ?_)))
        · as_aux_lemma => kernel_rfl
        · as_aux_lemma => kernel_rfl
        refine QRUN 2 0 2 [(1, .p 0 0), (3, .v (.string (bs ([45])))), (18, I q.id)] ?_ rfl ?_
        · as_aux_lemma => kernel_rfl
        have hr9 := itoa_len (n := q.id) (by first | assumption | exact wr_range _ | (unfold i64R at *; omega) | (simp only [i64R] at *; omega))
        refine QCALL 31 #[vi q.id] (some 19) ?_ (.string (bs (Lib.itoa q.id))) (fun w hw => iDigits_c w q.id (by first | assumption | exact wr_range _ | (unfold i64R at *; omega) | (simp only [i64R] at *; omega)) (htab.fr hw.fr)) (by rintro _ ⟨⟩; exact Nat.le_of_ble_eq_true rfl) ?_
        · as_aux_lemma => kernel_rfl
        refine QRUNV (.binOp .add 9 (.const (.string (bs ([106, 111, 105, 110, 32])))) (.tmp 19) 9) 20 9 ?_ (Nat.le_of_ble_eq_true rfl) (.string (bs (([106, 111, 105, 110, 32]) ++ (Lib.itoa q.id)))) (runs_scat (a := [106, 111, 105, 110, 32]) (b := Lib.itoa q.id) ?_ ?_ (by first | omega | (simp only [List.length_append, List.length_cons, List.length_nil, List.length_take, List.length_drop] at *; omega))) ?_
        · as_aux_lemma => kernel_rfl
        · as_aux_lemma => kernel_rfl
        · as_aux_lemma => kernel_rfl
        refine QRUNV (.binOp .add 9 (.tmp 20) (.const (.string (bs ([32])))) 9) 21 9 ?_ (Nat.le_of_ble_eq_true rfl) (.string (bs ((([106, 111, 105, 110, 32]) ++ (Lib.itoa q.id)) ++ ([32])))) (runs_scat (a := ([106, 111, 105, 110, 32]) ++ (Lib.itoa q.id)) (b := [32]) ?_ ?_ (by first | omega | (simp only [List.length_append, List.length_cons, List.length_nil, List.length_take, List.length_drop] at *; omega))) ?_
        · as_aux_lemma => kernel_rfl
        · as_aux_lemma => kernel_rfl
        · as_aux_lemma => kernel_rfl
        refine QRUN 2 5 7 [(1, .p 0 0), (3, .v (.string (bs ([45])))), (21, .v (.string (bs ((([106, 111, 105, 110, 32]) ++ (Lib.itoa q.id)) ++ ([32]))))), (23, I q.cabin)] ?_ rfl ?_
        · as_aux_lemma => kernel_rfl
        have hr10 := itoa_len (n := q.cabin) (by first | assumption | exact wr_range _ | (unfold i64R at *; omega) | (simp only [i64R] at *; omega))
        refine QCALL 31 #[vi q.cabin] (some 24) ?_ (.string (bs (Lib.itoa q.cabin))) (fun w hw => iDigits_c w q.cabin (by first | assumption | exact wr_range _ | (unfold i64R at *; omega) | (simp only [i64R] at *; omega)) (htab.fr hw.fr)) (by rintro _ ⟨⟩; exact Nat.le_of_ble_eq_true rfl) ?_
        · as_aux_lemma => kernel_rfl
        refine QRUNV (.binOp .add 9 (.tmp 21) (.tmp 24) 9) 25 9 ?_ (Nat.le_of_ble_eq_true rfl) (.string (bs (((([106, 111, 105, 110, 32]) ++ (Lib.itoa q.id)) ++ ([32])) ++ (Lib.itoa q.cabin)))) (runs_scat (a := (([106, 111, 105, 110, 32]) ++ (Lib.itoa q.id)) ++ ([32])) (b := Lib.itoa q.cabin) ?_ ?_ (by first | omega | (simp only [List.length_append, List.length_cons, List.length_nil, List.length_take, List.length_drop] at *; omega))) ?_
        · as_aux_lemma => kernel_rfl
        · as_aux_lemma => kernel_rfl
        · as_aux_lemma => kernel_rfl
        refine QRUNV (.binOp .add 9 (.tmp 25) (.const (.string (bs ([32])))) 9) 26 9 ?_ (Nat.le_of_ble_eq_true rfl) (.string (bs ((((([106, 111, 105, 110, 32]) ++ (Lib.itoa q.id)) ++ ([32])) ++ (Lib.itoa q.cabin)) ++ ([32])))) (runs_scat (a := ((([106, 111, 105, 110, 32]) ++ (Lib.itoa q.id)) ++ ([32])) ++ (Lib.itoa q.cabin)) (b := [32]) ?_ ?_ (by first | omega | (simp only [List.length_append, List.length_cons, List.length_nil, List.length_take, List.length_drop] at *; omega))) ?_
        · as_aux_lemma => kernel_rfl
        · as_aux_lemma => kernel_rfl
        · as_aux_lemma => kernel_rfl
        refine QRUN 1 10 11 [(1, .p 0 0), (26, .v (.string (bs ((((([106, 111, 105, 110, 32]) ++ (Lib.itoa q.id)) ++ ([32])) ++ (Lib.itoa q.cabin)) ++ ([32]))))), (27, .v (.string (bs ([45]))))] ?_ rfl ?_
        · as_aux_lemma => kernel_rfl
        refine QRUNV (.binOp .add 9 (.tmp 26) (.tmp 27) 9) 28 9 ?_ (Nat.le_of_ble_eq_true rfl) (.string (bs (((((([106, 111, 105, 110, 32]) ++ (Lib.itoa q.id)) ++ ([32])) ++ (Lib.itoa q.cabin)) ++ ([32])) ++ ([45])))) (runs_scat (a := (((([106, 111, 105, 110, 32]) ++ (Lib.itoa q.id)) ++ ([32])) ++ (Lib.itoa q.cabin)) ++ ([32])) (b := [45]) ?_ ?_ (by first | omega | (simp only [List.length_append, List.length_cons, List.length_nil, List.length_take, List.length_drop] at *; omega))) ?_
        · as_aux_lemma => kernel_rfl
        · as_aux_lemma => kernel_rfl
        · as_aux_lemma => kernel_rfl
        refine QRUNV (.binOp .add 9 (.tmp 28) (.const (.string (bs ([32])))) 9) 29 9 ?_ (Nat.le_of_ble_eq_true rfl) (.string (bs ((((((([106, 111, 105, 110, 32]) ++ (Lib.itoa q.id)) ++ ([32])) ++ (Lib.itoa q.cabin)) ++ ([32])) ++ ([45])) ++ ([32])))) (runs_scat (a := ((((([106, 111, 105, 110, 32]) ++ (Lib.itoa q.id)) ++ ([32])) ++ (Lib.itoa q.cabin)) ++ ([32])) ++ ([45])) (b := [32]) ?_ ?_ (by first | omega | (simp only [List.length_append, List.length_cons, List.length_nil, List.length_take, List.length_drop] at *; omega))) ?_
        · as_aux_lemma => kernel_rfl
        · as_aux_lemma => kernel_rfl
        · as_aux_lemma => kernel_rfl
        refine QRUN 2 13 15 [(1, .p 0 0), (29, .v (.string (bs ((((((([106, 111, 105, 110, 32]) ++ (Lib.itoa q.id)) ++ ([32])) ++ (Lib.itoa q.cabin)) ++ ([32])) ++ ([45])) ++ ([32]))))), (31, I q.size)] ?_ rfl ?_
        · as_aux_lemma => kernel_rfl
        have hr11 := itoa_len (n := q.size) (by first | assumption | exact wr_range _ | (unfold i64R at *; omega) | (simp only [i64R] at *; omega))
        refine QCALL 31 #[vi q.size] (some 32) ?_ (.string (bs (Lib.itoa q.size))) (fun w hw => iDigits_c w q.size (by first | assumption | exact wr_range _ | (unfold i64R at *; omega) | (simp only [i64R] at *; omega)) (htab.fr hw.fr)) (by rintro _ ⟨⟩; exact Nat.le_of_ble_eq_true rfl) ?_
        · as_aux_lemma => kernel_rfl
        refine QRUNV (.binOp .add 9 (.tmp 29) (.tmp 32) 9) 33 9 ?_ (Nat.le_of_ble_eq_true rfl) (.string (bs (((((((([106, 111, 105, 110, 32]) ++ (Lib.itoa q.id)) ++ ([32])) ++ (Lib.itoa q.cabin)) ++ ([32])) ++ ([45])) ++ ([32])) ++ (Lib.itoa q.size)))) (runs_scat (a := (((((([106, 111, 105, 110, 32]) ++ (Lib.itoa q.id)) ++ ([32])) ++ (Lib.itoa q.cabin)) ++ ([32])) ++ ([45])) ++ ([32])) (b := Lib.itoa q.size) ?_ ?_ (by first | omega | (simp only [List.length_append, List.length_cons, List.length_nil, List.length_take, List.length_drop] at *; omega))) ?_
        · as_aux_lemma => kernel_rfl
        · as_aux_lemma => kernel_rfl
        · as_aux_lemma => kernel_rfl
        refine QRUNV (.binOp .add 9 (.tmp 33) (.const (.string (bs ([32])))) 9) 34 9 ?_ (Nat.le_of_ble_eq_true rfl) (.string (bs ((((((((([106, 111, 105, 110, 32]) ++ (Lib.itoa q.id)) ++ ([32])) ++ (Lib.itoa q.cabin)) ++ ([32])) ++ ([45])) ++ ([32])) ++ (Lib.itoa q.size)) ++ ([32])))) (runs_scat (a := ((((((([106, 111, 105, 110, 32]) ++ (Lib.itoa q.id)) ++ ([32])) ++ (Lib.itoa q.cabin)) ++ ([32])) ++ ([45])) ++ ([32])) ++ (Lib.itoa q.size)) (b := [32]) ?_ ?_ (by first | omega | (simp only [List.length_append, List.length_cons, List.length_nil, List.length_take, List.length_drop] at *; omega))) ?_
        · as_aux_lemma => kernel_rfl
        · as_aux_lemma => kernel_rfl
        · as_aux_lemma => kernel_rfl
        refine QRUN 2 18 20 [(34, .v (.string (bs ((((((((([106, 111, 105, 110, 32]) ++ (Lib.itoa q.id)) ++ ([32])) ++ (Lib.itoa q.cabin)) ++ ([32])) ++ ([45])) ++ ([32])) ++ (Lib.itoa q.size)) ++ ([32]))))), (36, I q.tier)] ?_ rfl ?_
        · as_aux_lemma => kernel_rfl
        have hr12 := itoa_len (n := q.tier) (by first | assumption | exact wr_range _ | (unfold i64R at *; omega) | (simp only [i64R] at *; omega))
        refine QCALL 31 #[vi q.tier] (some 37) ?_ (.string (bs (Lib.itoa q.tier))) (fun w hw => iDigits_c w q.tier (by first | assumption | exact wr_range _ | (unfold i64R at *; omega) | (simp only [i64R] at *; omega)) (htab.fr hw.fr)) (by rintro _ ⟨⟩; exact Nat.le_of_ble_eq_true rfl) ?_
        · as_aux_lemma => kernel_rfl
        refine QRUNV (.binOp .add 9 (.tmp 34) (.tmp 37) 9) 38 9 ?_ (Nat.le_of_ble_eq_true rfl) (.string (bs (((((((((([106, 111, 105, 110, 32]) ++ (Lib.itoa q.id)) ++ ([32])) ++ (Lib.itoa q.cabin)) ++ ([32])) ++ ([45])) ++ ([32])) ++ (Lib.itoa q.size)) ++ ([32])) ++ (Lib.itoa q.tier)))) (runs_scat (a := (((((((([106, 111, 105, 110, 32]) ++ (Lib.itoa q.id)) ++ ([32])) ++ (Lib.itoa q.cabin)) ++ ([32])) ++ ([45])) ++ ([32])) ++ (Lib.itoa q.size)) ++ ([32])) (b := Lib.itoa q.tier) ?_ ?_ (by first | omega | (simp only [List.length_append, List.length_cons, List.length_nil, List.length_take, List.length_drop] at *; omega))) ?_
        · as_aux_lemma => kernel_rfl
        · as_aux_lemma => kernel_rfl
        · as_aux_lemma => kernel_rfl
        refine QRUN 1 22 23 [(2, .v (.string (bs (((((((((([106, 111, 105, 110, 32]) ++ (Lib.itoa q.id)) ++ ([32])) ++ (Lib.itoa q.cabin)) ++ ([32])) ++ ([45])) ++ ([32])) ++ (Lib.itoa q.size)) ++ ([32])) ++ (Lib.itoa q.tier)))))] ?_ rfl ?_
        · as_aux_lemma => kernel_rfl
        refine QEND rfl (NEXT (RET (OUTR (PASS trivial (FIN (.string (bs (((((((((([106, 111, 105, 110, 32]) ++ (Lib.itoa q.id)) ++ ([32])) ++ (Lib.itoa q.cabin)) ++ ([32])) ++ ([45])) ++ ([32])) ++ (Lib.itoa q.size)) ++ ([32])) ++ (Lib.itoa q.tier)))) ?_ () ?_ [] ?_)))))
        · as_aux_lemma => kernel_rfl
        · (first | (simp [RV, reqLine, reqWord, reqWords, *]; done) | (have h7 : q.kind = 7 := (by omega); simp [RV, reqLine, reqWord, reqWords, *]; done) | (have h9 : ¬ q.from' = -1 := (by omega); simp [RV, reqLine, reqWord, reqWords, *]; done) | (have h9 : q.from' = -1 := (by omega); simp [RV, reqLine, reqWord, reqWords, *]))
        · rfl
    · -- q.kind == 1 = false
      have h2 := bh2
      have h2 := ne_of_beq_false h2
      refine SEQ (REGION [0, 1] rfl (RUN0 2 [] [(1, .p 0 0), (8, I q.kind), (39, B (q.kind == 2))] ?_ rfl ?_))
      · as_aux_lemma => kernel_rfl
      refine ENDOPS (NEXT (IF (q.kind == 2) ?_ (fun bh13 => ?_) (fun bh13 => ?_)))
      · as_aux_lemma => kernel_rfl
      · -- q.kind == 2 = true
        have h13 := bh13
        have h13 := eq_of_beq h13
        refine SEQ (REGION [0, 1, 2, 3, 4] rfl (RUN0 2 [2, 3, 4] [(42, I q.id)] ?_ rfl ?_))
        · as_aux_lemma => kernel_rfl
        refine OPC (CALL 31 #[vi q.id] (some 43) ?_ [] [] _ rfl (RV (.string (bs (Lib.itoa q.id)))) (fun w hw => iDigits_c w q.id (by first | assumption | exact wr_range _ | (unfold i64R at *; omega) | (simp only [i64R] at *; omega)) (htab.fr hw.fr)) (by rintro _ ⟨⟩; exact Nat.le_of_ble_eq_true rfl) ?_)
        · as_aux_lemma => kernel_rfl
        rintro ⟨⟩
        have hr14 := itoa_len (n := q.id) (by first | assumption | exact wr_range _ | (unfold i64R at *; omega) | (simp only [i64R] at *; omega))
        refine OPC (RUNV (.binOp .add 9 (.const (.string (bs ([99, 97, 110, 99, 101, 108, 32])))) (.tmp 43) 9) 44 9 ?_ (Nat.le_of_ble_eq_true rfl) (.string (bs (([99, 97, 110, 99, 101, 108, 32]) ++ (Lib.itoa q.id)))) (runs_scat (a := [99, 97, 110, 99, 101, 108, 32]) (b := Lib.itoa q.id) ?_ ?_ (by first | omega | (simp only [List.length_append, List.length_cons, List.length_nil, List.length_take, List.length_drop] at *; omega))) ?_)
        · as_aux_lemma => kernel_rfl
        · as_aux_lemma => kernel_rfl
        · as_aux_lemma => kernel_rfl
        refine RUN0 1 [] [(2, .v (.string (bs (([99, 97, 110, 99, 101, 108, 32]) ++ (Lib.itoa q.id)))))] ?_ rfl ?_
        · as_aux_lemma => kernel_rfl
        refine ENDOPS (NEXT (RET (OUTR (PASS trivial (FIN (.string (bs (([99, 97, 110, 99, 101, 108, 32]) ++ (Lib.itoa q.id)))) ?_ () ?_ [] ?_)))))
        · as_aux_lemma => kernel_rfl
        · (first | (simp [RV, reqLine, reqWord, reqWords, *]; done) | (have h7 : q.kind = 7 := (by omega); simp [RV, reqLine, reqWord, reqWords, *]; done) | (have h9 : ¬ q.from' = -1 := (by omega); simp [RV, reqLine, reqWord, reqWords, *]; done) | (have h9 : q.from' = -1 := (by omega); simp [RV, reqLine, reqWord, reqWords, *]))
        · rfl
      · -- q.kind == 2 = false
        have h13 := bh13
        have h13 := ne_of_beq_false h13
        refine SEQ (REGION [0, 1] rfl (RUN0 2 [] [(1, .p 0 0), (8, I q.kind), (45, B (q.kind == 3))] ?_ rfl ?_))
        · as_aux_lemma => kernel_rfl
        refine ENDOPS (NEXT (IF (q.kind == 3) ?_ (fun bh15 => ?_) (fun bh15 => ?_)))
        · as_aux_lemma => kernel_rfl
        · -- q.kind == 3 = true
          have h15 := bh15
          have h15 := eq_of_beq h15
          refine SEQ (REGIONQ ?_ ?_ ?_)
          · as_aux_lemma => kernel_rfl
          · as_aux_lemma => kernel_rfl
          refine QRUN 2 0 2 [(1, .p 0 0), (48, I q.cabin)] ?_ rfl ?_
          · as_aux_lemma => kernel_rfl
          have hr16 := itoa_len (n := q.cabin) (by first | assumption | exact wr_range _ | (unfold i64R at *; omega) | (simp only [i64R] at *; omega))
          refine QCALL 31 #[vi q.cabin] (some 49) ?_ (.string (bs (Lib.itoa q.cabin))) (fun w hw => iDigits_c w q.cabin (by first | assumption | exact wr_range _ | (unfold i64R at *; omega) | (simp only [i64R] at *; omega)) (htab.fr hw.fr)) (by rintro _ ⟨⟩; exact Nat.le_of_ble_eq_true rfl) ?_
          · as_aux_lemma => kernel_rfl
          refine QRUNV (.binOp .add 9 (.const (.string (bs ([102, 114, 101, 101, 32])))) (.tmp 49) 9) 50 9 ?_ (Nat.le_of_ble_eq_true rfl) (.string (bs (([102, 114, 101, 101, 32]) ++ (Lib.itoa q.cabin)))) (runs_scat (a := [102, 114, 101, 101, 32]) (b := Lib.itoa q.cabin) ?_ ?_ (by first | omega | (simp only [List.length_append, List.length_cons, List.length_nil, List.length_take, List.length_drop] at *; omega))) ?_
          · as_aux_lemma => kernel_rfl
          · as_aux_lemma => kernel_rfl
          · as_aux_lemma => kernel_rfl
          refine QRUNV (.binOp .add 9 (.tmp 50) (.const (.string (bs ([32])))) 9) 51 9 ?_ (Nat.le_of_ble_eq_true rfl) (.string (bs ((([102, 114, 101, 101, 32]) ++ (Lib.itoa q.cabin)) ++ ([32])))) (runs_scat (a := ([102, 114, 101, 101, 32]) ++ (Lib.itoa q.cabin)) (b := [32]) ?_ ?_ (by first | omega | (simp only [List.length_append, List.length_cons, List.length_nil, List.length_take, List.length_drop] at *; omega))) ?_
          · as_aux_lemma => kernel_rfl
          · as_aux_lemma => kernel_rfl
          · as_aux_lemma => kernel_rfl
          refine QRUN 2 5 7 [(51, .v (.string (bs ((([102, 114, 101, 101, 32]) ++ (Lib.itoa q.cabin)) ++ ([32]))))), (53, I q.size)] ?_ rfl ?_
          · as_aux_lemma => kernel_rfl
          have hr17 := itoa_len (n := q.size) (by first | assumption | exact wr_range _ | (unfold i64R at *; omega) | (simp only [i64R] at *; omega))
          refine QCALL 31 #[vi q.size] (some 54) ?_ (.string (bs (Lib.itoa q.size))) (fun w hw => iDigits_c w q.size (by first | assumption | exact wr_range _ | (unfold i64R at *; omega) | (simp only [i64R] at *; omega)) (htab.fr hw.fr)) (by rintro _ ⟨⟩; exact Nat.le_of_ble_eq_true rfl) ?_
          · as_aux_lemma => kernel_rfl
          refine QRUNV (.binOp .add 9 (.tmp 51) (.tmp 54) 9) 55 9 ?_ (Nat.le_of_ble_eq_true rfl) (.string (bs (((([102, 114, 101, 101, 32]) ++ (Lib.itoa q.cabin)) ++ ([32])) ++ (Lib.itoa q.size)))) (runs_scat (a := (([102, 114, 101, 101, 32]) ++ (Lib.itoa q.cabin)) ++ ([32])) (b := Lib.itoa q.size) ?_ ?_ (by first | omega | (simp only [List.length_append, List.length_cons, List.length_nil, List.length_take, List.length_drop] at *; omega))) ?_
          · as_aux_lemma => kernel_rfl
          · as_aux_lemma => kernel_rfl
          · as_aux_lemma => kernel_rfl
          refine QRUN 1 9 10 [(2, .v (.string (bs (((([102, 114, 101, 101, 32]) ++ (Lib.itoa q.cabin)) ++ ([32])) ++ (Lib.itoa q.size)))))] ?_ rfl ?_
          · as_aux_lemma => kernel_rfl
          refine QEND rfl (NEXT (RET (OUTR (PASS trivial (FIN (.string (bs (((([102, 114, 101, 101, 32]) ++ (Lib.itoa q.cabin)) ++ ([32])) ++ (Lib.itoa q.size)))) ?_ () ?_ [] ?_)))))
          · as_aux_lemma => kernel_rfl
          · (first | (simp [RV, reqLine, reqWord, reqWords, *]; done) | (have h7 : q.kind = 7 := (by omega); simp [RV, reqLine, reqWord, reqWords, *]; done) | (have h9 : ¬ q.from' = -1 := (by omega); simp [RV, reqLine, reqWord, reqWords, *]; done) | (have h9 : q.from' = -1 := (by omega); simp [RV, reqLine, reqWord, reqWords, *]))
          · rfl
        · -- q.kind == 3 = false
          have h15 := bh15
          have h15 := ne_of_beq_false h15
          refine SEQ (REGION [0, 1] rfl (RUN0 2 [] [(1, .p 0 0), (8, I q.kind), (56, B (q.kind == 4))] ?_ rfl ?_))
          · as_aux_lemma => kernel_rfl
          refine ENDOPS (NEXT (IF (q.kind == 4) ?_ (fun bh18 => ?_) (fun bh18 => ?_)))
          · as_aux_lemma => kernel_rfl
          · -- q.kind == 4 = true
            have h18 := bh18
            have h18 := eq_of_beq h18
            refine SEQ (REGION [0, 1, 2, 3, 4] rfl (RUN0 2 [2, 3, 4] [(59, I q.id)] ?_ rfl ?_))
            · as_aux_lemma => kernel_rfl
            refine OPC (CALL 31 #[vi q.id] (some 60) ?_ [] [] _ rfl (RV (.string (bs (Lib.itoa q.id)))) (fun w hw => iDigits_c w q.id (by first | assumption | exact wr_range _ | (unfold i64R at *; omega) | (simp only [i64R] at *; omega)) (htab.fr hw.fr)) (by rintro _ ⟨⟩; exact Nat.le_of_ble_eq_true rfl) ?_)
            · as_aux_lemma => kernel_rfl
            rintro ⟨⟩
            have hr19 := itoa_len (n := q.id) (by first | assumption | exact wr_range _ | (unfold i64R at *; omega) | (simp only [i64R] at *; omega))
            refine OPC (RUNV (.binOp .add 9 (.const (.string (bs ([97, 99, 99, 101, 112, 116, 32])))) (.tmp 60) 9) 61 9 ?_ (Nat.le_of_ble_eq_true rfl) (.string (bs (([97, 99, 99, 101, 112, 116, 32]) ++ (Lib.itoa q.id)))) (runs_scat (a := [97, 99, 99, 101, 112, 116, 32]) (b := Lib.itoa q.id) ?_ ?_ (by first | omega | (simp only [List.length_append, List.length_cons, List.length_nil, List.length_take, List.length_drop] at *; omega))) ?_)
            · as_aux_lemma => kernel_rfl
            · as_aux_lemma => kernel_rfl
            · as_aux_lemma => kernel_rfl
            refine RUN0 1 [] [(2, .v (.string (bs (([97, 99, 99, 101, 112, 116, 32]) ++ (Lib.itoa q.id)))))] ?_ rfl ?_
            · as_aux_lemma => kernel_rfl
            refine ENDOPS (NEXT (RET (OUTR (PASS trivial (FIN (.string (bs (([97, 99, 99, 101, 112, 116, 32]) ++ (Lib.itoa q.id)))) ?_ () ?_ [] ?_)))))
            · as_aux_lemma => kernel_rfl
            · (first | (simp [RV, reqLine, reqWord, reqWords, *]; done) | (have h7 : q.kind = 7 := (by omega); simp [RV, reqLine, reqWord, reqWords, *]; done) | (have h9 : ¬ q.from' = -1 := (by omega); simp [RV, reqLine, reqWord, reqWords, *]; done) | (have h9 : q.from' = -1 := (by omega); simp [RV, reqLine, reqWord, reqWords, *]))
            · rfl
          · -- q.kind == 4 = false
            have h18 := bh18
            have h18 := ne_of_beq_false h18
            refine SEQ (REGION [0, 1] rfl (RUN0 2 [] [(1, .p 0 0), (8, I q.kind), (62, B (q.kind == 5))] ?_ rfl ?_))
            · as_aux_lemma => kernel_rfl
            refine ENDOPS (NEXT (IF (q.kind == 5) ?_ (fun bh20 => ?_) (fun bh20 => ?_)))
            · as_aux_lemma => kernel_rfl
            · -- q.kind == 5 = true
              have h20 := bh20
              have h20 := eq_of_beq h20
              refine SEQ (REGION [0, 1, 2, 3, 4] rfl (RUN0 2 [2, 3, 4] [(65, I q.id)] ?_ rfl ?_))
              · as_aux_lemma => kernel_rfl
              refine OPC (CALL 31 #[vi q.id] (some 66) ?_ [] [] _ rfl (RV (.string (bs (Lib.itoa q.id)))) (fun w hw => iDigits_c w q.id (by first | assumption | exact wr_range _ | (unfold i64R at *; omega) | (simp only [i64R] at *; omega)) (htab.fr hw.fr)) (by rintro _ ⟨⟩; exact Nat.le_of_ble_eq_true rfl) ?_)
              · as_aux_lemma => kernel_rfl
              rintro ⟨⟩
              have hr21 := itoa_len (n := q.id) (by first | assumption | exact wr_range _ | (unfold i64R at *; omega) | (simp only [i64R] at *; omega))
              refine OPC (RUNV (.binOp .add 9 (.const (.string (bs ([100, 101, 99, 108, 105, 110, 101, 32])))) (.tmp 66) 9) 67 9 ?_ (Nat.le_of_ble_eq_true rfl) (.string (bs (([100, 101, 99, 108, 105, 110, 101, 32]) ++ (Lib.itoa q.id)))) (runs_scat (a := [100, 101, 99, 108, 105, 110, 101, 32]) (b := Lib.itoa q.id) ?_ ?_ (by first | omega | (simp only [List.length_append, List.length_cons, List.length_nil, List.length_take, List.length_drop] at *; omega))) ?_)
              · as_aux_lemma => kernel_rfl
              · as_aux_lemma => kernel_rfl
              · as_aux_lemma => kernel_rfl
              refine RUN0 1 [] [(2, .v (.string (bs (([100, 101, 99, 108, 105, 110, 101, 32]) ++ (Lib.itoa q.id)))))] ?_ rfl ?_
              · as_aux_lemma => kernel_rfl
              refine ENDOPS (NEXT (RET (OUTR (PASS trivial (FIN (.string (bs (([100, 101, 99, 108, 105, 110, 101, 32]) ++ (Lib.itoa q.id)))) ?_ () ?_ [] ?_)))))
              · as_aux_lemma => kernel_rfl
              · (first | (simp [RV, reqLine, reqWord, reqWords, *]; done) | (have h7 : q.kind = 7 := (by omega); simp [RV, reqLine, reqWord, reqWords, *]; done) | (have h9 : ¬ q.from' = -1 := (by omega); simp [RV, reqLine, reqWord, reqWords, *]; done) | (have h9 : q.from' = -1 := (by omega); simp [RV, reqLine, reqWord, reqWords, *]))
              · rfl
            · -- q.kind == 5 = false
              have h20 := bh20
              have h20 := ne_of_beq_false h20
              refine SEQ (REGION [0, 1] rfl (RUN0 2 [] [(1, .p 0 0), (68, B (q.kind == 6))] ?_ rfl ?_))
              · as_aux_lemma => kernel_rfl
              refine ENDOPS (NEXT (IF (q.kind == 6) ?_ (fun bh22 => ?_) (fun bh22 => ?_)))
              · as_aux_lemma => kernel_rfl
              · -- q.kind == 6 = true
                have h22 := bh22
                have h22 := eq_of_beq h22
                refine SEQ (REGION [0] rfl (RUN0 1 [] [(2, .v (.string (bs ([116, 105, 99, 107]))))] ?_ rfl ?_))
                · as_aux_lemma => kernel_rfl
                refine ENDOPS (NEXT (RET (OUTR (PASS trivial (FIN (.string (bs ([116, 105, 99, 107]))) ?_ () ?_ [] ?_)))))
                · as_aux_lemma => kernel_rfl
                · (first | (simp [RV, reqLine, reqWord, reqWords, *]; done) | (have h7 : q.kind = 7 := (by omega); simp [RV, reqLine, reqWord, reqWords, *]; done) | (have h9 : ¬ q.from' = -1 := (by omega); simp [RV, reqLine, reqWord, reqWords, *]; done) | (have h9 : q.from' = -1 := (by omega); simp [RV, reqLine, reqWord, reqWords, *]))
                · rfl
              · -- q.kind == 6 = false
                have h22 := bh22
                have h22 := ne_of_beq_false h22
                refine SKIP (OUTN (NEXT (SEQ (REGION [0, 1, 2, 3, 4] rfl (RUN0 2 [2, 3, 4] [(71, I q.id)] ?_ rfl ?_)))))
                · as_aux_lemma => kernel_rfl
                refine OPC (CALL 31 #[vi q.id] (some 72) ?_ [] [] _ rfl (RV (.string (bs (Lib.itoa q.id)))) (fun w hw => iDigits_c w q.id (by first | assumption | exact wr_range _ | (unfold i64R at *; omega) | (simp only [i64R] at *; omega)) (htab.fr hw.fr)) (by rintro _ ⟨⟩; exact Nat.le_of_ble_eq_true rfl) ?_)
                · as_aux_lemma => kernel_rfl
                rintro ⟨⟩
                have hr23 := itoa_len (n := q.id) (by first | assumption | exact wr_range _ | (unfold i64R at *; omega) | (simp only [i64R] at *; omega))
                refine OPC (RUNV (.binOp .add 9 (.const (.string (bs ([112, 105, 99, 107, 32])))) (.tmp 72) 9) 73 9 ?_ (Nat.le_of_ble_eq_true rfl) (.string (bs (([112, 105, 99, 107, 32]) ++ (Lib.itoa q.id)))) (runs_scat (a := [112, 105, 99, 107, 32]) (b := Lib.itoa q.id) ?_ ?_ (by first | omega | (simp only [List.length_append, List.length_cons, List.length_nil, List.length_take, List.length_drop] at *; omega))) ?_)
                · as_aux_lemma => kernel_rfl
                · as_aux_lemma => kernel_rfl
                · as_aux_lemma => kernel_rfl
                refine RUN0 1 [] [(2, .v (.string (bs (([112, 105, 99, 107, 32]) ++ (Lib.itoa q.id)))))] ?_ rfl ?_
                · as_aux_lemma => kernel_rfl
                refine ENDOPS (NEXT (RET (FIN (.string (bs (([112, 105, 99, 107, 32]) ++ (Lib.itoa q.id)))) ?_ () ?_ [] ?_)))
                · as_aux_lemma => kernel_rfl
                · (first | (simp [RV, reqLine, reqWord, reqWords, *]; done) | (have h7 : q.kind = 7 := (by omega); simp [RV, reqLine, reqWord, reqWords, *]; done) | (have h9 : ¬ q.from' = -1 := (by omega); simp [RV, reqLine, reqWord, reqWords, *]; done) | (have h9 : q.from' = -1 := (by omega); simp [RV, reqLine, reqWord, reqWords, *]))
                · rfl

theorem sNumber_c (W : World) (s : List UInt8) : Spec Tryd.prog W [] 25 #[.string (bs s)] (RV (.tuple #[vi (((number s).getD 0 : Nat) : Int), .bool ((number s).isSome)])) := by
  refine ENTER0 (N := 43) (vs := [.string (bs s)]) Tryd.func25 rfl rfl (Nat.le_of_ble_eq_true rfl) ?_
  refine SEQ (REGION [0, 1] rfl (RUN0 2 [] [(0, .v (.string (bs s)))] ?_ rfl ?_))
  · as_aux_lemma => kernel_rfl
  refine ENDOPS (NEXT (SEQ (SEQ (REGION [0, 1, 2, 3, 4, 5, 6, 7] rfl (RUN0 4 [4, 5, 6, 7] [(0, .v (.string (bs s))), (9, B (decide ((s.length : Int) < 1)))] ?_ rfl ?_)))))
  · as_aux_lemma => kernel_rfl
  refine SPLIT (d := 9) (decide ((s.length : Int) < 1)) ?_ (fun bh1 => ?_) (fun bh1 => ?_)
  · as_aux_lemma => kernel_rfl
  · -- decide ((s.length : Int) < 1) = true
    have h1 := bh1
    have h1 := of_decide_eq_true h1
    refine RUN0 4 [] [(0, .v (.string (bs s))), (13, B true)] ?_ rfl ?_
    · as_aux_lemma => kernel_rfl
    refine ENDOPS (NEXT (IFT ?_ ?_))
    · as_aux_lemma => kernel_rfl
    refine SEQ (REGION [0, 1] rfl (RUN0 2 [] [(2, I 0), (3, B false)] ?_ rfl ?_))
    · as_aux_lemma => kernel_rfl
    refine ENDOPS (NEXT (RET (PASS trivial (FIN (.tuple #[vi 0, .bool false]) ?_ () ?_ [] ?_))))
    · as_aux_lemma => kernel_rfl
    · (first | (rw [number_bad (by omega)]; rfl) | (rw [number_bad (s := s) (.inr (.inr (hv0.trans (by simp only [digitsGo]; exact if_pos (by omega)))))]; rfl) | (simp only [RV]; rw [number_of (s := s) (n := n) (by omega) (by rw [hv0]; rfl)]; simp [*]))
    · rfl
  · -- decide ((s.length : Int) < 1) = false
    have h1 := bh1
    have h1 := of_decide_eq_false h1
    refine RUN0 4 [] [(0, .v (.string (bs s))), (13, B (decide ((s.length : Int) > 6)))] ?_ rfl ?_
    · as_aux_lemma => kernel_rfl
    refine ENDOPS (NEXT (IF (decide ((s.length : Int) > 6)) ?_ (fun bh2 => ?_) (fun bh2 => ?_)))
    · as_aux_lemma => kernel_rfl
    · -- decide ((s.length : Int) > 6) = true
      have h2 := bh2
      have h2 := of_decide_eq_true h2
      refine SEQ (REGION [0, 1] rfl (RUN0 2 [] [(2, I 0), (3, B false)] ?_ rfl ?_))
      · as_aux_lemma => kernel_rfl
      refine ENDOPS (NEXT (RET (PASS trivial (FIN (.tuple #[vi 0, .bool false]) ?_ () ?_ [] ?_))))
      · as_aux_lemma => kernel_rfl
      · (first | (rw [number_bad (by omega)]; rfl) | (rw [number_bad (s := s) (.inr (.inr (hv0.trans (by simp only [digitsGo]; exact if_pos (by omega)))))]; rfl) | (simp only [RV]; rw [number_of (s := s) (n := n) (by omega) (by rw [hv0]; rfl)]; simp [*]))
      · rfl
    · -- decide ((s.length : Int) > 6) = false
      have h2 := bh2
      have h2 := of_decide_eq_false h2
      refine SKIP (NEXT (SEQ (REGION [0] rfl (RUN0 1 [] [(0, .v (.string (bs s))), (4, I 0)] ?_ rfl ?_))))
      · as_aux_lemma => kernel_rfl
      refine ENDOPS (NEXT (SEQ (SEQ (REGION [0] rfl (RUN0 1 [] [(0, .v (.string (bs s))), (4, I 0), (5, I 0)] ?_ rfl ?_)))))
      · as_aux_lemma => kernel_rfl
      refine ENDOPS (NEXT (BLOCK (LOOP (ι := Nat × (List UInt8) × Nat) (fun j => [(0, .v (.string (bs s))), (4, I (j.2.2 : Int)), (5, I (j.1 : Int))]) (fun j => []) (fun j => []) (fun j => j.1 + j.2.1.length = s.length ∧ s.drop j.1 = j.2.1 ∧ digitsGo 0 s = digitsGo j.2.2 j.2.1 ∧ j.2.2 < p10 j.1) (fun j => j.2.1.length) (0, s, 0) [0, 4, 5] ⟨by simp, rfl, rfl, show 0 < p10 0 by decide⟩ ?_ rfl rfl ?_)))
      · as_aux_lemma => kernel_rfl
      rintro ⟨k, ys, n⟩ ⟨hk, hd, hv0, hv1⟩
      dsimp only at hk hd hv0 hv1
      refine SEQ (SEQ (REGION [0, 1, 2, 3] rfl (RUN0 4 [] [(0, .v (.string (bs s))), (4, I (n : Int)), (5, I (k : Int)), (17, B (decide ((k : Int) < (s.length : Int))))] ?_ rfl ?_)))
      · as_aux_lemma => kernel_rfl
      refine ENDOPS (NEXT (IF (decide ((k : Int) < (s.length : Int))) ?_ (fun bh3 => ?_) (fun bh3 => ?_)))
      · as_aux_lemma => kernel_rfl
      · -- decide ((k : Int) < (s.length : Int)) = true
        have h3 := bh3
        have h3 := of_decide_eq_true h3
        obtain ⟨y4, ys5, rfl, hx_y4, hd_y4, hl_y4⟩ := drop_cons hd hk (by omega)
        have hp_y4 := p10_le (k := k) (by omega)
        have := UInt8.toNat_lt y4
        refine SKIP (NEXT (SEQ (BLOCK (SEQ (SEQ (REGION [0, 1, 2, 3, 4, 5, 6, 7, 8, 9] rfl (RUN0 2 [2, 3, 4, 5, 6, 7, 8, 9] [(0, .v (.string (bs s))), (4, I (n : Int)), (5, I (k : Int)), (20, .v (.string (bs s))), (21, I (k : Int))] ?_ rfl ?_)))))))
        · as_aux_lemma => kernel_rfl
        refine OPC (RUNV (.index 9 (.tmp 20) (.tmp 21)) 22 5 ?_ (Nat.le_of_ble_eq_true rfl) (.int .u8 (y4.toNat : Int)) (runs_sidx (s := s) (kd := .i64) (z := (k : Int)) (k := k) ?_ ?_ ?_ (by omega) rfl hx_y4) ?_)
        · as_aux_lemma => kernel_rfl
        · as_aux_lemma => kernel_rfl
        · as_aux_lemma => kernel_rfl
        · as_aux_lemma => kernel_rfl
        refine RUN0 2 [5, 6, 7, 8, 9] [(0, .v (.string (bs s))), (4, I (n : Int)), (5, I (k : Int)), (24, B (decide ((y4.toNat : Int) < 48)))] ?_ rfl ?_
        · as_aux_lemma => kernel_rfl
        refine SPLIT (d := 24) (decide ((y4.toNat : Int) < 48)) ?_ (fun bh6 => ?_) (fun bh6 => ?_)
        · as_aux_lemma => kernel_rfl
        · -- decide ((y4.toNat : Int) < 48) = true
          have h6 := bh6
          have h6 := of_decide_eq_true h6
          refine RUN0 5 [] [(0, .v (.string (bs s))), (4, I (n : Int)), (5, I (k : Int)), (29, B true)] ?_ rfl ?_
          · as_aux_lemma => kernel_rfl
          refine ENDOPS (NEXT (IFT ?_ ?_))
          · as_aux_lemma => kernel_rfl
          refine SEQ (REGION [0, 1] rfl (RUN0 2 [] [(2, I 0), (3, B false)] ?_ rfl ?_))
          · as_aux_lemma => kernel_rfl
          refine ENDOPS (NEXT (RET (PASS trivial (OUTR (PASS trivial (PASS trivial (OUTR (PASS trivial (FIN (.tuple #[vi 0, .bool false]) ?_ () ?_ [] ?_)))))))))
          · as_aux_lemma => kernel_rfl
          · (first | (rw [number_bad (by omega)]; rfl) | (rw [number_bad (s := s) (.inr (.inr (hv0.trans (by simp only [digitsGo]; exact if_pos (by omega)))))]; rfl) | (simp only [RV]; rw [number_of (s := s) (n := n) (by omega) (by rw [hv0]; rfl)]; simp [*]))
          · rfl
        · -- decide ((y4.toNat : Int) < 48) = false
          have h6 := bh6
          have h6 := of_decide_eq_false h6
          refine RUN0 2 [7, 8, 9] [(0, .v (.string (bs s))), (4, I (n : Int)), (5, I (k : Int)), (24, B false), (25, .v (.string (bs s))), (26, I (k : Int))] ?_ rfl ?_
          · as_aux_lemma => kernel_rfl
          refine OPC (RUNV (.index 9 (.tmp 25) (.tmp 26)) 27 5 ?_ (Nat.le_of_ble_eq_true rfl) (.int .u8 (y4.toNat : Int)) (runs_sidx (s := s) (kd := .i64) (z := (k : Int)) (k := k) ?_ ?_ ?_ (by omega) rfl hx_y4) ?_)
          · as_aux_lemma => kernel_rfl
          · as_aux_lemma => kernel_rfl
          · as_aux_lemma => kernel_rfl
          · as_aux_lemma => kernel_rfl
          refine RUN0 2 [] [(0, .v (.string (bs s))), (4, I (n : Int)), (5, I (k : Int)), (29, B (decide ((y4.toNat : Int) > 57)))] ?_ rfl ?_
          · as_aux_lemma => kernel_rfl
          refine ENDOPS (NEXT (IF (decide ((y4.toNat : Int) > 57)) ?_ (fun bh7 => ?_) (fun bh7 => ?_)))
          · as_aux_lemma => kernel_rfl
          · -- decide ((y4.toNat : Int) > 57) = true
            have h7 := bh7
            have h7 := of_decide_eq_true h7
            refine SEQ (REGION [0, 1] rfl (RUN0 2 [] [(2, I 0), (3, B false)] ?_ rfl ?_))
            · as_aux_lemma => kernel_rfl
            refine ENDOPS (NEXT (RET (PASS trivial (OUTR (PASS trivial (PASS trivial (OUTR (PASS trivial (FIN (.tuple #[vi 0, .bool false]) ?_ () ?_ [] ?_)))))))))
            · as_aux_lemma => kernel_rfl
            · (first | (rw [number_bad (by omega)]; rfl) | (rw [number_bad (s := s) (.inr (.inr (hv0.trans (by simp only [digitsGo]; exact if_pos (by omega)))))]; rfl) | (simp only [RV]; rw [number_of (s := s) (n := n) (by omega) (by rw [hv0]; rfl)]; simp [*]))
            · rfl
          · -- decide ((y4.toNat : Int) > 57) = false
            have h7 := bh7
            have h7 := of_decide_eq_false h7
            refine SKIP (NEXT (REGION [0, 1, 2, 3, 4, 5, 6, 7, 8] rfl (RUN0 2 [2, 3, 4, 5, 6, 7, 8] [(0, .v (.string (bs s))), (5, I (k : Int)), (31, I (wr (10 * (n : Int))))] ?_ rfl ?_)))
            · as_aux_lemma => kernel_rfl
            refine CAST (d := 31) (vi (wr (10 * (n : Int)))) (vi ((10 * n : Nat) : Int)) ?_ (vi_cast (by omega) (by omega)) ?_
            · as_aux_lemma => kernel_rfl
            refine RUN0 2 [4, 5, 6, 7, 8] [(0, .v (.string (bs s))), (5, I (k : Int)), (31, I ((10 * n : Nat) : Int)), (32, .v (.string (bs s))), (33, I (k : Int))] ?_ rfl ?_
            · as_aux_lemma => kernel_rfl
            refine OPC (RUNV (.index 9 (.tmp 32) (.tmp 33)) 34 5 ?_ (Nat.le_of_ble_eq_true rfl) (.int .u8 (y4.toNat : Int)) (runs_sidx (s := s) (kd := .i64) (z := (k : Int)) (k := k) ?_ ?_ ?_ (by omega) rfl hx_y4) ?_)
            · as_aux_lemma => kernel_rfl
            · as_aux_lemma => kernel_rfl
            · as_aux_lemma => kernel_rfl
            · as_aux_lemma => kernel_rfl
            refine RUN0 1 [6, 7, 8] [(0, .v (.string (bs s))), (5, I (k : Int)), (31, I ((10 * n : Nat) : Int)), (35, I (IntKind.wrap .i64 (y4.toNat : Int)))] ?_ rfl ?_
            · as_aux_lemma => kernel_rfl
            refine CAST (d := 35) (vi (IntKind.wrap .i64 (y4.toNat : Int))) (vi (y4.toNat : Int)) ?_ (vi_u8 y4) ?_
            · as_aux_lemma => kernel_rfl
            refine RUN0 1 [7, 8] [(0, .v (.string (bs s))), (5, I (k : Int)), (36, I (wr (((10 * n : Nat) : Int) + (y4.toNat : Int))))] ?_ rfl ?_
            · as_aux_lemma => kernel_rfl
            refine CAST (d := 36) (vi (wr (((10 * n : Nat) : Int) + (y4.toNat : Int)))) (vi (((10 * n) + y4.toNat : Nat) : Int)) ?_ (vi_cast (by omega) (by omega)) ?_
            · as_aux_lemma => kernel_rfl
            refine RUN0 1 [8] [(0, .v (.string (bs s))), (5, I (k : Int)), (37, I (wr ((((10 * n) + y4.toNat : Nat) : Int) - 48)))] ?_ rfl ?_
            · as_aux_lemma => kernel_rfl
            refine CAST (d := 37) (vi (wr ((((10 * n) + y4.toNat : Nat) : Int) - 48))) (vi ((((10 * n) + y4.toNat) - 48 : Nat) : Int)) ?_ (vi_cast (by omega) (by omega)) ?_
            · as_aux_lemma => kernel_rfl
            refine RUN0 1 [] [(0, .v (.string (bs s))), (4, I ((((10 * n) + y4.toNat) - 48 : Nat) : Int)), (5, I (k : Int))] ?_ rfl ?_
            · as_aux_lemma => kernel_rfl
            refine ENDOPS (OUTN (NEXT (REGION [0, 1, 2] rfl (RUN0 2 [2] [(0, .v (.string (bs s))), (4, I ((((10 * n) + y4.toNat) - 48 : Nat) : Int)), (19, I (wr ((k : Int) + 1)))] ?_ rfl ?_))))
            · as_aux_lemma => kernel_rfl
            refine CAST (d := 19) (vi (wr ((k : Int) + 1))) (vi ((k + 1 : Nat) : Int)) ?_ (vi_cast (by omega) (by omega)) ?_
            · as_aux_lemma => kernel_rfl
            refine RUN0 1 [] [(0, .v (.string (bs s))), (4, I ((((10 * n) + y4.toNat) - 48 : Nat) : Int)), (5, I ((k + 1 : Nat) : Int))] ?_ rfl ?_
            · as_aux_lemma => kernel_rfl
            refine ENDOPS (BACK (k + 1, ys5, ((10 * n) + y4.toNat) - 48) [0, 4, 5] 0 [] _ ⟨hl_y4, hd_y4, hv0.trans (by simp only [digitsGo]; refine (if_neg (by omega)).trans ?_; first | rfl | (congr 1; omega)), (by dsimp only; omega)⟩ (by simp) ?_ rfl rfl rfl)
            · as_aux_lemma => kernel_rfl
      · -- decide ((k : Int) < (s.length : Int)) = false
        have h3 := bh3
        have h3 := of_decide_eq_false h3
        obtain rfl := drop_nil hk (by omega)
        have hp9 := p10_max (k := k) (by omega)
        refine EXIT (PASS trivial (PASS trivial (OUT (NEXT (SEQ (SEQ (REGION [0, 1, 2, 3] rfl (RUN0 1 [1, 2, 3] [(0, .v (.string (bs s))), (4, I (n : Int)), (38, I (n : Int))] ?_ rfl ?_))))))))
        · as_aux_lemma => kernel_rfl
        refine OPC (CALL 27 #[vi (n : Int)] (some 39) ?_ [] [] _ rfl (RV (.string (bs (Lib.itoa (n : Int))))) (fun w hw => sDigits_c w (n : Int) (by first | assumption | exact wr_range _ | (unfold i64R at *; omega) | (simp only [i64R] at *; omega))) (by rintro _ ⟨⟩; exact Nat.le_of_ble_eq_true rfl) ?_)
        · as_aux_lemma => kernel_rfl
        rintro ⟨⟩
        have hr8 := itoa_len (n := (n : Int)) (by first | assumption | exact wr_range _ | (unfold i64R at *; omega) | (simp only [i64R] at *; omega))
        refine RUN0 1 [3] [(4, I (n : Int)), (39, .v (.string (bs (Lib.itoa (n : Int))))), (40, .v (.string (bs s)))] ?_ rfl ?_
        · as_aux_lemma => kernel_rfl
        refine OPC (RUNV (.binOp .neq 9 (.tmp 39) (.tmp 40) 9) 41 4 ?_ (Nat.le_of_ble_eq_true rfl) (.bool (!((Lib.itoa (n : Int)) == s))) (runs_sneq (a := Lib.itoa (n : Int)) (b := s) ?_ ?_) ?_)
        · as_aux_lemma => kernel_rfl
        · as_aux_lemma => kernel_rfl
        · as_aux_lemma => kernel_rfl
        refine ENDOPS (NEXT (IF (!((Lib.itoa (n : Int)) == s)) ?_ (fun bh9 => ?_) (fun bh9 => ?_)))
        · as_aux_lemma => kernel_rfl
        · -- !((Lib.itoa (n : Int)) == s) = true
          have h9 := bh9
          have h9 := notT h9
          have h9 := ne_of_beq_false h9
          refine SEQ (REGION [0, 1] rfl (RUN0 2 [] [(2, I 0), (3, B false)] ?_ rfl ?_))
          · as_aux_lemma => kernel_rfl
          refine ENDOPS (NEXT (RET (PASS trivial (FIN (.tuple #[vi 0, .bool false]) ?_ () ?_ [] ?_))))
          · as_aux_lemma => kernel_rfl
          · (first | (rw [number_bad (by omega)]; rfl) | (rw [number_bad (s := s) (.inr (.inr (hv0.trans (by simp only [digitsGo]; exact if_pos (by omega)))))]; rfl) | (simp only [RV]; rw [number_of (s := s) (n := n) (by omega) (by rw [hv0]; rfl)]; simp [*]))
          · rfl
        · -- !((Lib.itoa (n : Int)) == s) = false
          have h9 := bh9
          have h9 := notF h9
          have h9 := eq_of_beq h9
          refine SKIP (NEXT (SEQ (REGION [0, 1, 2] rfl (RUN0 3 [] [(2, I (n : Int)), (3, B true)] ?_ rfl ?_))))
          · as_aux_lemma => kernel_rfl
          refine ENDOPS (NEXT (RET (FIN (.tuple #[vi (n : Int), .bool true]) ?_ () ?_ [] ?_)))
          · as_aux_lemma => kernel_rfl
          · (first | (rw [number_bad (by omega)]; rfl) | (rw [number_bad (s := s) (.inr (.inr (hv0.trans (by simp only [digitsGo]; exact if_pos (by omega)))))]; rfl) | (simp only [RV]; rw [number_of (s := s) (n := n) (by omega) (by rw [hv0]; rfl)]; simp [*]))
          · rfl

theorem iNumber_c (W : World) (s : List UInt8) (htab : Tab Tryd.prog W) : Spec Tryd.prog W [] 15 #[.string (bs s)] (RV (.tuple #[vi (((number s).getD 0 : Nat) : Int), .bool ((number s).isSome)])) := by
  refine ENTER0 (N := 43) (vs := [.string (bs s)]) Tryd.func15 rfl rfl (Nat.le_of_ble_eq_true rfl) ?_
  refine SEQ (REGION [0, 1] rfl (RUN0 2 [] [(0, .v (.string (bs s)))] ?_ rfl ?_))
  · as_aux_lemma => kernel_rfl
  refine ENDOPS (NEXT (SEQ (SEQ (REGION [0, 1, 2, 3, 4, 5, 6, 7] rfl (RUN0 4 [4, 5, 6, 7] [(0, .v (.string (bs s))), (9, B (decide ((s.length : Int) < 1)))] ?_ rfl ?_)))))
  · as_aux_lemma => kernel_rfl
  refine SPLIT (d := 9) (decide ((s.length : Int) < 1)) ?_ (fun bh1 => ?_) (fun bh1 => ?_)
  · as_aux_lemma => kernel_rfl
  · -- decide ((s.length : Int) < 1) = true
    have h1 := bh1
    have h1 := of_decide_eq_true h1
    refine RUN0 4 [] [(0, .v (.string (bs s))), (13, B true)] ?_ rfl ?_
    · as_aux_lemma => kernel_rfl
    refine ENDOPS (NEXT (IFT ?_ ?_))
    · as_aux_lemma => kernel_rfl
    refine SEQ (REGION [0, 1] rfl (RUN0 2 [] [(2, I 0), (3, B false)] ?_ rfl ?_))
    · as_aux_lemma => kernel_rfl
    refine ENDOPS (NEXT (RET (PASS trivial (FIN (.tuple #[vi 0, .bool false]) ?_ () ?_ [] ?_))))
    · as_aux_lemma => kernel_rfl
    · (first | (rw [number_bad (by omega)]; rfl) | (rw [number_bad (s := s) (.inr (.inr (hv0.trans (by simp only [digitsGo]; exact if_pos (by omega)))))]; rfl) | (simp only [RV]; rw [number_of (s := s) (n := n) (by omega) (by rw [hv0]; rfl)]; simp [*]))
    · rfl
  · -- decide ((s.length : Int) < 1) = false
    have h1 := bh1
    have h1 := of_decide_eq_false h1
    refine RUN0 4 [] [(0, .v (.string (bs s))), (13, B (decide ((s.length : Int) > 6)))] ?_ rfl ?_
    · as_aux_lemma => kernel_rfl
    refine ENDOPS (NEXT (IF (decide ((s.length : Int) > 6)) ?_ (fun bh2 => ?_) (fun bh2 => ?_)))
    · as_aux_lemma => kernel_rfl
    · -- decide ((s.length : Int) > 6) = true
      have h2 := bh2
      have h2 := of_decide_eq_true h2
      refine SEQ (REGION [0, 1] rfl (RUN0 2 [] [(2, I 0), (3, B false)] ?_ rfl ?_))
      · as_aux_lemma => kernel_rfl
      refine ENDOPS (NEXT (RET (PASS trivial (FIN (.tuple #[vi 0, .bool false]) ?_ () ?_ [] ?_))))
      · as_aux_lemma => kernel_rfl
      · (first | (rw [number_bad (by omega)]; rfl) | (rw [number_bad (s := s) (.inr (.inr (hv0.trans (by simp only [digitsGo]; exact if_pos (by omega)))))]; rfl) | (simp only [RV]; rw [number_of (s := s) (n := n) (by omega) (by rw [hv0]; rfl)]; simp [*]))
      · rfl
    · -- decide ((s.length : Int) > 6) = false
      have h2 := bh2
      have h2 := of_decide_eq_false h2
      refine SKIP (NEXT (SEQ (REGION [0] rfl (RUN0 1 [] [(0, .v (.string (bs s))), (4, I 0)] ?_ rfl ?_))))
      · as_aux_lemma => kernel_rfl
      refine ENDOPS (NEXT (SEQ (SEQ (REGION [0] rfl (RUN0 1 [] [(0, .v (.string (bs s))), (4, I 0), (5, I 0)] ?_ rfl ?_)))))
      · as_aux_lemma => kernel_rfl
      refine ENDOPS (NEXT (BLOCK (LOOP (ι := Nat × (List UInt8) × Nat) (fun j => [(0, .v (.string (bs s))), (4, I (j.2.2 : Int)), (5, I (j.1 : Int))]) (fun j => []) (fun j => []) (fun j => j.1 + j.2.1.length = s.length ∧ s.drop j.1 = j.2.1 ∧ digitsGo 0 s = digitsGo j.2.2 j.2.1 ∧ j.2.2 < p10 j.1) (fun j => j.2.1.length) (0, s, 0) [0, 4, 5] ⟨by simp, rfl, rfl, show 0 < p10 0 by decide⟩ ?_ rfl rfl ?_)))
      · as_aux_lemma => kernel_rfl
      rintro ⟨k, ys, n⟩ ⟨hk, hd, hv0, hv1⟩
      dsimp only at hk hd hv0 hv1
      refine SEQ (SEQ (REGION [0, 1, 2, 3] rfl (RUN0 4 [] [(0, .v (.string (bs s))), (4, I (n : Int)), (5, I (k : Int)), (17, B (decide ((k : Int) < (s.length : Int))))] ?_ rfl ?_)))
      · as_aux_lemma => kernel_rfl
      refine ENDOPS (NEXT (IF (decide ((k : Int) < (s.length : Int))) ?_ (fun bh3 => ?_) (fun bh3 => ?_)))
      · as_aux_lemma => kernel_rfl
      · -- decide ((k : Int) < (s.length : Int)) = true
        have h3 := bh3
        have h3 := of_decide_eq_true h3
        obtain ⟨y4, ys5, rfl, hx_y4, hd_y4, hl_y4⟩ := drop_cons hd hk (by omega)
        have hp_y4 := p10_le (k := k) (by omega)
        have := UInt8.toNat_lt y4
        refine SKIP (NEXT (SEQ (BLOCK (SEQ (SEQ (REGION [0, 1, 2, 3, 4, 5, 6, 7, 8, 9] rfl (RUN0 2 [2, 3, 4, 5, 6, 7, 8, 9] [(0, .v (.string (bs s))), (4, I (n : Int)), (5, I (k : Int)), (20, .v (.string (bs s))), (21, I (k : Int))] ?_ rfl ?_)))))))
        · as_aux_lemma => kernel_rfl
        refine OPC (RUNV (.index 9 (.tmp 20) (.tmp 21)) 22 5 ?_ (Nat.le_of_ble_eq_true rfl) (.int .u8 (y4.toNat : Int)) (runs_sidx (s := s) (kd := .i64) (z := (k : Int)) (k := k) ?_ ?_ ?_ (by omega) rfl hx_y4) ?_)
        · as_aux_lemma => kernel_rfl
        · as_aux_lemma => kernel_rfl
        · as_aux_lemma => kernel_rfl
        · as_aux_lemma => kernel_rfl
        refine RUN0 2 [5, 6, 7, 8, 9] [(0, .v (.string (bs s))), (4, I (n : Int)), (5, I (k : Int)), (24, B (decide ((y4.toNat : Int) < 48)))] ?_ rfl ?_
        · as_aux_lemma => kernel_rfl
        refine SPLIT (d := 24) (decide ((y4.toNat : Int) < 48)) ?_ (fun bh6 => ?_) (fun bh6 => ?_)
        · as_aux_lemma => kernel_rfl
        · -- decide ((y4.toNat : Int) < 48) = true
          have h6 := bh6
          have h6 := of_decide_eq_true h6
          refine RUN0 5 [] [(0, .v (.string (bs s))), (4, I (n : Int)), (5, I (k : Int)), (29, B true)] ?_ rfl ?_
          · as_aux_lemma => kernel_rfl
          refine ENDOPS (NEXT (IFT ?_ ?_))
          · as_aux_lemma => kernel_rfl
          refine SEQ (REGION [0, 1] rfl (RUN0 2 [] [(2, I 0), (3, B false)] ?_ rfl ?_))
          · as_aux_lemma => kernel_rfl
          refine ENDOPS (NEXT (RET (PASS trivial (OUTR (PASS trivial (PASS trivial (OUTR (PASS trivial (FIN (.tuple #[vi 0, .bool false]) ?_ () ?_ [] ?_)))))))))
          · as_aux_lemma => kernel_rfl
          · (first | (rw [number_bad (by omega)]; rfl) | (rw [number_bad (s := s) (.inr (.inr (hv0.trans (by simp only [digitsGo]; exact if_pos (by omega)))))]; rfl) | (simp only [RV]; rw [number_of (s := s) (n := n) (by omega) (by rw [hv0]; rfl)]; simp [*]))
          · rfl
        · -- decide ((y4.toNat : Int) < 48) = false
          have h6 := bh6
          have h6 := of_decide_eq_false h6
          refine RUN0 2 [7, 8, 9] [(0, .v (.string (bs s))), (4, I (n : Int)), (5, I (k : Int)), (24, B false), (25, .v (.string (bs s))), (26, I (k : Int))] ?_ rfl ?_
          · as_aux_lemma => kernel_rfl
          refine OPC (RUNV (.index 9 (.tmp 25) (.tmp 26)) 27 5 ?_ (Nat.le_of_ble_eq_true rfl) (.int .u8 (y4.toNat : Int)) (runs_sidx (s := s) (kd := .i64) (z := (k : Int)) (k := k) ?_ ?_ ?_ (by omega) rfl hx_y4) ?_)
          · as_aux_lemma => kernel_rfl
          · as_aux_lemma => kernel_rfl
          · as_aux_lemma => kernel_rfl
          · as_aux_lemma => kernel_rfl
          refine RUN0 2 [] [(0, .v (.string (bs s))), (4, I (n : Int)), (5, I (k : Int)), (29, B (decide ((y4.toNat : Int) > 57)))] ?_ rfl ?_
          · as_aux_lemma => kernel_rfl
          refine ENDOPS (NEXT (IF (decide ((y4.toNat : Int) > 57)) ?_ (fun bh7 => ?_) (fun bh7 => ?_)))
          · as_aux_lemma => kernel_rfl
          · -- decide ((y4.toNat : Int) > 57) = true
            have h7 := bh7
            have h7 := of_decide_eq_true h7
            refine SEQ (REGION [0, 1] rfl (RUN0 2 [] [(2, I 0), (3, B false)] ?_ rfl ?_))
            · as_aux_lemma => kernel_rfl
            refine ENDOPS (NEXT (RET (PASS trivial (OUTR (PASS trivial (PASS trivial (OUTR (PASS trivial (FIN (.tuple #[vi 0, .bool false]) ?_ () ?_ [] ?_)))))))))
            · as_aux_lemma => kernel_rfl
            · (first | (rw [number_bad (by omega)]; rfl) | (rw [number_bad (s := s) (.inr (.inr (hv0.trans (by simp only [digitsGo]; exact if_pos (by omega)))))]; rfl) | (simp only [RV]; rw [number_of (s := s) (n := n) (by omega) (by rw [hv0]; rfl)]; simp [*]))
            · rfl
          · -- decide ((y4.toNat : Int) > 57) = false
            have h7 := bh7
            have h7 := of_decide_eq_false h7
            refine SKIP (NEXT (REGION [0, 1, 2, 3, 4, 5, 6, 7, 8] rfl (RUN0 2 [2, 3, 4, 5, 6, 7, 8] [(0, .v (.string (bs s))), (5, I (k : Int)), (31, I (wr (10 * (n : Int))))] ?_ rfl ?_)))
            · as_aux_lemma => kernel_rfl
            refine CAST (d := 31) (vi (wr (10 * (n : Int)))) (vi ((10 * n : Nat) : Int)) ?_ (vi_cast (by omega) (by omega)) ?_
            · as_aux_lemma => kernel_rfl
            refine RUN0 2 [4, 5, 6, 7, 8] [(0, .v (.string (bs s))), (5, I (k : Int)), (31, I ((10 * n : Nat) : Int)), (32, .v (.string (bs s))), (33, I (k : Int))] ?_ rfl ?_
            · as_aux_lemma => kernel_rfl
            refine OPC (RUNV (.index 9 (.tmp 32) (.tmp 33)) 34 5 ?_ (Nat.le_of_ble_eq_true rfl) (.int .u8 (y4.toNat : Int)) (runs_sidx (s := s) (kd := .i64) (z := (k : Int)) (k := k) ?_ ?_ ?_ (by omega) rfl hx_y4) ?_)
            · as_aux_lemma => kernel_rfl
            · as_aux_lemma => kernel_rfl
            · as_aux_lemma => kernel_rfl
            · as_aux_lemma => kernel_rfl
            refine RUN0 1 [6, 7, 8] [(0, .v (.string (bs s))), (5, I (k : Int)), (31, I ((10 * n : Nat) : Int)), (35, .v (.int .u8 (IntKind.wrap .u8 ((y4.toNat : Int) - 48))))] ?_ rfl ?_
            · as_aux_lemma => kernel_rfl
            refine CAST (d := 35) (.int .u8 (IntKind.wrap .u8 ((y4.toNat : Int) - 48))) (.int .u8 ((y4.toNat - 48 : Nat) : Int)) ?_ (v8sub48 (by omega)) ?_
            · as_aux_lemma => kernel_rfl
            refine RUN0 1 [7, 8] [(0, .v (.string (bs s))), (5, I (k : Int)), (31, I ((10 * n : Nat) : Int)), (36, I (IntKind.wrap .i64 ((y4.toNat - 48 : Nat) : Int)))] ?_ rfl ?_
            · as_aux_lemma => kernel_rfl
            refine CAST (d := 36) (vi (IntKind.wrap .i64 ((y4.toNat - 48 : Nat) : Int))) (vi ((y4.toNat - 48 : Nat) : Int)) ?_ (vi_cast (by omega) (by omega)) ?_
            · as_aux_lemma => kernel_rfl
            refine RUN0 1 [8] [(0, .v (.string (bs s))), (5, I (k : Int)), (37, I (wr (((10 * n : Nat) : Int) + ((y4.toNat - 48 : Nat) : Int))))] ?_ rfl ?_
            · as_aux_lemma => kernel_rfl
            refine CAST (d := 37) (vi (wr (((10 * n : Nat) : Int) + ((y4.toNat - 48 : Nat) : Int)))) (vi (((10 * n) + (y4.toNat - 48) : Nat) : Int)) ?_ (vi_cast (by omega) (by omega)) ?_
            · as_aux_lemma => kernel_rfl
            refine RUN0 1 [] [(0, .v (.string (bs s))), (4, I (((10 * n) + (y4.toNat - 48) : Nat) : Int)), (5, I (k : Int))] ?_ rfl ?_
            · as_aux_lemma => kernel_rfl
            refine ENDOPS (OUTN (NEXT (REGION [0, 1, 2] rfl (RUN0 2 [2] [(0, .v (.string (bs s))), (4, I (((10 * n) + (y4.toNat - 48) : Nat) : Int)), (19, I (wr ((k : Int) + 1)))] ?_ rfl ?_))))
            · as_aux_lemma => kernel_rfl
            refine CAST (d := 19) (vi (wr ((k : Int) + 1))) (vi ((k + 1 : Nat) : Int)) ?_ (vi_cast (by omega) (by omega)) ?_
            · as_aux_lemma => kernel_rfl
            refine RUN0 1 [] [(0, .v (.string (bs s))), (4, I (((10 * n) + (y4.toNat - 48) : Nat) : Int)), (5, I ((k + 1 : Nat) : Int))] ?_ rfl ?_
            · as_aux_lemma => kernel_rfl
            refine ENDOPS (BACK (k + 1, ys5, (10 * n) + (y4.toNat - 48)) [0, 4, 5] 0 [] _ ⟨hl_y4, hd_y4, hv0.trans (by simp only [digitsGo]; refine (if_neg (by omega)).trans ?_; first | rfl | (congr 1; omega)), (by dsimp only; omega)⟩ (by simp) ?_ rfl rfl rfl)
            · as_aux_lemma => kernel_rfl
      · -- decide ((k : Int) < (s.length : Int)) = false
        have h3 := bh3
        have h3 := of_decide_eq_false h3
        obtain rfl := drop_nil hk (by omega)
        have hp9 := p10_max (k := k) (by omega)
        refine EXIT (PASS trivial (PASS trivial (OUT (NEXT (SEQ (SEQ (REGION [0, 1, 2, 3] rfl (RUN0 1 [1, 2, 3] [(0, .v (.string (bs s))), (4, I (n : Int)), (38, I (n : Int))] ?_ rfl ?_))))))))
        · as_aux_lemma => kernel_rfl
        refine OPC (CALL 31 #[vi (n : Int)] (some 39) ?_ [] [] _ rfl (RV (.string (bs (Lib.itoa (n : Int))))) (fun w hw => iDigits_c w (n : Int) (by first | assumption | exact wr_range _ | (unfold i64R at *; omega) | (simp only [i64R] at *; omega)) (htab.fr hw.fr)) (by rintro _ ⟨⟩; exact Nat.le_of_ble_eq_true rfl) ?_)
        · as_aux_lemma => kernel_rfl
        rintro ⟨⟩
        have hr8 := itoa_len (n := (n : Int)) (by first | assumption | exact wr_range _ | (unfold i64R at *; omega) | (simp only [i64R] at *; omega))
        refine RUN0 1 [3] [(4, I (n : Int)), (39, .v (.string (bs (Lib.itoa (n : Int))))), (40, .v (.string (bs s)))] ?_ rfl ?_
        · as_aux_lemma => kernel_rfl
        refine OPC (RUNV (.binOp .neq 9 (.tmp 39) (.tmp 40) 9) 41 4 ?_ (Nat.le_of_ble_eq_true rfl) (.bool (!((Lib.itoa (n : Int)) == s))) (runs_sneq (a := Lib.itoa (n : Int)) (b := s) ?_ ?_) ?_)
        · as_aux_lemma => kernel_rfl
        · as_aux_lemma => kernel_rfl
        · as_aux_lemma => kernel_rfl
        refine ENDOPS (NEXT (IF (!((Lib.itoa (n : Int)) == s)) ?_ (fun bh9 => ?_) (fun bh9 => ?_)))
        · as_aux_lemma => kernel_rfl
        · -- !((Lib.itoa (n : Int)) == s) = true
          have h9 := bh9
          have h9 := notT h9
          have h9 := ne_of_beq_false h9
          refine SEQ (REGION [0, 1] rfl (RUN0 2 [] [(2, I 0), (3, B false)] ?_ rfl ?_))
          · as_aux_lemma => kernel_rfl
          refine ENDOPS (NEXT (RET (PASS trivial (FIN (.tuple #[vi 0, .bool false]) ?_ () ?_ [] ?_))))
          · as_aux_lemma => kernel_rfl
          · (first | (rw [number_bad (by omega)]; rfl) | (rw [number_bad (s := s) (.inr (.inr (hv0.trans (by simp only [digitsGo]; exact if_pos (by omega)))))]; rfl) | (simp only [RV]; rw [number_of (s := s) (n := n) (by omega) (by rw [hv0]; rfl)]; simp [*]))
          · rfl
        · -- !((Lib.itoa (n : Int)) == s) = false
          have h9 := bh9
          have h9 := notF h9
          have h9 := eq_of_beq h9
          refine SKIP (NEXT (SEQ (REGION [0, 1, 2] rfl (RUN0 3 [] [(2, I (n : Int)), (3, B true)] ?_ rfl ?_))))
          · as_aux_lemma => kernel_rfl
          refine ENDOPS (NEXT (RET (FIN (.tuple #[vi (n : Int), .bool true]) ?_ () ?_ [] ?_)))
          · as_aux_lemma => kernel_rfl
          · (first | (rw [number_bad (by omega)]; rfl) | (rw [number_bad (s := s) (.inr (.inr (hv0.trans (by simp only [digitsGo]; exact if_pos (by omega)))))]; rfl) | (simp only [RV]; rw [number_of (s := s) (n := n) (by omega) (by rw [hv0]; rfl)]; simp [*]))
          · rfl

theorem split_c (W : World) (s : List UInt8) (sep : List UInt8) (h1 : sep.length = 1) (hl : s.length ≤ 1048576) (hmx : MaxL Tryd.prog W) : Spec Tryd.prog W [] 32 #[.string (bs s), .string (bs sep)] (⟨HH, fun p => .slice p.1 ((parts s ((sep).headD 0)).length) p.2, fun p => [slA 9 strL (.slice p.1 (parts s ((sep).headD 0)).length p.2) (parts s ((sep).headD 0))]⟩) := Spec.split h1 hl hmx (fun s sep m hs hm h1 => Tryd.strings_Split s sep m W hs hm h1)

theorem iParts_c (W : World) (s : List UInt8) (c : UInt8) (hl : s.length ≤ 1048576) (hmx : MaxL Tryd.prog W) : Spec Tryd.prog W [] 16 #[.string (bs s), .int .u8 (c.toNat : Int)] (⟨HH, fun p => .slice p.1 ((parts s c).length) p.2, fun p => [slA 9 strL (.slice p.1 (parts s c).length p.2) (parts s c)]⟩) := by
  refine ENTER0 (N := 10) (vs := [.string (bs s), .int .u8 (c.toNat : Int)]) Tryd.func16 rfl rfl (Nat.le_of_ble_eq_true rfl) ?_
  refine SEQ (REGION [0] rfl (RUN0 1 [] [(0, .v (.string (bs s))), (1, .v (.int .u8 (c.toNat : Int)))] ?_ rfl ?_))
  · as_aux_lemma => kernel_rfl
  refine ENDOPS (NEXT (SEQ (REGION [0, 1, 2, 3, 4, 5] rfl (RUN0 2 [2, 3, 4, 5] [(5, .v (.string (bs s))), (6, .v (.int .u8 (c.toNat : Int)))] ?_ rfl ?_))))
  · as_aux_lemma => kernel_rfl
  refine OPC (BUILDS 51 1 #[(0, .tmp 6)] 7 51 ?_ (Nat.le_of_ble_eq_true rfl) 5 [.int .u8 (c.toNat : Int)] ?_ byteL ([c] : List UInt8) rfl (by simp only [maxLen]; omega) [] [] _ rfl (flatRep rfl) (fun a1 ha2 => ?_))
  · as_aux_lemma => kernel_rfl
  · as_aux_lemma => kernel_rfl
  refine FACT (1 = ([c] : List UInt8).length) (fun w hw => (SlO.lenE (hw.own 0 rfl)).1) (fun hln3 => ?_)
  refine OPC (RUNV (.convert 51 9 (.tmp 7)) 8 9 ?_ (Nat.le_of_ble_eq_true rfl) (.string (bs ([c] : List UInt8))) (runs_bstr (a := a1) (n := 1) (c := 1) (xs := ([c] : List UInt8)) (e := 5) ?_ ?_ ?_ ?_ hln3.symm (fun w hw => (Rd.own (hw.own 0 rfl)))) ?_)
  · as_aux_lemma => kernel_rfl
  · as_aux_lemma => kernel_rfl
  · as_aux_lemma => kernel_rfl
  · as_aux_lemma => kernel_rfl
  · as_aux_lemma => kernel_rfl
  refine OPC (CALL 32 #[.string (bs s), .string (bs ([c] : List UInt8))] (some 9) ?_ [] [] _ rfl (⟨HH, fun p => .slice p.1 ((parts s ((([c] : List UInt8)).headD 0)).length) p.2, fun p => [slA 9 strL (.slice p.1 (parts s ((([c] : List UInt8)).headD 0)).length p.2) (parts s ((([c] : List UInt8)).headD 0))]⟩) (fun w hw => split_c w s ([c] : List UInt8) (by rfl) (by first | assumption | omega) (hmx.fr hw.fr)) (by rintro _ ⟨⟩; exact Nat.le_of_ble_eq_true rfl) ?_)
  · as_aux_lemma => kernel_rfl
  rintro ⟨a4, c5⟩
  refine RUN0 1 [] [(4, .v (.slice a4 ((parts s ((([c] : List UInt8)).headD 0)).length) c5))] ?_ rfl ?_
  · as_aux_lemma => kernel_rfl
  refine ENDOPS (NEXT (RET (FIN (.slice a4 ((parts s ((([c] : List UInt8)).headD 0)).length) c5) ?_ (a4, c5) ?_ [1] ?_)))
  · as_aux_lemma => kernel_rfl
  · rfl
  · rfl

theorem sParts_c (W : World) (s : List UInt8) (c : UInt8) (hl : s.length ≤ 1048576) : Spec Tryd.prog W [] 9 #[.string (bs s), .int .u8 (c.toNat : Int)] (⟨HH, fun p => .slice p.1 ((parts s c).length) p.2, fun p => [slA 9 strL (.slice p.1 (parts s c).length p.2) (parts s c)]⟩) := by
  refine ENTER0 (N := 36) (vs := [.string (bs s), .int .u8 (c.toNat : Int)]) Tryd.func9 rfl rfl (Nat.le_of_ble_eq_true rfl) ?_
  refine SEQ (REGION [0] rfl (RUN0 1 [] [(0, .v (.string (bs s))), (1, .v (.int .u8 (c.toNat : Int)))] ?_ rfl ?_))
  · as_aux_lemma => kernel_rfl
  refine ENDOPS (NEXT (SEQ (REGION [0, 1] rfl (OPC (BUILDS 32 0 #[] 8 32 ?_ (Nat.le_of_ble_eq_true rfl) 9 [] ?_ strL [] rfl (by simp only [maxLen]; omega) [] [] _ rfl (flatRep rfl) (fun a1 ha2 => ?_))))))
  · as_aux_lemma => kernel_rfl
  · as_aux_lemma => kernel_rfl
  refine RUN0 1 [] [(0, .v (.string (bs s))), (1, .v (.int .u8 (c.toNat : Int))), (5, .v (.slice a1 0 0))] ?_ rfl ?_
  · as_aux_lemma => kernel_rfl
  refine ENDOPS (NEXT (SEQ (REGION [0] rfl (RUN0 1 [] [(0, .v (.string (bs s))), (1, .v (.int .u8 (c.toNat : Int))), (5, .v (.slice a1 0 0)), (6, I 0)] ?_ rfl ?_))))
  · as_aux_lemma => kernel_rfl
  refine ENDOPS (NEXT (SEQ (SEQ (REGION [0] rfl (RUN0 1 [] [(0, .v (.string (bs s))), (1, .v (.int .u8 (c.toNat : Int))), (5, .v (.slice a1 0 0)), (6, I 0), (7, I 0)] ?_ rfl ?_)))))
  · as_aux_lemma => kernel_rfl
  refine ENDOPS (NEXT (BLOCK (LOOP (ι := Nat × Nat × (Option Addr) × Nat × (List (List UInt8))) (fun j => [(0, .v (.string (bs s))), (1, .v (.int .u8 (c.toNat : Int))), (5, .v (.slice j.2.2.1 j.2.2.2.2.length j.2.2.2.1)), (6, I (j.2.1 : Int)), (7, I (j.1 : Int))]) (fun j => []) (fun j => [slA 9 strL (.slice j.2.2.1 j.2.2.2.2.length j.2.2.2.1) j.2.2.2.2]) (fun j => ((j.1 ≤ s.length ∧ j.2.1 ≤ j.1 ∧ parts s c = j.2.2.2.2 ++ partsGo c ((s.drop j.2.1).take (j.1 - j.2.1)) (s.drop j.1)) ∨ (j.1 = s.length + 1 ∧ parts s c = j.2.2.2.2)) ∧ j.2.2.2.2.length ≤ j.1 ∧ j.1 ≤ s.length + 1) (fun j => s.length + 1 - j.1) (0, 0, a1, 0, []) [0, 1, 5, 6, 7] ⟨.inl ⟨by dsimp only; omega, by dsimp only; omega, by simp [parts]⟩, by simp, by dsimp only; omega⟩ ?_ rfl rfl ?_)))
  · as_aux_lemma => kernel_rfl
  rintro ⟨i, fr, oa, oc, out⟩ ⟨hv, hol, hil⟩
  dsimp only at hv hol hil
  refine SEQ (SEQ (REGION [0, 1, 2, 3] rfl (RUN0 4 [] [(0, .v (.string (bs s))), (1, .v (.int .u8 (c.toNat : Int))), (5, .v (.slice oa out.length oc)), (6, I (fr : Int)), (7, I (i : Int)), (12, B (decide ((i : Int) ≤ (s.length : Int))))] ?_ rfl ?_)))
  · as_aux_lemma => kernel_rfl
  refine ENDOPS (NEXT (IF (decide ((i : Int) ≤ (s.length : Int))) ?_ (fun bh3 => ?_) (fun bh3 => ?_)))
  · as_aux_lemma => kernel_rfl
  · -- decide ((i : Int) ≤ (s.length : Int)) = true
    have h3 := bh3
    have h3 := of_decide_eq_true h3
    obtain ⟨hv2, hv3, hv4⟩ := hv.resolve_right (fun e => by have := e.1; omega)
    refine SKIP (NEXT (SEQ (BLOCK (SEQ (REGION [0, 1, 2, 3, 4, 5, 6, 7, 8, 9, 10] rfl (RUN0 5 [5, 6, 7, 8, 9, 10] [(0, .v (.string (bs s))), (1, .v (.int .u8 (c.toNat : Int))), (5, .v (.slice oa out.length oc)), (6, I (fr : Int)), (7, I (i : Int)), (19, B ((i : Int) == (s.length : Int)))] ?_ rfl ?_))))))
    · as_aux_lemma => kernel_rfl
    refine SPLIT (d := 19) ((i : Int) == (s.length : Int)) ?_ (fun bh4 => ?_) (fun bh4 => ?_)
    · as_aux_lemma => kernel_rfl
    · -- (i : Int) == (s.length : Int) = true
      have h4 := bh4
      have h4 := eq_of_beq h4
      refine RUN0 6 [] [(0, .v (.string (bs s))), (1, .v (.int .u8 (c.toNat : Int))), (5, .v (.slice oa out.length oc)), (6, I (fr : Int)), (7, I (i : Int)), (25, B true)] ?_ rfl ?_
      · as_aux_lemma => kernel_rfl
      refine ENDOPS (NEXT (IFT ?_ ?_))
      · as_aux_lemma => kernel_rfl
      refine SEQ (REGION [0, 1, 2, 3, 4, 5, 6, 7] rfl (RUN0 4 [4, 5, 6, 7] [(0, .v (.string (bs s))), (1, .v (.int .u8 (c.toNat : Int))), (7, I (i : Int)), (26, .v (.slice oa out.length oc)), (27, .v (.string (bs s))), (28, I (fr : Int)), (29, I (i : Int))] ?_ rfl ?_))
      · as_aux_lemma => kernel_rfl
      refine OPC (RUNV (.slice 9 (.tmp 27) (some (.tmp 28)) (some (.tmp 29)) none) 30 9 ?_ (Nat.le_of_ble_eq_true rfl) (.string (bs ((s.drop fr).take (i - fr)))) (runs_sub (s := s) (kl := .i64) (kh := .i64) (i := (fr : Int)) (j := (i : Int)) ?_ ?_ ?_ ?_ (by first | omega | (simp only [List.length_append, List.length_cons, List.length_nil, List.length_take, List.length_drop] at *; omega)) (by first | omega | (simp only [List.length_append, List.length_cons, List.length_nil, List.length_take, List.length_drop] at *; omega)) (by first | omega | (simp only [List.length_append, List.length_cons, List.length_nil, List.length_take, List.length_drop] at *; omega))) ?_)
      · as_aux_lemma => kernel_rfl
      · as_aux_lemma => kernel_rfl
      · as_aux_lemma => kernel_rfl
      · as_aux_lemma => kernel_rfl
      · as_aux_lemma => kernel_rfl
      refine OPC (BUILDS 32 1 #[(0, .tmp 30)] 31 32 ?_ (Nat.le_of_ble_eq_true rfl) 9 [.string (bs ((s.drop fr).take (i - fr)))] ?_ strL ([(s.drop fr).take (i - fr)] : List (List UInt8)) rfl (by simp only [maxLen]; omega) [] [] _ rfl (flatRep rfl) (fun a5 ha6 => ?_))
      · as_aux_lemma => kernel_rfl
      · as_aux_lemma => kernel_rfl
      refine OPC (APPENDO 32 (.tmp 26) (.tmp 31) 32 32 ?_ (Nat.le_of_ble_eq_true rfl) (.slice oa out.length oc) a5 1 1 ?_ ?_ ha6 9 ?_ strL (.string (bs [])) 16 ?_ rfl (by decide) 0 0 out ([(s.drop fr).take (i - fr)] : List (List UInt8)) _ rfl rfl (by first | omega | (simp only [List.length_append, List.length_cons, List.length_nil, List.length_take, List.length_drop] at *; omega)) (by simp only [maxLen]; first | omega | (simp only [List.length_append, List.length_cons, List.length_nil, List.length_take, List.length_drop] at *; omega)) (fun a7 c8 hn9 => ?_))
      · as_aux_lemma => kernel_rfl
      · as_aux_lemma => kernel_rfl
      · as_aux_lemma => kernel_rfl
      · as_aux_lemma => kernel_rfl
      · as_aux_lemma => kernel_rfl
      refine RUN0 1 [] [(0, .v (.string (bs s))), (1, .v (.int .u8 (c.toNat : Int))), (5, .v (.slice a7 ((out ++ ([(s.drop fr).take (i - fr)] : List (List UInt8))).length) c8)), (7, I (i : Int))] ?_ rfl ?_
      · as_aux_lemma => kernel_rfl
      refine ENDOPS (NEXT (REGION [0, 1, 2] rfl (RUN0 2 [2] [(0, .v (.string (bs s))), (1, .v (.int .u8 (c.toNat : Int))), (5, .v (.slice a7 ((out ++ ([(s.drop fr).take (i - fr)] : List (List UInt8))).length) c8)), (7, I (i : Int)), (34, I (wr ((i : Int) + 1)))] ?_ rfl ?_)))
      · as_aux_lemma => kernel_rfl
      refine CAST (d := 34) (vi (wr ((i : Int) + 1))) (vi ((i + 1 : Nat) : Int)) ?_ (vi_cast (by omega) (by omega)) ?_
      · as_aux_lemma => kernel_rfl
      refine RUN0 1 [] [(0, .v (.string (bs s))), (1, .v (.int .u8 (c.toNat : Int))), (5, .v (.slice a7 ((out ++ ([(s.drop fr).take (i - fr)] : List (List UInt8))).length) c8)), (6, I ((i + 1 : Nat) : Int)), (7, I (i : Int))] ?_ rfl ?_
      · as_aux_lemma => kernel_rfl
      refine ENDOPS (OUTN (NEXT (REGION [0, 1, 2] rfl (RUN0 2 [2] [(0, .v (.string (bs s))), (1, .v (.int .u8 (c.toNat : Int))), (5, .v (.slice a7 ((out ++ ([(s.drop fr).take (i - fr)] : List (List UInt8))).length) c8)), (6, I ((i + 1 : Nat) : Int)), (14, I (wr ((i : Int) + 1)))] ?_ rfl ?_))))
      · as_aux_lemma => kernel_rfl
      refine CAST (d := 14) (vi (wr ((i : Int) + 1))) (vi ((i + 1 : Nat) : Int)) ?_ (vi_cast (by omega) (by omega)) ?_
      · as_aux_lemma => kernel_rfl
      refine RUN0 1 [] [(0, .v (.string (bs s))), (1, .v (.int .u8 (c.toNat : Int))), (5, .v (.slice a7 ((out ++ ([(s.drop fr).take (i - fr)] : List (List UInt8))).length) c8)), (6, I ((i + 1 : Nat) : Int)), (7, I ((i + 1 : Nat) : Int))] ?_ rfl ?_
      · as_aux_lemma => kernel_rfl
      refine ENDOPS (BACK (i + 1, i + 1, a7, c8, out ++ ([(s.drop fr).take (i - fr)] : List (List UInt8))) [0, 1, 5, 6, 7] 0 [0] _ ⟨by first | exact parts_last _ hv3 hv4 (by omega) | exact parts_hit hv3 hv4 (by assumption) (by assumption) | exact parts_step hv3 hv4 (by assumption) (by assumption), by simp only [List.length_append, List.length_cons, List.length_nil]; omega, by dsimp only; omega⟩ (by dsimp only; omega) ?_ rfl rfl rfl)
      · as_aux_lemma => kernel_rfl
    · -- (i : Int) == (s.length : Int) = false
      have h4 := bh4
      have h4 := ne_of_beq_false h4
      refine RUN0 2 [7, 8, 9, 10] [(0, .v (.string (bs s))), (1, .v (.int .u8 (c.toNat : Int))), (5, .v (.slice oa out.length oc)), (6, I (fr : Int)), (7, I (i : Int)), (19, B false), (20, .v (.string (bs s))), (21, I (i : Int))] ?_ rfl ?_
      · as_aux_lemma => kernel_rfl
      obtain ⟨x10, hx11⟩ : ∃ y, s[i]? = some y := ⟨_, List.getElem?_eq_getElem (by first | omega | (simp only [List.length_append, List.length_cons, List.length_nil, List.length_take, List.length_drop] at *; omega))⟩
      refine OPC (RUNV (.index 9 (.tmp 20) (.tmp 21)) 22 5 ?_ (Nat.le_of_ble_eq_true rfl) (.int .u8 (x10.toNat : Int)) (runs_sidx (s := s) (kd := .i64) (z := (i : Int)) (k := i) ?_ ?_ ?_ (by omega) rfl hx11) ?_)
      · as_aux_lemma => kernel_rfl
      · as_aux_lemma => kernel_rfl
      · as_aux_lemma => kernel_rfl
      · as_aux_lemma => kernel_rfl
      refine RUN0 3 [] [(0, .v (.string (bs s))), (1, .v (.int .u8 (c.toNat : Int))), (5, .v (.slice oa out.length oc)), (6, I (fr : Int)), (7, I (i : Int)), (25, B ((x10.toNat : Int) == (c.toNat : Int)))] ?_ rfl ?_
      · as_aux_lemma => kernel_rfl
      refine ENDOPS (NEXT (IF ((x10.toNat : Int) == (c.toNat : Int)) ?_ (fun bh12 => ?_) (fun bh12 => ?_)))
      · as_aux_lemma => kernel_rfl
      · -- (x10.toNat : Int) == (c.toNat : Int) = true
        have h12 := bh12
        have h12 := eq_of_beq h12
        refine SEQ (REGION [0, 1, 2, 3, 4, 5, 6, 7] rfl (RUN0 4 [4, 5, 6, 7] [(0, .v (.string (bs s))), (1, .v (.int .u8 (c.toNat : Int))), (7, I (i : Int)), (26, .v (.slice oa out.length oc)), (27, .v (.string (bs s))), (28, I (fr : Int)), (29, I (i : Int))] ?_ rfl ?_))
        · as_aux_lemma => kernel_rfl
        refine OPC (RUNV (.slice 9 (.tmp 27) (some (.tmp 28)) (some (.tmp 29)) none) 30 9 ?_ (Nat.le_of_ble_eq_true rfl) (.string (bs ((s.drop fr).take (i - fr)))) (runs_sub (s := s) (kl := .i64) (kh := .i64) (i := (fr : Int)) (j := (i : Int)) ?_ ?_ ?_ ?_ (by first | omega | (simp only [List.length_append, List.length_cons, List.length_nil, List.length_take, List.length_drop] at *; omega)) (by first | omega | (simp only [List.length_append, List.length_cons, List.length_nil, List.length_take, List.length_drop] at *; omega)) (by first | omega | (simp only [List.length_append, List.length_cons, List.length_nil, List.length_take, List.length_drop] at *; omega))) ?_)
        · as_aux_lemma => kernel_rfl
        · as_aux_lemma => kernel_rfl
        · as_aux_lemma => kernel_rfl
        · as_aux_lemma => kernel_rfl
        · as_aux_lemma => kernel_rfl
        refine OPC (BUILDS 32 1 #[(0, .tmp 30)] 31 32 ?_ (Nat.le_of_ble_eq_true rfl) 9 [.string (bs ((s.drop fr).take (i - fr)))] ?_ strL ([(s.drop fr).take (i - fr)] : List (List UInt8)) rfl (by simp only [maxLen]; omega) [] [] _ rfl (flatRep rfl) (fun a13 ha14 => ?_))
        · as_aux_lemma => kernel_rfl
        · as_aux_lemma => kernel_rfl
        refine OPC (APPENDO 32 (.tmp 26) (.tmp 31) 32 32 ?_ (Nat.le_of_ble_eq_true rfl) (.slice oa out.length oc) a13 1 1 ?_ ?_ ha14 9 ?_ strL (.string (bs [])) 16 ?_ rfl (by decide) 0 0 out ([(s.drop fr).take (i - fr)] : List (List UInt8)) _ rfl rfl (by first | omega | (simp only [List.length_append, List.length_cons, List.length_nil, List.length_take, List.length_drop] at *; omega)) (by simp only [maxLen]; first | omega | (simp only [List.length_append, List.length_cons, List.length_nil, List.length_take, List.length_drop] at *; omega)) (fun a15 c16 hn17 => ?_))
        · as_aux_lemma => kernel_rfl
        · as_aux_lemma => kernel_rfl
        · as_aux_lemma => kernel_rfl
        · as_aux_lemma => kernel_rfl
        · as_aux_lemma => kernel_rfl
        refine RUN0 1 [] [(0, .v (.string (bs s))), (1, .v (.int .u8 (c.toNat : Int))), (5, .v (.slice a15 ((out ++ ([(s.drop fr).take (i - fr)] : List (List UInt8))).length) c16)), (7, I (i : Int))] ?_ rfl ?_
        · as_aux_lemma => kernel_rfl
        refine ENDOPS (NEXT (REGION [0, 1, 2] rfl (RUN0 2 [2] [(0, .v (.string (bs s))), (1, .v (.int .u8 (c.toNat : Int))), (5, .v (.slice a15 ((out ++ ([(s.drop fr).take (i - fr)] : List (List UInt8))).length) c16)), (7, I (i : Int)), (34, I (wr ((i : Int) + 1)))] ?_ rfl ?_)))
        · as_aux_lemma => kernel_rfl
        refine CAST (d := 34) (vi (wr ((i : Int) + 1))) (vi ((i + 1 : Nat) : Int)) ?_ (vi_cast (by omega) (by omega)) ?_
        · as_aux_lemma => kernel_rfl
        refine RUN0 1 [] [(0, .v (.string (bs s))), (1, .v (.int .u8 (c.toNat : Int))), (5, .v (.slice a15 ((out ++ ([(s.drop fr).take (i - fr)] : List (List UInt8))).length) c16)), (6, I ((i + 1 : Nat) : Int)), (7, I (i : Int))] ?_ rfl ?_
        · as_aux_lemma => kernel_rfl
        refine ENDOPS (OUTN (NEXT (REGION [0, 1, 2] rfl (RUN0 2 [2] [(0, .v (.string (bs s))), (1, .v (.int .u8 (c.toNat : Int))), (5, .v (.slice a15 ((out ++ ([(s.drop fr).take (i - fr)] : List (List UInt8))).length) c16)), (6, I ((i + 1 : Nat) : Int)), (14, I (wr ((i : Int) + 1)))] ?_ rfl ?_))))
        · as_aux_lemma => kernel_rfl
        refine CAST (d := 14) (vi (wr ((i : Int) + 1))) (vi ((i + 1 : Nat) : Int)) ?_ (vi_cast (by omega) (by omega)) ?_
        · as_aux_lemma => kernel_rfl
        refine RUN0 1 [] [(0, .v (.string (bs s))), (1, .v (.int .u8 (c.toNat : Int))), (5, .v (.slice a15 ((out ++ ([(s.drop fr).take (i - fr)] : List (List UInt8))).length) c16)), (6, I ((i + 1 : Nat) : Int)), (7, I ((i + 1 : Nat) : Int))] ?_ rfl ?_
        · as_aux_lemma => kernel_rfl
        refine ENDOPS (BACK (i + 1, i + 1, a15, c16, out ++ ([(s.drop fr).take (i - fr)] : List (List UInt8))) [0, 1, 5, 6, 7] 0 [0] _ ⟨by first | exact parts_last _ hv3 hv4 (by omega) | exact parts_hit hv3 hv4 (by assumption) (by assumption) | exact parts_step hv3 hv4 (by assumption) (by assumption), by simp only [List.length_append, List.length_cons, List.length_nil]; omega, by dsimp only; omega⟩ (by dsimp only; omega) ?_ rfl rfl rfl)
        · as_aux_lemma => kernel_rfl
      · -- (x10.toNat : Int) == (c.toNat : Int) = false
        have h12 := bh12
        have h12 := ne_of_beq_false h12
        refine SKIP (OUTN (NEXT (REGION [0, 1, 2] rfl (RUN0 2 [2] [(0, .v (.string (bs s))), (1, .v (.int .u8 (c.toNat : Int))), (5, .v (.slice oa out.length oc)), (6, I (fr : Int)), (14, I (wr ((i : Int) + 1)))] ?_ rfl ?_))))
        · as_aux_lemma => kernel_rfl
        refine CAST (d := 14) (vi (wr ((i : Int) + 1))) (vi ((i + 1 : Nat) : Int)) ?_ (vi_cast (by omega) (by omega)) ?_
        · as_aux_lemma => kernel_rfl
        refine RUN0 1 [] [(0, .v (.string (bs s))), (1, .v (.int .u8 (c.toNat : Int))), (5, .v (.slice oa out.length oc)), (6, I (fr : Int)), (7, I ((i + 1 : Nat) : Int))] ?_ rfl ?_
        · as_aux_lemma => kernel_rfl
        refine ENDOPS (BACK (i + 1, fr, oa, oc, out) [0, 1, 5, 6, 7] 0 [0] _ ⟨by first | exact parts_last _ hv3 hv4 (by omega) | exact parts_hit hv3 hv4 (by assumption) (by assumption) | exact parts_step hv3 hv4 (by assumption) (by assumption), by simp only [List.length_append, List.length_cons, List.length_nil]; omega, by dsimp only; omega⟩ (by dsimp only; omega) ?_ rfl rfl rfl)
        · as_aux_lemma => kernel_rfl
  · -- decide ((i : Int) ≤ (s.length : Int)) = false
    have h3 := bh3
    have h3 := of_decide_eq_false h3
    have hv5 := (hv.resolve_left (fun e => by have := e.1; omega)).2
    refine EXIT (PASS trivial (PASS trivial (OUT (NEXT (SEQ (REGION [0, 1] rfl (RUN0 2 [] [(4, .v (.slice oa out.length oc))] ?_ rfl ?_)))))))
    · as_aux_lemma => kernel_rfl
    refine ENDOPS (NEXT (RET ?_))
    have e18 : out = parts s c := by exact hv5.symm
    refine FIN (.slice oa out.length oc) ?_ (oa, oc) ?_ [0] ?_
    · as_aux_lemma => kernel_rfl
    · exact congrArg (fun z : List (List UInt8) => Value.slice oa z.length oc) e18
    · exact congrArg (fun z : List (List UInt8) => some [slA 9 strL (.slice oa z.length oc) z]) e18

theorem l29Nums_c (W : World) (words : List (List UInt8)) (words_a : Option Addr) (words_c : Nat) (hwords : Rd strL W words_a words) (hb : words.length ≤ 1048577) : Spec Tryd.prog W [] 11 #[.slice words_a words.length words_c] (⟨HH, fun p => .tuple #[.slice p.1 (((readArgs words).getD []).length) p.2, .bool ((readArgs words).isSome)], fun p => [slA 3 intL (.slice p.1 ((readArgs words).getD []).length p.2) ((readArgs words).getD [])]⟩) := by
  refine ENTER0 (N := 36) (vs := [.slice words_a words.length words_c]) Tryd.func11 rfl rfl (Nat.le_of_ble_eq_true rfl) ?_
  have hwords_len := hwords.len
  refine SEQ (REGION [0, 1] rfl (RUN0 2 [] [(0, .v (.slice words_a words.length words_c))] ?_ rfl ?_))
  · as_aux_lemma => kernel_rfl
  refine ENDOPS (NEXT (SEQ (REGION [0, 1] rfl (OPC (BUILDS 24 0 #[] 8 24 ?_ (Nat.le_of_ble_eq_true rfl) 3 [] ?_ intL [] rfl (by simp only [maxLen]; omega) [] [] _ rfl (flatRep rfl) (fun a1 ha2 => ?_))))))
  · as_aux_lemma => kernel_rfl
  · as_aux_lemma => kernel_rfl
  refine RUN0 1 [] [(0, .v (.slice words_a words.length words_c)), (4, .v (.slice a1 0 0))] ?_ rfl ?_
  · as_aux_lemma => kernel_rfl
  refine ENDOPS (NEXT (SEQ (SEQ (REGION [0] rfl (RUN0 1 [] [(0, .v (.slice words_a words.length words_c)), (4, .v (.slice a1 0 0)), (5, I 0)] ?_ rfl ?_)))))
  · as_aux_lemma => kernel_rfl
  refine ENDOPS (NEXT (BLOCK (LOOP (ι := Nat × (List (List UInt8)) × (Option Addr) × Nat × (List Int)) (fun j => [(0, .v (.slice words_a words.length words_c)), (4, .v (.slice j.2.2.1 j.2.2.2.2.length j.2.2.2.1)), (5, I (j.1 : Int))]) (fun j => []) (fun j => [slA 3 intL (.slice j.2.2.1 j.2.2.2.2.length j.2.2.2.1) j.2.2.2.2]) (fun j => j.1 + j.2.1.length = words.length ∧ words.drop j.1 = j.2.1 ∧ readArgs words = (readArgs j.2.1).map (j.2.2.2.2 ++ ·) ∧ j.2.2.2.2.length = j.1) (fun j => j.2.1.length) (0, words, a1, 0, []) [0, 4, 5] ⟨by simp, rfl, by simp, rfl⟩ ?_ rfl rfl ?_)))
  · as_aux_lemma => kernel_rfl
  rintro ⟨k, ys, oa, oc, out⟩ ⟨hk, hd, hv0, hv1⟩
  dsimp only at hk hd hv0 hv1
  refine SEQ (SEQ (REGION [0, 1, 2, 3] rfl (RUN0 4 [] [(0, .v (.slice words_a words.length words_c)), (4, .v (.slice oa out.length oc)), (5, I (k : Int)), (12, B (decide ((k : Int) < (words.length : Int))))] ?_ rfl ?_)))
  · as_aux_lemma => kernel_rfl
  refine ENDOPS (NEXT (IF (decide ((k : Int) < (words.length : Int))) ?_ (fun bh3 => ?_) (fun bh3 => ?_)))
  · as_aux_lemma => kernel_rfl
  · -- decide ((k : Int) < (words.length : Int)) = true
    have h3 := bh3
    have h3 := of_decide_eq_true h3
    obtain ⟨y4, ys5, rfl, hx_y4, hd_y4, hl_y4⟩ := drop_cons hd hk (by omega)
    refine SKIP (NEXT (SEQ (BLOCK (SEQ (REGION [0, 1, 2, 3, 4, 5, 6, 7, 8, 9] rfl (RUN0 2 [2, 3, 4, 5, 6, 7, 8, 9] [(0, .v (.slice words_a words.length words_c)), (4, .v (.slice oa out.length oc)), (5, I (k : Int)), (16, .v (.slice words_a words.length words_c)), (17, I (k : Int))] ?_ rfl ?_))))))
    · as_aux_lemma => kernel_rfl
    refine OPC (INDEX 32 (.tmp 16) (.tmp 17) 18 0 ?_ (Nat.le_of_ble_eq_true rfl) words_a words.length words_c .i64 (k : Int) 9 1 ?_ ?_ ?_ ?_ (Rd.some hwords (by omega)) (by omega) (by omega) ?_)
    · as_aux_lemma => kernel_rfl
    · as_aux_lemma => kernel_rfl
    · as_aux_lemma => kernel_rfl
    · as_aux_lemma => kernel_rfl
    · as_aux_lemma => kernel_rfl
    refine OPC (LOADE 9 (.tmp 18) 19 9 ?_ (Nat.le_of_ble_eq_true rfl) words_a (k * 1) 0 [.string (bs y4)] (.string (bs y4)) ?_ (fun w hw => (hwords.fr hw.fr).flat hx_y4) ?_ ?_)
    · as_aux_lemma => kernel_rfl
    · as_aux_lemma => kernel_rfl
    · as_aux_lemma => kernel_rfl
    refine OPC (CALL 25 #[.string (bs y4)] (some 20) ?_ [] [] _ rfl (RV (.tuple #[vi (((number y4).getD 0 : Nat) : Int), .bool ((number y4).isSome)])) (fun w hw => sNumber_c w y4) (by rintro _ ⟨⟩; exact Nat.le_of_ble_eq_true rfl) ?_)
    · as_aux_lemma => kernel_rfl
    rintro ⟨⟩
    refine RUN0 5 [] [(0, .v (.slice words_a words.length words_c)), (4, .v (.slice oa out.length oc)), (5, I (k : Int)), (6, I (((number y4).getD 0 : Nat) : Int)), (7, B ((number y4).isSome))] ?_ rfl ?_
    · as_aux_lemma => kernel_rfl
    refine ENDOPS (NEXT (SEQ (SEQ (REGION [0, 1, 2, 3, 4] rfl (RUN0 2 [2, 3, 4] [(0, .v (.slice words_a words.length words_c)), (4, .v (.slice oa out.length oc)), (5, I (k : Int)), (6, I (((number y4).getD 0 : Nat) : Int)), (7, B ((number y4).isSome)), (23, .v (.slice words_a words.length words_c)), (24, I (k : Int))] ?_ rfl ?_)))))
    · as_aux_lemma => kernel_rfl
    refine OPC (INDEX 32 (.tmp 23) (.tmp 24) 25 0 ?_ (Nat.le_of_ble_eq_true rfl) words_a words.length words_c .i64 (k : Int) 9 1 ?_ ?_ ?_ ?_ (Rd.some hwords (by omega)) (by omega) (by omega) ?_)
    · as_aux_lemma => kernel_rfl
    · as_aux_lemma => kernel_rfl
    · as_aux_lemma => kernel_rfl
    · as_aux_lemma => kernel_rfl
    · as_aux_lemma => kernel_rfl
    refine OPC (LOADE 9 (.tmp 25) 26 9 ?_ (Nat.le_of_ble_eq_true rfl) words_a (k * 1) 0 [.string (bs y4)] (.string (bs y4)) ?_ (fun w hw => (hwords.fr hw.fr).flat hx_y4) ?_ ?_)
    · as_aux_lemma => kernel_rfl
    · as_aux_lemma => kernel_rfl
    · as_aux_lemma => kernel_rfl
    refine OPC (RUNV (.binOp .eql 9 (.tmp 26) (.const (.string (bs ([45])))) 9) 27 4 ?_ (Nat.le_of_ble_eq_true rfl) (.bool (y4 == ([45]))) (runs_seql (a := y4) (b := [45]) ?_ ?_) ?_)
    · as_aux_lemma => kernel_rfl
    · as_aux_lemma => kernel_rfl
    · as_aux_lemma => kernel_rfl
    refine ENDOPS (NEXT (IF (y4 == ([45])) ?_ (fun bh6 => ?_) (fun bh6 => ?_)))
    · as_aux_lemma => kernel_rfl
    · -- y4 == ([45]) = true
      have h6 := bh6
      have h6 := eq_of_beq h6
      refine SEQ (REGION [0] rfl (RUN0 1 [] [(0, .v (.slice words_a words.length words_c)), (4, .v (.slice oa out.length oc)), (5, I (k : Int)), (6, I (-1))] ?_ rfl ?_))
      · as_aux_lemma => kernel_rfl
      refine ENDOPS (NEXT (REGION [0] rfl (RUN0 1 [] [(0, .v (.slice words_a words.length words_c)), (4, .v (.slice oa out.length oc)), (5, I (k : Int)), (6, I (-1)), (7, B true)] ?_ rfl ?_)))
      · as_aux_lemma => kernel_rfl
      refine ENDOPS (NEXT (SEQ (SEQ (REGION [0, 1] rfl (RUN0 2 [] [(0, .v (.slice words_a words.length words_c)), (4, .v (.slice oa out.length oc)), (5, I (k : Int)), (6, I (-1)), (29, B false)] ?_ rfl ?_)))))
      · as_aux_lemma => kernel_rfl
      refine ENDOPS (NEXT (IFF ?_ ?_))
      · as_aux_lemma => kernel_rfl
      refine SKIP (NEXT (REGION [0, 1, 2, 3, 4] rfl (RUN0 2 [2, 3, 4] [(0, .v (.slice words_a words.length words_c)), (5, I (k : Int)), (31, .v (.slice oa out.length oc)), (32, I (-1))] ?_ rfl ?_)))
      · as_aux_lemma => kernel_rfl
      refine OPC (BUILDS 24 1 #[(0, .tmp 32)] 33 24 ?_ (Nat.le_of_ble_eq_true rfl) 3 [vi (-1)] ?_ intL [-1] rfl (by simp only [maxLen]; omega) [] [] _ rfl (flatRep rfl) (fun a7 ha8 => ?_))
      · as_aux_lemma => kernel_rfl
      · as_aux_lemma => kernel_rfl
      refine OPC (APPENDO 24 (.tmp 31) (.tmp 33) 34 24 ?_ (Nat.le_of_ble_eq_true rfl) (.slice oa out.length oc) a7 1 1 ?_ ?_ ha8 3 ?_ intL (vi 0) 8 ?_ rfl (by decide) 0 0 out ([-1]) _ rfl rfl (by first | omega | (simp only [List.length_append, List.length_cons, List.length_nil, List.length_take, List.length_drop] at *; omega)) (by simp only [maxLen]; first | omega | (simp only [List.length_append, List.length_cons, List.length_nil, List.length_take, List.length_drop] at *; omega)) (fun a9 c10 hn11 => ?_))
      · as_aux_lemma => kernel_rfl
      · as_aux_lemma => kernel_rfl
      · as_aux_lemma => kernel_rfl
      · as_aux_lemma => kernel_rfl
      · as_aux_lemma => kernel_rfl
      refine RUN0 1 [] [(0, .v (.slice words_a words.length words_c)), (4, .v (.slice a9 ((out ++ ([-1])).length) c10)), (5, I (k : Int))] ?_ rfl ?_
      · as_aux_lemma => kernel_rfl
      refine ENDOPS (OUTN (NEXT (REGION [0, 1, 2] rfl (RUN0 2 [2] [(0, .v (.slice words_a words.length words_c)), (4, .v (.slice a9 ((out ++ ([-1])).length) c10)), (14, I (wr ((k : Int) + 1)))] ?_ rfl ?_))))
      · as_aux_lemma => kernel_rfl
      refine CAST (d := 14) (vi (wr ((k : Int) + 1))) (vi ((k + 1 : Nat) : Int)) ?_ (vi_cast (by omega) (by omega)) ?_
      · as_aux_lemma => kernel_rfl
      refine RUN0 1 [] [(0, .v (.slice words_a words.length words_c)), (4, .v (.slice a9 ((out ++ ([-1])).length) c10)), (5, I ((k + 1 : Nat) : Int))] ?_ rfl ?_
      · as_aux_lemma => kernel_rfl
      refine ENDOPS (BACK (k + 1, ys5, a9, c10, out ++ ([-1])) [0, 4, 5] 0 [0] _ ⟨hl_y4, hd_y4, hv0.trans (by first | (rw [readArgs_num (by assumption) (by assumption)]; simp [Option.map_map, Function.comp_def]; done) | (rw [show y4 = [45] by assumption, readArgs_dash]; simp [Option.map_map, Function.comp_def])), (by simp only [List.length_append, List.length_cons, List.length_nil]; omega)⟩ (by simp) ?_ rfl rfl rfl)
      · as_aux_lemma => kernel_rfl
    · -- y4 == ([45]) = false
      have h6 := bh6
      have h6 := ne_of_beq_false h6
      refine SKIP (NEXT (SEQ (SEQ (REGION [0, 1] rfl (RUN0 2 [] [(0, .v (.slice words_a words.length words_c)), (4, .v (.slice oa out.length oc)), (5, I (k : Int)), (6, I (((number y4).getD 0 : Nat) : Int)), (29, B (!((number y4).isSome)))] ?_ rfl ?_)))))
      · as_aux_lemma => kernel_rfl
      refine ENDOPS (NEXT (IF (!((number y4).isSome)) ?_ (fun bh12 => ?_) (fun bh12 => ?_)))
      · as_aux_lemma => kernel_rfl
      · -- !((number y4).isSome) = true
        have h12 := bh12
        have h12 := notT h12
        refine SEQ (REGION [0, 1, 2] rfl (OPC (BUILDS 24 0 #[] 30 24 ?_ (Nat.le_of_ble_eq_true rfl) 3 [] ?_ intL [] rfl (by simp only [maxLen]; omega) [] [] _ rfl (flatRep rfl) (fun a13 ha14 => ?_))))
        · as_aux_lemma => kernel_rfl
        · as_aux_lemma => kernel_rfl
        refine RUN0 2 [] [(2, .v (.slice a13 0 0)), (3, B false)] ?_ rfl ?_
        · as_aux_lemma => kernel_rfl
        refine ENDOPS (NEXT (RET (PASS trivial (OUTR (PASS trivial (PASS trivial (OUTR (PASS trivial ?_))))))))
        have efin : readArgs words = none := by exact hv0.trans (by rw [readArgs_bad (by assumption) (by assumption)]; rfl)
        refine FIN (.tuple #[.slice a13 0 0, .bool false]) ?_ (a13, 0) ?_ [1] ?_
        · as_aux_lemma => kernel_rfl
        · (rw [efin] <;> rfl)
        · (rw [efin] <;> rfl)
      · -- !((number y4).isSome) = false
        have h12 := bh12
        have h12 := notF h12
        refine SKIP (NEXT (REGION [0, 1, 2, 3, 4] rfl (RUN0 2 [2, 3, 4] [(0, .v (.slice words_a words.length words_c)), (5, I (k : Int)), (31, .v (.slice oa out.length oc)), (32, I (((number y4).getD 0 : Nat) : Int))] ?_ rfl ?_)))
        · as_aux_lemma => kernel_rfl
        refine OPC (BUILDS 24 1 #[(0, .tmp 32)] 33 24 ?_ (Nat.le_of_ble_eq_true rfl) 3 [vi (((number y4).getD 0 : Nat) : Int)] ?_ intL [(((number y4).getD 0 : Nat) : Int)] rfl (by simp only [maxLen]; omega) [] [] _ rfl (flatRep rfl) (fun a15 ha16 => ?_))
        · as_aux_lemma => kernel_rfl
        · as_aux_lemma => kernel_rfl
        refine OPC (APPENDO 24 (.tmp 31) (.tmp 33) 34 24 ?_ (Nat.le_of_ble_eq_true rfl) (.slice oa out.length oc) a15 1 1 ?_ ?_ ha16 3 ?_ intL (vi 0) 8 ?_ rfl (by decide) 0 0 out ([(((number y4).getD 0 : Nat) : Int)]) _ rfl rfl (by first | omega | (simp only [List.length_append, List.length_cons, List.length_nil, List.length_take, List.length_drop] at *; omega)) (by simp only [maxLen]; first | omega | (simp only [List.length_append, List.length_cons, List.length_nil, List.length_take, List.length_drop] at *; omega)) (fun a17 c18 hn19 => ?_))
        · as_aux_lemma => kernel_rfl
        · as_aux_lemma => kernel_rfl
        · as_aux_lemma => kernel_rfl
        · as_aux_lemma => kernel_rfl
        · as_aux_lemma => kernel_rfl
        refine RUN0 1 [] [(0, .v (.slice words_a words.length words_c)), (4, .v (.slice a17 ((out ++ ([(((number y4).getD 0 : Nat) : Int)])).length) c18)), (5, I (k : Int))] ?_ rfl ?_
        · as_aux_lemma => kernel_rfl
        refine ENDOPS (OUTN (NEXT (REGION [0, 1, 2] rfl (RUN0 2 [2] [(0, .v (.slice words_a words.length words_c)), (4, .v (.slice a17 ((out ++ ([(((number y4).getD 0 : Nat) : Int)])).length) c18)), (14, I (wr ((k : Int) + 1)))] ?_ rfl ?_))))
        · as_aux_lemma => kernel_rfl
        refine CAST (d := 14) (vi (wr ((k : Int) + 1))) (vi ((k + 1 : Nat) : Int)) ?_ (vi_cast (by omega) (by omega)) ?_
        · as_aux_lemma => kernel_rfl
        refine RUN0 1 [] [(0, .v (.slice words_a words.length words_c)), (4, .v (.slice a17 ((out ++ ([(((number y4).getD 0 : Nat) : Int)])).length) c18)), (5, I ((k + 1 : Nat) : Int))] ?_ rfl ?_
        · as_aux_lemma => kernel_rfl
        refine ENDOPS (BACK (k + 1, ys5, a17, c18, out ++ ([(((number y4).getD 0 : Nat) : Int)])) [0, 4, 5] 0 [0] _ ⟨hl_y4, hd_y4, hv0.trans (by first | (rw [readArgs_num (by assumption) (by assumption)]; simp [Option.map_map, Function.comp_def]; done) | (rw [show y4 = [45] by assumption, readArgs_dash]; simp [Option.map_map, Function.comp_def])), (by simp only [List.length_append, List.length_cons, List.length_nil]; omega)⟩ (by simp) ?_ rfl rfl rfl)
        · as_aux_lemma => kernel_rfl
  · -- decide ((k : Int) < (words.length : Int)) = false
    have h3 := bh3
    have h3 := of_decide_eq_false h3
    obtain rfl := drop_nil hk (by omega)
    refine EXIT (PASS trivial (PASS trivial (OUT (NEXT (SEQ (REGION [0, 1, 2] rfl (RUN0 3 [] [(2, .v (.slice oa out.length oc)), (3, B true)] ?_ rfl ?_)))))))
    · as_aux_lemma => kernel_rfl
    refine ENDOPS (NEXT (RET ?_))
    have efin : readArgs words = some out := by rw [hv0]; simp [readArgs]
    refine FIN (.tuple #[.slice oa out.length oc, .bool true]) ?_ (oa, oc) ?_ [0] ?_
    · as_aux_lemma => kernel_rfl
    · (rw [efin] <;> rfl)
    · (rw [efin] <;> rfl)

end SX
end Go.Proofs.YtpdijcbgdalphabDoor
