/- Walks, printed by program. -/
import Derived.Test.YtpdijcbgdalphaaDoorV3
namespace Go.Proofs.YtpdijcbgdalphaaDoor
namespace SX
open Go Go.RowKit
set_option linter.unusedVariables false
set_option linter.unusedSimpArgs false
set_option maxRecDepth 10000
theorem sNumber_c (W : World) (s : List UInt8) : Spec Tryd.prog W [] 58 #[.string (bs s)] (RV (.tuple #[vi (((number s).getD 0 : Nat) : Int), .bool ((number s).isSome)])) := by
  refine ENTER0 (N := 43) (vs := [.string (bs s)]) Tryd.func58 rfl rfl (Nat.le_of_ble_eq_true rfl) ?_
  refine SEQ (REGION [0, 1] rfl (RUN0 2 [] [(0, .v (.string (bs s)))] ?_ rfl ?_))
  · as_aux_lemma => kernel_rfl
  refine ENDOPS (NEXT (SEQ (SEQ (REGION [0, 1, 2, 3, 4, 5, 6, 7] rfl (RUN0 4 [4, 5, 6, 7] [(0, .v (.string (bs s))), (9, B (decide ((s.length : Int) < 1)))] ?_ rfl ?_)))))
  · as_aux_lemma => kernel_rfl
  refine SPLIT (d := 9) (decide ((s.length : Int) < 1)) ?_ (fun bh1 => ?_) (fun bh1 => ?_)
  · as_aux_lemma => kernel_rfl
  · -- decide ((s.length : Int) < 1) = true
    have h1 := bh1
    have h1 := of_decide_eq_true h1
    refine RUN0 4 [] [(0, .v (.string (bs s))), (13, B true)] ?_ rfl ?_
    · as_aux_lemma => kernel_rfl
    refine ENDOPS (NEXT (IFT ?_ ?_))
    · as_aux_lemma => kernel_rfl
    refine SEQ (REGION [0, 1] rfl (RUN0 2 [] [(2, I 0), (3, B false)] ?_ rfl ?_))
    · as_aux_lemma => kernel_rfl
    refine ENDOPS (NEXT (RET (PASS trivial (FIN (.tuple #[vi 0, .bool false]) ?_ () ?_ [] ?_))))
    · as_aux_lemma => kernel_rfl
    · (first | (rw [number_bad (by omega)]; rfl) | (rw [number_bad (s := s) (.inr (.inr (hv0.trans (by simp only [digitsGo]; exact if_pos (by omega)))))]; rfl) | (simp only [RV]; rw [number_of (s := s) (n := n) (by omega) (by rw [hv0]; rfl)]; simp [*]))
    · rfl
  · -- decide ((s.length : Int) < 1) = false
    have h1 := bh1
    have h1 := of_decide_eq_false h1
    refine RUN0 4 [] [(0, .v (.string (bs s))), (13, B (decide ((s.length : Int) > 6)))] ?_ rfl ?_
    · as_aux_lemma => kernel_rfl
    refine ENDOPS (NEXT (IF (decide ((s.length : Int) > 6)) ?_ (fun bh2 => ?_) (fun bh2 => ?_)))
    · as_aux_lemma => kernel_rfl
    · -- decide ((s.length : Int) > 6) = true
      have h2 := bh2
      have h2 := of_decide_eq_true h2
      refine SEQ (REGION [0, 1] rfl (RUN0 2 [] [(2, I 0), (3, B false)] ?_ rfl ?_))
      · as_aux_lemma => kernel_rfl
      refine ENDOPS (NEXT (RET (PASS trivial (FIN (.tuple #[vi 0, .bool false]) ?_ () ?_ [] ?_))))
      · as_aux_lemma => kernel_rfl
      · (first | (rw [number_bad (by omega)]; rfl) | (rw [number_bad (s := s) (.inr (.inr (hv0.trans (by simp only [digitsGo]; exact if_pos (by omega)))))]; rfl) | (simp only [RV]; rw [number_of (s := s) (n := n) (by omega) (by rw [hv0]; rfl)]; simp [*]))
      · rfl
    · -- decide ((s.length : Int) > 6) = false
      have h2 := bh2
      have h2 := of_decide_eq_false h2
      refine SKIP (NEXT (SEQ (REGION [0] rfl (RUN0 1 [] [(0, .v (.string (bs s))), (4, I 0)] ?_ rfl ?_))))
      · as_aux_lemma => kernel_rfl
      refine ENDOPS (NEXT (SEQ (SEQ (REGION [0] rfl (RUN0 1 [] [(0, .v (.string (bs s))), (4, I 0), (5, I 0)] ?_ rfl ?_)))))
      · as_aux_lemma => kernel_rfl
      refine ENDOPS (NEXT (BLOCK (LOOP (ι := Nat × (List UInt8) × Nat) (fun j => [(0, .v (.string (bs s))), (4, I (j.2.2 : Int)), (5, I (j.1 : Int))]) (fun j => []) (fun j => []) (fun j => j.1 + j.2.1.length = s.length ∧ s.drop j.1 = j.2.1 ∧ digitsGo 0 s = digitsGo j.2.2 j.2.1 ∧ j.2.2 < p10 j.1) (fun j => j.2.1.length) (0, s, 0) [0, 4, 5] ⟨by simp, rfl, rfl, show 0 < p10 0 by decide⟩ ?_ rfl rfl ?_)))
      · as_aux_lemma => kernel_rfl
      rintro ⟨k, ys, n⟩ ⟨hk, hd, hv0, hv1⟩
      dsimp only at hk hd hv0 hv1
      refine SEQ (SEQ (REGION [0, 1, 2, 3] rfl (RUN0 4 [] [(0, .v (.string (bs s))), (4, I (n : Int)), (5, I (k : Int)), (17, B (decide ((k : Int) < (s.length : Int))))] ?_ rfl ?_)))
      · as_aux_lemma => kernel_rfl
      refine ENDOPS (NEXT (IF (decide ((k : Int) < (s.length : Int))) ?_ (fun bh3 => ?_) (fun bh3 => ?_)))
      · as_aux_lemma => kernel_rfl
      · -- decide ((k : Int) < (s.length : Int)) = true
        have h3 := bh3
        have h3 := of_decide_eq_true h3
        obtain ⟨y4, ys5, rfl, hx_y4, hd_y4, hl_y4⟩ := drop_cons hd hk (by omega)
        have hp_y4 := p10_le (k := k) (by omega)
        have := UInt8.toNat_lt y4
        refine SKIP (NEXT (SEQ (BLOCK (SEQ (SEQ (REGION [0, 1, 2, 3, 4, 5, 6, 7, 8, 9] rfl (RUN0 2 [2, 3, 4, 5, 6, 7, 8, 9] [(0, .v (.string (bs s))), (4, I (n : Int)), (5, I (k : Int)), (20, .v (.string (bs s))), (21, I (k : Int))] ?_ rfl ?_)))))))
        · as_aux_lemma => kernel_rfl
        refine OPC (RUNV (.index 9 (.tmp 20) (.tmp 21)) 22 5 ?_ (Nat.le_of_ble_eq_true rfl) (.int .u8 (y4.toNat : Int)) (runs_sidx (s := s) (kd := .i64) (z := (k : Int)) (k := k) ?_ ?_ ?_ (by omega) rfl hx_y4) ?_)
        · as_aux_lemma => kernel_rfl
        · as_aux_lemma => kernel_rfl
        · as_aux_lemma => kernel_rfl
        · as_aux_lemma => kernel_rfl
        refine RUN0 2 [5, 6, 7, 8, 9] [(0, .v (.string (bs s))), (4, I (n : Int)), (5, I (k : Int)), (24, B (decide ((y4.toNat : Int) < 48)))] ?_ rfl ?_
        · as_aux_lemma => kernel_rfl
        refine SPLIT (d := 24) (decide ((y4.toNat : Int) < 48)) ?_ (fun bh6 => ?_) (fun bh6 => ?_)
        · as_aux_lemma => kernel_rfl
        · -- decide ((y4.toNat : Int) < 48) = true
          have h6 := bh6
          have h6 := of_decide_eq_true h6
          refine RUN0 5 [] [(0, .v (.string (bs s))), (4, I (n : Int)), (5, I (k : Int)), (29, B true)] ?_ rfl ?_
          · as_aux_lemma => kernel_rfl
          refine ENDOPS (NEXT (IFT ?_ ?_))
          · as_aux_lemma => kernel_rfl
          refine SEQ (REGION [0, 1] rfl (RUN0 2 [] [(2, I 0), (3, B false)] ?_ rfl ?_))
          · as_aux_lemma => kernel_rfl
          refine ENDOPS (NEXT (RET (PASS trivial (OUTR (PASS trivial (PASS trivial (OUTR (PASS trivial (FIN (.tuple #[vi 0, .bool false]) ?_ () ?_ [] ?_)))))))))
          · as_aux_lemma => kernel_rfl
          · (first | (rw [number_bad (by omega)]; rfl) | (rw [number_bad (s := s) (.inr (.inr (hv0.trans (by simp only [digitsGo]; exact if_pos (by omega)))))]; rfl) | (simp only [RV]; rw [number_of (s := s) (n := n) (by omega) (by rw [hv0]; rfl)]; simp [*]))
          · rfl
        · -- decide ((y4.toNat : Int) < 48) = false
          have h6 := bh6
          have h6 := of_decide_eq_false h6
          refine RUN0 2 [7, 8, 9] [(0, .v (.string (bs s))), (4, I (n : Int)), (5, I (k : Int)), (24, B false), (25, .v (.string (bs s))), (26, I (k : Int))] ?_ rfl ?_
          · as_aux_lemma => kernel_rfl
          refine OPC (RUNV (.index 9 (.tmp 25) (.tmp 26)) 27 5 ?_ (Nat.le_of_ble_eq_true rfl) (.int .u8 (y4.toNat : Int)) (runs_sidx (s := s) (kd := .i64) (z := (k : Int)) (k := k) ?_ ?_ ?_ (by omega) rfl hx_y4) ?_)
          · as_aux_lemma => kernel_rfl
          · as_aux_lemma => kernel_rfl
          · as_aux_lemma => kernel_rfl
          · as_aux_lemma => kernel_rfl
          refine RUN0 2 [] [(0, .v (.string (bs s))), (4, I (n : Int)), (5, I (k : Int)), (29, B (decide ((y4.toNat : Int) > 57)))] ?_ rfl ?_
          · as_aux_lemma => kernel_rfl
          refine ENDOPS (NEXT (IF (decide ((y4.toNat : Int) > 57)) ?_ (fun bh7 => ?_) (fun bh7 => ?_)))
          · as_aux_lemma => kernel_rfl
          · -- decide ((y4.toNat : Int) > 57) = true
            have h7 := bh7
            have h7 := of_decide_eq_true h7
            refine SEQ (REGION [0, 1] rfl (RUN0 2 [] [(2, I 0), (3, B false)] ?_ rfl ?_))
            · as_aux_lemma => kernel_rfl
            refine ENDOPS (NEXT (RET (PASS trivial (OUTR (PASS trivial (PASS trivial (OUTR (PASS trivial (FIN (.tuple #[vi 0, .bool false]) ?_ () ?_ [] ?_)))))))))
            · as_aux_lemma => kernel_rfl
            · (first | (rw [number_bad (by omega)]; rfl) | (rw [number_bad (s := s) (.inr (.inr (hv0.trans (by simp only [digitsGo]; exact if_pos (by omega)))))]; rfl) | (simp only [RV]; rw [number_of (s := s) (n := n) (by omega) (by rw [hv0]; rfl)]; simp [*]))
            · rfl
          · -- decide ((y4.toNat : Int) > 57) = false
            have h7 := bh7
            have h7 := of_decide_eq_false h7
            refine SKIP (NEXT (REGION [0, 1, 2, 3, 4, 5, 6, 7, 8] rfl (RUN0 2 [2, 3, 4, 5, 6, 7, 8] [(0, .v (.string (bs s))), (5, I (k : Int)), (31, I (wr (10 * (n : Int))))] ?_ rfl ?_)))
            · as_aux_lemma => kernel_rfl
            refine CAST (d := 31) (vi (wr (10 * (n : Int)))) (vi ((10 * n : Nat) : Int)) ?_ (vi_cast (by omega) (by omega)) ?_
            · as_aux_lemma => kernel_rfl
            refine RUN0 2 [4, 5, 6, 7, 8] [(0, .v (.string (bs s))), (5, I (k : Int)), (31, I ((10 * n : Nat) : Int)), (32, .v (.string (bs s))), (33, I (k : Int))] ?_ rfl ?_
            · as_aux_lemma => kernel_rfl
            refine OPC (RUNV (.index 9 (.tmp 32) (.tmp 33)) 34 5 ?_ (Nat.le_of_ble_eq_true rfl) (.int .u8 (y4.toNat : Int)) (runs_sidx (s := s) (kd := .i64) (z := (k : Int)) (k := k) ?_ ?_ ?_ (by omega) rfl hx_y4) ?_)
            · as_aux_lemma => kernel_rfl
            · as_aux_lemma => kernel_rfl
            · as_aux_lemma => kernel_rfl
            · as_aux_lemma => kernel_rfl
            refine RUN0 1 [6, 7, 8] [(0, .v (.string (bs s))), (5, I (k : Int)), (31, I ((10 * n : Nat) : Int)), (35, I (IntKind.wrap .i64 (y4.toNat : Int)))] ?_ rfl ?_
            · as_aux_lemma => kernel_rfl
            refine CAST (d := 35) (vi (IntKind.wrap .i64 (y4.toNat : Int))) (vi (y4.toNat : Int)) ?_ (vi_u8 y4) ?_
            · as_aux_lemma => kernel_rfl
            refine RUN0 1 [7, 8] [(0, .v (.string (bs s))), (5, I (k : Int)), (36, I (wr (((10 * n : Nat) : Int) + (y4.toNat : Int))))] ?_ rfl ?_
            · as_aux_lemma => kernel_rfl
            refine CAST (d := 36) (vi (wr (((10 * n : Nat) : Int) + (y4.toNat : Int)))) (vi (((10 * n) + y4.toNat : Nat) : Int)) ?_ (vi_cast (by omega) (by omega)) ?_
            · as_aux_lemma => kernel_rfl
            refine RUN0 1 [8] [(0, .v (.string (bs s))), (5, I (k : Int)), (37, I (wr ((((10 * n) + y4.toNat : Nat) : Int) - 48)))] ?_ rfl ?_
            · as_aux_lemma => kernel_rfl
            refine CAST (d := 37) (vi (wr ((((10 * n) + y4.toNat : Nat) : Int) - 48))) (vi ((((10 * n) + y4.toNat) - 48 : Nat) : Int)) ?_ (vi_cast (by omega) (by omega)) ?_
            · as_aux_lemma => kernel_rfl
            refine RUN0 1 [] [(0, .v (.string (bs s))), (4, I ((((10 * n) + y4.toNat) - 48 : Nat) : Int)), (5, I (k : Int))] ?_ rfl ?_
            · as_aux_lemma => kernel_rfl
            refine ENDOPS (OUTN (NEXT (REGION [0, 1, 2] rfl (RUN0 2 [2] [(0, .v (.string (bs s))), (4, I ((((10 * n) + y4.toNat) - 48 : Nat) : Int)), (19, I (wr ((k : Int) + 1)))] ?_ rfl ?_))))
            · as_aux_lemma => kernel_rfl
            refine CAST (d := 19) (vi (wr ((k : Int) + 1))) (vi ((k + 1 : Nat) : Int)) ?_ (vi_cast (by omega) (by omega)) ?_
            · as_aux_lemma => kernel_rfl
            refine RUN0 1 [] [(0, .v (.string (bs s))), (4, I ((((10 * n) + y4.toNat) - 48 : Nat) : Int)), (5, I ((k + 1 : Nat) : Int))] ?_ rfl ?_
            · as_aux_lemma => kernel_rfl
            refine ENDOPS (BACK (k + 1, ys5, ((10 * n) + y4.toNat) - 48) [0, 4, 5] 0 [] _ ⟨hl_y4, hd_y4, hv0.trans (by simp only [digitsGo]; refine (if_neg (by omega)).trans ?_; first | rfl | (congr 1; omega)), (by dsimp only; omega)⟩ (by simp) ?_ rfl rfl rfl)
            · as_aux_lemma => kernel_rfl
      · -- decide ((k : Int) < (s.length : Int)) = false
        have h3 := bh3
        have h3 := of_decide_eq_false h3
        obtain rfl := drop_nil hk (by omega)
        have hp9 := p10_max (k := k) (by omega)
        refine EXIT (PASS trivial (PASS trivial (OUT (NEXT (SEQ (SEQ (REGION [0, 1, 2, 3] rfl (RUN0 1 [1, 2, 3] [(0, .v (.string (bs s))), (4, I (n : Int)), (38, I (n : Int))] ?_ rfl ?_))))))))
        · as_aux_lemma => kernel_rfl
        refine OPC (CALL 31 #[vi (n : Int)] (some 39) ?_ [] [] _ rfl (RV (.string (bs (Lib.itoa (n : Int))))) (fun w hw => sDigits_c w (n : Int) (by first | assumption | exact wr_range _ | (unfold i64R at *; omega) | (simp only [i64R] at *; omega))) (by rintro _ ⟨⟩; exact Nat.le_of_ble_eq_true rfl) ?_)
        · as_aux_lemma => kernel_rfl
        rintro ⟨⟩
        have hr8 := itoa_len (n := (n : Int)) (by first | assumption | exact wr_range _ | (unfold i64R at *; omega) | (simp only [i64R] at *; omega))
        refine RUN0 1 [3] [(4, I (n : Int)), (39, .v (.string (bs (Lib.itoa (n : Int))))), (40, .v (.string (bs s)))] ?_ rfl ?_
        · as_aux_lemma => kernel_rfl
        refine OPC (RUNV (.binOp .neq 9 (.tmp 39) (.tmp 40) 9) 41 4 ?_ (Nat.le_of_ble_eq_true rfl) (.bool (!((Lib.itoa (n : Int)) == s))) (runs_sneq (a := Lib.itoa (n : Int)) (b := s) ?_ ?_) ?_)
        · as_aux_lemma => kernel_rfl
        · as_aux_lemma => kernel_rfl
        · as_aux_lemma => kernel_rfl
        refine ENDOPS (NEXT (IF (!((Lib.itoa (n : Int)) == s)) ?_ (fun bh9 => ?_) (fun bh9 => ?_)))
        · as_aux_lemma => kernel_rfl
        · -- !((Lib.itoa (n : Int)) == s) = true
          have h9 := bh9
          have h9 := notT h9
          have h9 := ne_of_beq_false h9
          refine SEQ (REGION [0, 1] rfl (RUN0 2 [] [(2, I 0), (3, B false)] ?_ rfl ?_))
          · as_aux_lemma => kernel_rfl
          refine ENDOPS (NEXT (RET (PASS trivial (FIN (.tuple #[vi 0, .bool false]) ?_ () ?_ [] ?_))))
          · as_aux_lemma => kernel_rfl
          · (first | (rw [number_bad (by omega)]; rfl) | (rw [number_bad (s := s) (.inr (.inr (hv0.trans (by simp only [digitsGo]; exact if_pos (by omega)))))]; rfl) | (simp only [RV]; rw [number_of (s := s) (n := n) (by omega) (by rw [hv0]; rfl)]; simp [*]))
          · rfl
        · -- !((Lib.itoa (n : Int)) == s) = false
          have h9 := bh9
          have h9 := notF h9
          have h9 := eq_of_beq h9
          refine SKIP (NEXT (SEQ (REGION [0, 1, 2] rfl (RUN0 3 [] [(2, I (n : Int)), (3, B true)] ?_ rfl ?_))))
          · as_aux_lemma => kernel_rfl
          refine ENDOPS (NEXT (RET (FIN (.tuple #[vi (n : Int), .bool true]) ?_ () ?_ [] ?_)))
          · as_aux_lemma => kernel_rfl
          · (first | (rw [number_bad (by omega)]; rfl) | (rw [number_bad (s := s) (.inr (.inr (hv0.trans (by simp only [digitsGo]; exact if_pos (by omega)))))]; rfl) | (simp only [RV]; rw [number_of (s := s) (n := n) (by omega) (by rw [hv0]; rfl)]; simp [*]))
          · rfl

theorem iNumber_c (W : World) (s : List UInt8) (htab : Tab Tryd.prog W) : Spec Tryd.prog W [] 22 #[.string (bs s)] (RV (.tuple #[vi (((number s).getD 0 : Nat) : Int), .bool ((number s).isSome)])) := by
  refine ENTER0 (N := 43) (vs := [.string (bs s)]) Tryd.func22 rfl rfl (Nat.le_of_ble_eq_true rfl) ?_
  refine SEQ (REGION [0, 1] rfl (RUN0 2 [] [(0, .v (.string (bs s)))] ?_ rfl ?_))
  · as_aux_lemma => kernel_rfl
  refine ENDOPS (NEXT (SEQ (SEQ (REGION [0, 1, 2, 3, 4, 5, 6, 7] rfl (RUN0 4 [4, 5, 6, 7] [(0, .v (.string (bs s))), (9, B (decide ((s.length : Int) < 1)))] ?_ rfl ?_)))))
  · as_aux_lemma => kernel_rfl
  refine SPLIT (d := 9) (decide ((s.length : Int) < 1)) ?_ (fun bh1 => ?_) (fun bh1 => ?_)
  · as_aux_lemma => kernel_rfl
  · -- decide ((s.length : Int) < 1) = true
    have h1 := bh1
    have h1 := of_decide_eq_true h1
    refine RUN0 4 [] [(0, .v (.string (bs s))), (13, B true)] ?_ rfl ?_
    · as_aux_lemma => kernel_rfl
    refine ENDOPS (NEXT (IFT ?_ ?_))
    · as_aux_lemma => kernel_rfl
    refine SEQ (REGION [0, 1] rfl (RUN0 2 [] [(2, I 0), (3, B false)] ?_ rfl ?_))
    · as_aux_lemma => kernel_rfl
    refine ENDOPS (NEXT (RET (PASS trivial (FIN (.tuple #[vi 0, .bool false]) ?_ () ?_ [] ?_))))
    · as_aux_lemma => kernel_rfl
    · (first | (rw [number_bad (by omega)]; rfl) | (rw [number_bad (s := s) (.inr (.inr (hv0.trans (by simp only [digitsGo]; exact if_pos (by omega)))))]; rfl) | (simp only [RV]; rw [number_of (s := s) (n := n) (by omega) (by rw [hv0]; rfl)]; simp [*]))
    · rfl
  · -- decide ((s.length : Int) < 1) = false
    have h1 := bh1
    have h1 := of_decide_eq_false h1
    refine RUN0 4 [] [(0, .v (.string (bs s))), (13, B (decide ((s.length : Int) > 6)))] ?_ rfl ?_
    · as_aux_lemma => kernel_rfl
    refine ENDOPS (NEXT (IF (decide ((s.length : Int) > 6)) ?_ (fun bh2 => ?_) (fun bh2 => ?_)))
    · as_aux_lemma => kernel_rfl
    · -- decide ((s.length : Int) > 6) = true
      have h2 := bh2
      have h2 := of_decide_eq_true h2
      refine SEQ (REGION [0, 1] rfl (RUN0 2 [] [(2, I 0), (3, B false)] ?_ rfl ?_))
      · as_aux_lemma => kernel_rfl
      refine ENDOPS (NEXT (RET (PASS trivial (FIN (.tuple #[vi 0, .bool false]) ?_ () ?_ [] ?_))))
      · as_aux_lemma => kernel_rfl
      · (first | (rw [number_bad (by omega)]; rfl) | (rw [number_bad (s := s) (.inr (.inr (hv0.trans (by simp only [digitsGo]; exact if_pos (by omega)))))]; rfl) | (simp only [RV]; rw [number_of (s := s) (n := n) (by omega) (by rw [hv0]; rfl)]; simp [*]))
      · rfl
    · -- decide ((s.length : Int) > 6) = false
      have h2 := bh2
      have h2 := of_decide_eq_false h2
      refine SKIP (NEXT (SEQ (REGION [0] rfl (RUN0 1 [] [(0, .v (.string (bs s))), (4, I 0)] ?_ rfl ?_))))
      · as_aux_lemma => kernel_rfl
      refine ENDOPS (NEXT (SEQ (SEQ (REGION [0] rfl (RUN0 1 [] [(0, .v (.string (bs s))), (4, I 0), (5, I 0)] ?_ rfl ?_)))))
      · as_aux_lemma => kernel_rfl
      refine ENDOPS (NEXT (BLOCK (LOOP (ι := Nat × (List UInt8) × Nat) (fun j => [(0, .v (.string (bs s))), (4, I (j.2.2 : Int)), (5, I (j.1 : Int))]) (fun j => []) (fun j => []) (fun j => j.1 + j.2.1.length = s.length ∧ s.drop j.1 = j.2.1 ∧ digitsGo 0 s = digitsGo j.2.2 j.2.1 ∧ j.2.2 < p10 j.1) (fun j => j.2.1.length) (0, s, 0) [0, 4, 5] ⟨by simp, rfl, rfl, show 0 < p10 0 by decide⟩ ?_ rfl rfl ?_)))
      · as_aux_lemma => kernel_rfl
      rintro ⟨k, ys, n⟩ ⟨hk, hd, hv0, hv1⟩
      dsimp only at hk hd hv0 hv1
      refine SEQ (SEQ (REGION [0, 1, 2, 3] rfl (RUN0 4 [] [(0, .v (.string (bs s))), (4, I (n : Int)), (5, I (k : Int)), (17, B (decide ((k : Int) < (s.length : Int))))] ?_ rfl ?_)))
      · as_aux_lemma => kernel_rfl
      refine ENDOPS (NEXT (IF (decide ((k : Int) < (s.length : Int))) ?_ (fun bh3 => ?_) (fun bh3 => ?_)))
      · as_aux_lemma => kernel_rfl
      · -- decide ((k : Int) < (s.length : Int)) = true
        have h3 := bh3
        have h3 := of_decide_eq_true h3
        obtain ⟨y4, ys5, rfl, hx_y4, hd_y4, hl_y4⟩ := drop_cons hd hk (by omega)
        have hp_y4 := p10_le (k := k) (by omega)
        have := UInt8.toNat_lt y4
        refine SKIP (NEXT (SEQ (BLOCK (SEQ (SEQ (REGION [0, 1, 2, 3, 4, 5, 6, 7, 8, 9] rfl (RUN0 2 [2, 3, 4, 5, 6, 7, 8, 9] [(0, .v (.string (bs s))), (4, I (n : Int)), (5, I (k : Int)), (20, .v (.string (bs s))), (21, I (k : Int))] ?_ rfl ?_)))))))
        · as_aux_lemma => kernel_rfl
        refine OPC (RUNV (.index 9 (.tmp 20) (.tmp 21)) 22 5 ?_ (Nat.le_of_ble_eq_true rfl) (.int .u8 (y4.toNat : Int)) (runs_sidx (s := s) (kd := .i64) (z := (k : Int)) (k := k) ?_ ?_ ?_ (by omega) rfl hx_y4) ?_)
        · as_aux_lemma => kernel_rfl
        · as_aux_lemma => kernel_rfl
        · as_aux_lemma => kernel_rfl
        · as_aux_lemma => kernel_rfl
        refine RUN0 2 [5, 6, 7, 8, 9] [(0, .v (.string (bs s))), (4, I (n : Int)), (5, I (k : Int)), (24, B (decide ((y4.toNat : Int) < 48)))] ?_ rfl ?_
        · as_aux_lemma => kernel_rfl
        refine SPLIT (d := 24) (decide ((y4.toNat : Int) < 48)) ?_ (fun bh6 => ?_) (fun bh6 => ?_)
        · as_aux_lemma => kernel_rfl
        · -- decide ((y4.toNat : Int) < 48) = true
          have h6 := bh6
          have h6 := of_decide_eq_true h6
          refine RUN0 5 [] [(0, .v (.string (bs s))), (4, I (n : Int)), (5, I (k : Int)), (29, B true)] ?_ rfl ?_
          · as_aux_lemma => kernel_rfl
          refine ENDOPS (NEXT (IFT ?_ ?_))
          · as_aux_lemma => kernel_rfl
          refine SEQ (REGION [0, 1] rfl (RUN0 2 [] [(2, I 0), (3, B false)] ?_ rfl ?_))
          · as_aux_lemma => kernel_rfl
          refine ENDOPS (NEXT (RET (PASS trivial (OUTR (PASS trivial (PASS trivial (OUTR (PASS trivial (FIN (.tuple #[vi 0, .bool false]) ?_ () ?_ [] ?_)))))))))
          · as_aux_lemma => kernel_rfl
          · (first | (rw [number_bad (by omega)]; rfl) | (rw [number_bad (s := s) (.inr (.inr (hv0.trans (by simp only [digitsGo]; exact if_pos (by omega)))))]; rfl) | (simp only [RV]; rw [number_of (s := s) (n := n) (by omega) (by rw [hv0]; rfl)]; simp [*]))
          · rfl
        · -- decide ((y4.toNat : Int) < 48) = false
          have h6 := bh6
          have h6 := of_decide_eq_false h6
          refine RUN0 2 [7, 8, 9] [(0, .v (.string (bs s))), (4, I (n : Int)), (5, I (k : Int)), (24, B false), (25, .v (.string (bs s))), (26, I (k : Int))] ?_ rfl ?_
          · as_aux_lemma => kernel_rfl
          refine OPC (RUNV (.index 9 (.tmp 25) (.tmp 26)) 27 5 ?_ (Nat.le_of_ble_eq_true rfl) (.int .u8 (y4.toNat : Int)) (runs_sidx (s := s) (kd := .i64) (z := (k : Int)) (k := k) ?_ ?_ ?_ (by omega) rfl hx_y4) ?_)
          · as_aux_lemma => kernel_rfl
          · as_aux_lemma => kernel_rfl
          · as_aux_lemma => kernel_rfl
          · as_aux_lemma => kernel_rfl
          refine RUN0 2 [] [(0, .v (.string (bs s))), (4, I (n : Int)), (5, I (k : Int)), (29, B (decide ((y4.toNat : Int) > 57)))] ?_ rfl ?_
          · as_aux_lemma => kernel_rfl
          refine ENDOPS (NEXT (IF (decide ((y4.toNat : Int) > 57)) ?_ (fun bh7 => ?_) (fun bh7 => ?_)))
          · as_aux_lemma => kernel_rfl
          · -- decide ((y4.toNat : Int) > 57) = true
            have h7 := bh7
            have h7 := of_decide_eq_true h7
            refine SEQ (REGION [0, 1] rfl (RUN0 2 [] [(2, I 0), (3, B false)] ?_ rfl ?_))
            · as_aux_lemma => kernel_rfl
            refine ENDOPS (NEXT (RET (PASS trivial (OUTR (PASS trivial (PASS trivial (OUTR (PASS trivial (FIN (.tuple #[vi 0, .bool false]) ?_ () ?_ [] ?_)))))))))
            · as_aux_lemma => kernel_rfl
            · (first | (rw [number_bad (by omega)]; rfl) | (rw [number_bad (s := s) (.inr (.inr (hv0.trans (by simp only [digitsGo]; exact if_pos (by omega)))))]; rfl) | (simp only [RV]; rw [number_of (s := s) (n := n) (by omega) (by rw [hv0]; rfl)]; simp [*]))
            · rfl
          · -- decide ((y4.toNat : Int) > 57) = false
            have h7 := bh7
            have h7 := of_decide_eq_false h7
            refine SKIP (NEXT (REGION [0, 1, 2, 3, 4, 5, 6, 7, 8] rfl (RUN0 2 [2, 3, 4, 5, 6, 7, 8] [(0, .v (.string (bs s))), (5, I (k : Int)), (31, I (wr (10 * (n : Int))))] ?_ rfl ?_)))
            · as_aux_lemma => kernel_rfl
            refine CAST (d := 31) (vi (wr (10 * (n : Int)))) (vi ((10 * n : Nat) : Int)) ?_ (vi_cast (by omega) (by omega)) ?_
            · as_aux_lemma => kernel_rfl
            refine RUN0 2 [4, 5, 6, 7, 8] [(0, .v (.string (bs s))), (5, I (k : Int)), (31, I ((10 * n : Nat) : Int)), (32, .v (.string (bs s))), (33, I (k : Int))] ?_ rfl ?_
            · as_aux_lemma => kernel_rfl
            refine OPC (RUNV (.index 9 (.tmp 32) (.tmp 33)) 34 5 ?_ (Nat.le_of_ble_eq_true rfl) (.int .u8 (y4.toNat : Int)) (runs_sidx (s := s) (kd := .i64) (z := (k : Int)) (k := k) ?_ ?_ ?_ (by omega) rfl hx_y4) ?_)
            · as_aux_lemma => kernel_rfl
            · as_aux_lemma => kernel_rfl
            · as_aux_lemma => kernel_rfl
            · as_aux_lemma => kernel_rfl
            refine RUN0 1 [6, 7, 8] [(0, .v (.string (bs s))), (5, I (k : Int)), (31, I ((10 * n : Nat) : Int)), (35, .v (.int .u8 (IntKind.wrap .u8 ((y4.toNat : Int) - 48))))] ?_ rfl ?_
            · as_aux_lemma => kernel_rfl
            refine CAST (d := 35) (.int .u8 (IntKind.wrap .u8 ((y4.toNat : Int) - 48))) (.int .u8 ((y4.toNat - 48 : Nat) : Int)) ?_ (v8sub48 (by omega)) ?_
            · as_aux_lemma => kernel_rfl
            refine RUN0 1 [7, 8] [(0, .v (.string (bs s))), (5, I (k : Int)), (31, I ((10 * n : Nat) : Int)), (36, I (IntKind.wrap .i64 ((y4.toNat - 48 : Nat) : Int)))] ?_ rfl ?_
            · as_aux_lemma => kernel_rfl
            refine CAST (d := 36) (vi (IntKind.wrap .i64 ((y4.toNat - 48 : Nat) : Int))) (vi ((y4.toNat - 48 : Nat) : Int)) ?_ (vi_cast (by omega) (by omega)) ?_
            · as_aux_lemma => kernel_rfl
            refine RUN0 1 [8] [(0, .v (.string (bs s))), (5, I (k : Int)), (37, I (wr (((10 * n : Nat) : Int) + ((y4.toNat - 48 : Nat) : Int))))] ?_ rfl ?_
            · as_aux_lemma => kernel_rfl
            refine CAST (d := 37) (vi (wr (((10 * n : Nat) : Int) + ((y4.toNat - 48 : Nat) : Int)))) (vi (((10 * n) + (y4.toNat - 48) : Nat) : Int)) ?_ (vi_cast (by omega) (by omega)) ?_
            · as_aux_lemma => kernel_rfl
            refine RUN0 1 [] [(0, .v (.string (bs s))), (4, I (((10 * n) + (y4.toNat - 48) : Nat) : Int)), (5, I (k : Int))] ?_ rfl ?_
            · as_aux_lemma => kernel_rfl
            refine ENDOPS (OUTN (NEXT (REGION [0, 1, 2] rfl (RUN0 2 [2] [(0, .v (.string (bs s))), (4, I (((10 * n) + (y4.toNat - 48) : Nat) : Int)), (19, I (wr ((k : Int) + 1)))] ?_ rfl ?_))))
            · as_aux_lemma => kernel_rfl
            refine CAST (d := 19) (vi (wr ((k : Int) + 1))) (vi ((k + 1 : Nat) : Int)) ?_ (vi_cast (by omega) (by omega)) ?_
            · as_aux_lemma => kernel_rfl
            refine RUN0 1 [] [(0, .v (.string (bs s))), (4, I (((10 * n) + (y4.toNat - 48) : Nat) : Int)), (5, I ((k + 1 : Nat) : Int))] ?_ rfl ?_
            · as_aux_lemma => kernel_rfl
            refine ENDOPS (BACK (k + 1, ys5, (10 * n) + (y4.toNat - 48)) [0, 4, 5] 0 [] _ ⟨hl_y4, hd_y4, hv0.trans (by simp only [digitsGo]; refine (if_neg (by omega)).trans ?_; first | rfl | (congr 1; omega)), (by dsimp only; omega)⟩ (by simp) ?_ rfl rfl rfl)
            · as_aux_lemma => kernel_rfl
      · -- decide ((k : Int) < (s.length : Int)) = false
        have h3 := bh3
        have h3 := of_decide_eq_false h3
        obtain rfl := drop_nil hk (by omega)
        have hp9 := p10_max (k := k) (by omega)
        refine EXIT (PASS trivial (PASS trivial (OUT (NEXT (SEQ (SEQ (REGION [0, 1, 2, 3] rfl (RUN0 1 [1, 2, 3] [(0, .v (.string (bs s))), (4, I (n : Int)), (38, I (n : Int))] ?_ rfl ?_))))))))
        · as_aux_lemma => kernel_rfl
        refine OPC (CALL 34 #[vi (n : Int)] (some 39) ?_ [] [] _ rfl (RV (.string (bs (Lib.itoa (n : Int))))) (fun w hw => iDigits_c w (n : Int) (by first | assumption | exact wr_range _ | (unfold i64R at *; omega) | (simp only [i64R] at *; omega)) (htab.fr hw.fr)) (by rintro _ ⟨⟩; exact Nat.le_of_ble_eq_true rfl) ?_)
        · as_aux_lemma => kernel_rfl
        rintro ⟨⟩
        have hr8 := itoa_len (n := (n : Int)) (by first | assumption | exact wr_range _ | (unfold i64R at *; omega) | (simp only [i64R] at *; omega))
        refine RUN0 1 [3] [(4, I (n : Int)), (39, .v (.string (bs (Lib.itoa (n : Int))))), (40, .v (.string (bs s)))] ?_ rfl ?_
        · as_aux_lemma => kernel_rfl
        refine OPC (RUNV (.binOp .neq 9 (.tmp 39) (.tmp 40) 9) 41 4 ?_ (Nat.le_of_ble_eq_true rfl) (.bool (!((Lib.itoa (n : Int)) == s))) (runs_sneq (a := Lib.itoa (n : Int)) (b := s) ?_ ?_) ?_)
        · as_aux_lemma => kernel_rfl
        · as_aux_lemma => kernel_rfl
        · as_aux_lemma => kernel_rfl
        refine ENDOPS (NEXT (IF (!((Lib.itoa (n : Int)) == s)) ?_ (fun bh9 => ?_) (fun bh9 => ?_)))
        · as_aux_lemma => kernel_rfl
        · -- !((Lib.itoa (n : Int)) == s) = true
          have h9 := bh9
          have h9 := notT h9
          have h9 := ne_of_beq_false h9
          refine SEQ (REGION [0, 1] rfl (RUN0 2 [] [(2, I 0), (3, B false)] ?_ rfl ?_))
          · as_aux_lemma => kernel_rfl
          refine ENDOPS (NEXT (RET (PASS trivial (FIN (.tuple #[vi 0, .bool false]) ?_ () ?_ [] ?_))))
          · as_aux_lemma => kernel_rfl
          · (first | (rw [number_bad (by omega)]; rfl) | (rw [number_bad (s := s) (.inr (.inr (hv0.trans (by simp only [digitsGo]; exact if_pos (by omega)))))]; rfl) | (simp only [RV]; rw [number_of (s := s) (n := n) (by omega) (by rw [hv0]; rfl)]; simp [*]))
          · rfl
        · -- !((Lib.itoa (n : Int)) == s) = false
          have h9 := bh9
          have h9 := notF h9
          have h9 := eq_of_beq h9
          refine SKIP (NEXT (SEQ (REGION [0, 1, 2] rfl (RUN0 3 [] [(2, I (n : Int)), (3, B true)] ?_ rfl ?_))))
          · as_aux_lemma => kernel_rfl
          refine ENDOPS (NEXT (RET (FIN (.tuple #[vi (n : Int), .bool true]) ?_ () ?_ [] ?_)))
          · as_aux_lemma => kernel_rfl
          · (first | (rw [number_bad (by omega)]; rfl) | (rw [number_bad (s := s) (.inr (.inr (hv0.trans (by simp only [digitsGo]; exact if_pos (by omega)))))]; rfl) | (simp only [RV]; rw [number_of (s := s) (n := n) (by omega) (by rw [hv0]; rfl)]; simp [*]))
          · rfl

theorem split_c (W : World) (s : List UInt8) (sep : List UInt8) (h1 : sep.length = 1) (hl : s.length ≤ 1048576) (hmx : MaxL Tryd.prog W) : Spec Tryd.prog W [] 43 #[.string (bs s), .string (bs sep)] (⟨HH, fun p => .slice p.1 ((parts s ((sep).headD 0)).length) p.2, fun p => [slA 9 strL (.slice p.1 (parts s ((sep).headD 0)).length p.2) (parts s ((sep).headD 0))]⟩) := Spec.split h1 hl hmx (fun s sep m hs hm h1 => Tryd.strings_Split s sep m W hs hm h1)

theorem iParts_c (W : World) (s : List UInt8) (c : UInt8) (hl : s.length ≤ 1048576) (hmx : MaxL Tryd.prog W) : Spec Tryd.prog W [] 20 #[.string (bs s), .int .u8 (c.toNat : Int)] (⟨HH, fun p => .slice p.1 ((parts s c).length) p.2, fun p => [slA 9 strL (.slice p.1 (parts s c).length p.2) (parts s c)]⟩) := by
  refine ENTER0 (N := 10) (vs := [.string (bs s), .int .u8 (c.toNat : Int)]) Tryd.func20 rfl rfl (Nat.le_of_ble_eq_true rfl) ?_
  refine SEQ (REGION [0] rfl (RUN0 1 [] [(0, .v (.string (bs s))), (1, .v (.int .u8 (c.toNat : Int)))] ?_ rfl ?_))
  · as_aux_lemma => kernel_rfl
  refine ENDOPS (NEXT (SEQ (REGION [0, 1, 2, 3, 4, 5] rfl (RUN0 2 [2, 3, 4, 5] [(5, .v (.string (bs s))), (6, .v (.int .u8 (c.toNat : Int)))] ?_ rfl ?_))))
  · as_aux_lemma => kernel_rfl
  refine OPC (BUILDS 38 1 #[(0, .tmp 6)] 7 38 ?_ (Nat.le_of_ble_eq_true rfl) 5 [.int .u8 (c.toNat : Int)] ?_ byteL ([c] : List UInt8) rfl (by simp only [maxLen]; omega) [] [] _ rfl (flatRep rfl) (fun a1 ha2 => ?_))
  · as_aux_lemma => kernel_rfl
  · as_aux_lemma => kernel_rfl
  refine FACT (1 = ([c] : List UInt8).length) (fun w hw => (SlO.lenE (hw.own 0 rfl)).1) (fun hln3 => ?_)
  refine OPC (RUNV (.convert 38 9 (.tmp 7)) 8 9 ?_ (Nat.le_of_ble_eq_true rfl) (.string (bs ([c] : List UInt8))) (runs_bstr (a := a1) (n := 1) (c := 1) (xs := ([c] : List UInt8)) (e := 5) ?_ ?_ ?_ ?_ hln3.symm (fun w hw => (Rd.own (hw.own 0 rfl)))) ?_)
  · as_aux_lemma => kernel_rfl
  · as_aux_lemma => kernel_rfl
  · as_aux_lemma => kernel_rfl
  · as_aux_lemma => kernel_rfl
  · as_aux_lemma => kernel_rfl
  refine OPC (CALL 43 #[.string (bs s), .string (bs ([c] : List UInt8))] (some 9) ?_ [] [] _ rfl (⟨HH, fun p => .slice p.1 ((parts s ((([c] : List UInt8)).headD 0)).length) p.2, fun p => [slA 9 strL (.slice p.1 (parts s ((([c] : List UInt8)).headD 0)).length p.2) (parts s ((([c] : List UInt8)).headD 0))]⟩) (fun w hw => split_c w s ([c] : List UInt8) (by rfl) (by first | assumption | omega) (hmx.fr hw.fr)) (by rintro _ ⟨⟩; exact Nat.le_of_ble_eq_true rfl) ?_)
  · as_aux_lemma => kernel_rfl
  rintro ⟨a4, c5⟩
  refine RUN0 1 [] [(4, .v (.slice a4 ((parts s ((([c] : List UInt8)).headD 0)).length) c5))] ?_ rfl ?_
  · as_aux_lemma => kernel_rfl
  refine ENDOPS (NEXT (RET (FIN (.slice a4 ((parts s ((([c] : List UInt8)).headD 0)).length) c5) ?_ (a4, c5) ?_ [1] ?_)))
  · as_aux_lemma => kernel_rfl
  · rfl
  · rfl

end SX
end Go.Proofs.YtpdijcbgdalphaaDoor
