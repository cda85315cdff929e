/- Walks, printed by program. -/
import Derived.Test.YtpdijcbgdalphabGreatDoorV3
import Derived.Test.YtpdijcbgdalphabGreatDoorMdlc
namespace Go.Proofs.YtpdijcbgdalphabGreatDoor
namespace SX
open Go Go.RowKit
set_option linter.unusedVariables false
set_option linter.unusedSimpArgs false
set_option maxRecDepth 10000
set_option maxHeartbeats 400000
theorem sNumber_c (W : World) (s : List UInt8) : Spec Tryz.prog W [] 62 #[.string (bs s)] (RV (.tuple #[vi (((number s).getD 0 : Nat) : Int), .bool ((number s).isSome)])) := by
 refine ENTER0 (N := 43) (vs := [.string (bs s)]) Tryz.func62 rfl rfl (NL rfl) ?_
 refine SEQ (REGION [0, 1] rfl (RUN0 2 [] [(0, .v (.string (bs s)))] ?_ rfl ?_))
 · as_aux_lemma => kernel_rfl
 refine ENDOPS (NEXT (SEQ (SEQ (REGION [0, 1, 2, 3, 4, 5, 6, 7] rfl (RUN0 4 [4, 5, 6, 7] [(0, .v (.string (bs s))), (9, B (decide ((s.length : Int) < 1)))] ?_ rfl ?_)))))
 · as_aux_lemma => kernel_rfl
 refine SPLIT (d := 9) (decide ((s.length : Int) < 1)) ?_ (fun bh1 => ?_) (fun bh1 => ?_)
 · as_aux_lemma => kernel_rfl
 ·
  have h1 := bh1
  have h1 := of_decide_eq_true h1
  refine RUN0 4 [] [(0, .v (.string (bs s))), (13, B true)] ?_ rfl ?_
  · as_aux_lemma => kernel_rfl
  refine ENDOPS (NEXT (IFT ?_ ?_))
  · as_aux_lemma => kernel_rfl
  refine SEQ (REGION [0, 1] rfl (RUN0 2 [] [(2, I 0), (3, B false)] ?_ rfl ?_))
  · as_aux_lemma => kernel_rfl
  refine ENDOPS (NEXT (RET (PASS trivial (FIN (.tuple #[vi 0, .bool false]) ?_ () ?_ [] ?_))))
  · as_aux_lemma => kernel_rfl
  · (first | (rw [number_bad (by omega)]; rfl) | (rw [number_bad (s := s) (.inr (.inr (hv0.trans (by simp only [digitsGo]; exact if_pos (by omega)))))]; rfl) | (simp only [RV]; rw [number_of (s := s) (n := n) (by omega) (by rw [hv0]; rfl)]; simp [*]))
  · rfl
 ·
  have h1 := bh1
  have h1 := of_decide_eq_false h1
  refine RUN0 4 [] [(0, .v (.string (bs s))), (13, B (decide ((s.length : Int) > 6)))] ?_ rfl ?_
  · as_aux_lemma => kernel_rfl
  refine ENDOPS (NEXT (IF (decide ((s.length : Int) > 6)) ?_ (fun bh2 => ?_) (fun bh2 => ?_)))
  · as_aux_lemma => kernel_rfl
  ·
   have h2 := bh2
   have h2 := of_decide_eq_true h2
   refine SEQ (REGION [0, 1] rfl (RUN0 2 [] [(2, I 0), (3, B false)] ?_ rfl ?_))
   · as_aux_lemma => kernel_rfl
   refine ENDOPS (NEXT (RET (PASS trivial (FIN (.tuple #[vi 0, .bool false]) ?_ () ?_ [] ?_))))
   · as_aux_lemma => kernel_rfl
   · (first | (rw [number_bad (by omega)]; rfl) | (rw [number_bad (s := s) (.inr (.inr (hv0.trans (by simp only [digitsGo]; exact if_pos (by omega)))))]; rfl) | (simp only [RV]; rw [number_of (s := s) (n := n) (by omega) (by rw [hv0]; rfl)]; simp [*]))
   · rfl
  ·
   have h2 := bh2
   have h2 := of_decide_eq_false h2
   refine SKIP (NEXT (SEQ (REGION [0] rfl (RUN0 1 [] [(0, .v (.string (bs s))), (4, I 0)] ?_ rfl ?_))))
   · as_aux_lemma => kernel_rfl
   refine ENDOPS (NEXT (SEQ (SEQ (REGION [0] rfl (RUN0 1 [] [(0, .v (.string (bs s))), (4, I 0), (5, I 0)] ?_ rfl ?_)))))
   · as_aux_lemma => kernel_rfl
   refine ENDOPS (NEXT (BLOCK (LOOP (ι := Nat × (List UInt8) × Nat) (fun j => [(0, .v (.string (bs s))), (4, I (j.2.2 : Int)), (5, I (j.1 : Int))]) (fun j => []) (fun j => []) (fun j => j.1 + j.2.1.length = s.length ∧ s.drop j.1 = j.2.1 ∧ digitsGo 0 s = digitsGo j.2.2 j.2.1 ∧ j.2.2 < p10 j.1) (fun j => j.2.1.length) (0, s, 0) [0, 4, 5] ⟨by simp, rfl, rfl, show 0 < p10 0 by decide⟩ ?_ rfl rfl ?_)))
   · as_aux_lemma => kernel_rfl
   rintro ⟨k, ys, n⟩ ⟨hk, hd, hv0, hv1⟩
   try dsimp only at hk hd hv0 hv1
   refine SEQ (SEQ (REGION [0, 1, 2, 3] rfl (RUN0 4 [] [(0, .v (.string (bs s))), (4, I (n : Int)), (5, I (k : Int)), (17, B (decide ((k : Int) < (s.length : Int))))] ?_ rfl ?_)))
   · as_aux_lemma => kernel_rfl
   refine ENDOPS (NEXT (IF (decide ((k : Int) < (s.length : Int))) ?_ (fun bh3 => ?_) (fun bh3 => ?_)))
   · as_aux_lemma => kernel_rfl
   ·
    have h3 := bh3
    have h3 := of_decide_eq_true h3
    obtain ⟨y4, ys5, rfl, hx_y4, hd_y4, hl_y4⟩ := drop_cons hd hk (by omega)
    have hp_y4 := p10_le (k := k) (by omega)
    have := UInt8.toNat_lt y4
    refine SKIP (NEXT (SEQ (BLOCK (SEQ (SEQ (REGION [0, 1, 2, 3, 4, 5, 6, 7, 8, 9] rfl (RUN0 2 [2, 3, 4, 5, 6, 7, 8, 9] [(0, .v (.string (bs s))), (4, I (n : Int)), (5, I (k : Int)), (20, .v (.string (bs s))), (21, I (k : Int))] ?_ rfl ?_)))))))
    · as_aux_lemma => kernel_rfl
    refine OPC (RUNV (.index 9 (.tmp 20) (.tmp 21)) 22 5 ?_ (NL rfl) (.int .u8 (y4.toNat : Int)) (runs_sidx (s := s) (kd := .i64) (z := (k : Int)) (k := k) ?_ ?_ ?_ (by omega) rfl hx_y4) ?_)
    iterate 4 (as_aux_lemma => kernel_rfl)
    refine RUN0 2 [5, 6, 7, 8, 9] [(0, .v (.string (bs s))), (4, I (n : Int)), (5, I (k : Int)), (24, B (decide ((y4.toNat : Int) < 48)))] ?_ rfl ?_
    · as_aux_lemma => kernel_rfl
    refine SPLIT (d := 24) (decide ((y4.toNat : Int) < 48)) ?_ (fun bh6 => ?_) (fun bh6 => ?_)
    · as_aux_lemma => kernel_rfl
    ·
     have h6 := bh6
     have h6 := of_decide_eq_true h6
     refine RUN0 5 [] [(0, .v (.string (bs s))), (4, I (n : Int)), (5, I (k : Int)), (29, B true)] ?_ rfl ?_
     · as_aux_lemma => kernel_rfl
     refine ENDOPS (NEXT (IFT ?_ ?_))
     · as_aux_lemma => kernel_rfl
     refine SEQ (REGION [0, 1] rfl (RUN0 2 [] [(2, I 0), (3, B false)] ?_ rfl ?_))
     · as_aux_lemma => kernel_rfl
     refine ENDOPS (NEXT (RET (PASS trivial (OUTR (PASS trivial (PASS trivial (OUTR (PASS trivial (FIN (.tuple #[vi 0, .bool false]) ?_ () ?_ [] ?_)))))))))
     · as_aux_lemma => kernel_rfl
     · (first | (rw [number_bad (by omega)]; rfl) | (rw [number_bad (s := s) (.inr (.inr (hv0.trans (by simp only [digitsGo]; exact if_pos (by omega)))))]; rfl) | (simp only [RV]; rw [number_of (s := s) (n := n) (by omega) (by rw [hv0]; rfl)]; simp [*]))
     · rfl
    ·
     have h6 := bh6
     have h6 := of_decide_eq_false h6
     refine RUN0 2 [7, 8, 9] [(0, .v (.string (bs s))), (4, I (n : Int)), (5, I (k : Int)), (24, B false), (25, .v (.string (bs s))), (26, I (k : Int))] ?_ rfl ?_
     · as_aux_lemma => kernel_rfl
     refine OPC (RUNV (.index 9 (.tmp 25) (.tmp 26)) 27 5 ?_ (NL rfl) (.int .u8 (y4.toNat : Int)) (runs_sidx (s := s) (kd := .i64) (z := (k : Int)) (k := k) ?_ ?_ ?_ (by omega) rfl hx_y4) ?_)
     iterate 4 (as_aux_lemma => kernel_rfl)
     refine RUN0 2 [] [(0, .v (.string (bs s))), (4, I (n : Int)), (5, I (k : Int)), (29, B (decide ((y4.toNat : Int) > 57)))] ?_ rfl ?_
     · as_aux_lemma => kernel_rfl
     refine ENDOPS (NEXT (IF (decide ((y4.toNat : Int) > 57)) ?_ (fun bh7 => ?_) (fun bh7 => ?_)))
     · as_aux_lemma => kernel_rfl
     ·
      have h7 := bh7
      have h7 := of_decide_eq_true h7
      refine SEQ (REGION [0, 1] rfl (RUN0 2 [] [(2, I 0), (3, B false)] ?_ rfl ?_))
      · as_aux_lemma => kernel_rfl
      refine ENDOPS (NEXT (RET (PASS trivial (OUTR (PASS trivial (PASS trivial (OUTR (PASS trivial (FIN (.tuple #[vi 0, .bool false]) ?_ () ?_ [] ?_)))))))))
      · as_aux_lemma => kernel_rfl
      · (first | (rw [number_bad (by omega)]; rfl) | (rw [number_bad (s := s) (.inr (.inr (hv0.trans (by simp only [digitsGo]; exact if_pos (by omega)))))]; rfl) | (simp only [RV]; rw [number_of (s := s) (n := n) (by omega) (by rw [hv0]; rfl)]; simp [*]))
      · rfl
     ·
      have h7 := bh7
      have h7 := of_decide_eq_false h7
      refine SKIP (NEXT (REGION [0, 1, 2, 3, 4, 5, 6, 7, 8] rfl (RUN0 2 [2, 3, 4, 5, 6, 7, 8] [(0, .v (.string (bs s))), (5, I (k : Int)), (31, I (wr (10 * (n : Int))))] ?_ rfl ?_)))
      · as_aux_lemma => kernel_rfl
      refine CAST (d := 31) (vi (wr (10 * (n : Int)))) (vi ((10 * n : Nat) : Int)) ?_ (vi_cast (by omega) (by omega)) ?_
      · as_aux_lemma => kernel_rfl
      refine RUN0 2 [4, 5, 6, 7, 8] [(0, .v (.string (bs s))), (5, I (k : Int)), (31, I ((10 * n : Nat) : Int)), (32, .v (.string (bs s))), (33, I (k : Int))] ?_ rfl ?_
      · as_aux_lemma => kernel_rfl
      refine OPC (RUNV (.index 9 (.tmp 32) (.tmp 33)) 34 5 ?_ (NL rfl) (.int .u8 (y4.toNat : Int)) (runs_sidx (s := s) (kd := .i64) (z := (k : Int)) (k := k) ?_ ?_ ?_ (by omega) rfl hx_y4) ?_)
      iterate 4 (as_aux_lemma => kernel_rfl)
      refine RUN0 1 [6, 7, 8] [(0, .v (.string (bs s))), (5, I (k : Int)), (31, I ((10 * n : Nat) : Int)), (35, I (IntKind.wrap .i64 (y4.toNat : Int)))] ?_ rfl ?_
      · as_aux_lemma => kernel_rfl
      refine CAST (d := 35) (vi (IntKind.wrap .i64 (y4.toNat : Int))) (vi (y4.toNat : Int)) ?_ (vi_u8 y4) ?_
      · as_aux_lemma => kernel_rfl
      refine RUN0 1 [7, 8] [(0, .v (.string (bs s))), (5, I (k : Int)), (36, I (wr (((10 * n : Nat) : Int) + (y4.toNat : Int))))] ?_ rfl ?_
      · as_aux_lemma => kernel_rfl
      refine CAST (d := 36) (vi (wr (((10 * n : Nat) : Int) + (y4.toNat : Int)))) (vi (((10 * n) + y4.toNat : Nat) : Int)) ?_ (vi_cast (by omega) (by omega)) ?_
      · as_aux_lemma => kernel_rfl
      refine RUN0 1 [8] [(0, .v (.string (bs s))), (5, I (k : Int)), (37, I (wr ((((10 * n) + y4.toNat : Nat) : Int) - 48)))] ?_ rfl ?_
      · as_aux_lemma => kernel_rfl
      refine CAST (d := 37) (vi (wr ((((10 * n) + y4.toNat : Nat) : Int) - 48))) (vi ((((10 * n) + y4.toNat) - 48 : Nat) : Int)) ?_ (vi_cast (by omega) (by omega)) ?_
      · as_aux_lemma => kernel_rfl
      refine RUN0 1 [] [(0, .v (.string (bs s))), (4, I ((((10 * n) + y4.toNat) - 48 : Nat) : Int)), (5, I (k : Int))] ?_ rfl ?_
      · as_aux_lemma => kernel_rfl
      refine ENDOPS (OUTN (NEXT (REGION [0, 1, 2] rfl (RUN0 2 [2] [(0, .v (.string (bs s))), (4, I ((((10 * n) + y4.toNat) - 48 : Nat) : Int)), (19, I (wr ((k : Int) + 1)))] ?_ rfl ?_))))
      · as_aux_lemma => kernel_rfl
      refine CAST (d := 19) (vi (wr ((k : Int) + 1))) (vi ((k + 1 : Nat) : Int)) ?_ (vi_cast (by omega) (by omega)) ?_
      · as_aux_lemma => kernel_rfl
      refine RUN0 1 [] [(0, .v (.string (bs s))), (4, I ((((10 * n) + y4.toNat) - 48 : Nat) : Int)), (5, I ((k + 1 : Nat) : Int))] ?_ rfl ?_
      · as_aux_lemma => kernel_rfl
      refine ENDOPS (BACK (k + 1, ys5, ((10 * n) + y4.toNat) - 48) [0, 4, 5] 0 [] _ ⟨hl_y4, hd_y4, hv0.trans (by simp only [digitsGo]; refine (if_neg (by omega)).trans ?_; first | rfl | (congr 1; omega)), (by dsimp only; omega)⟩ (by simp) ?_ rfl rfl rfl)
      · as_aux_lemma => kernel_rfl
   ·
    have h3 := bh3
    have h3 := of_decide_eq_false h3
    obtain rfl := drop_nil hk (by omega)
    have hp9 := p10_max (k := k) (by omega)
    refine EXIT (PASS trivial (PASS trivial (OUT (NEXT (SEQ (SEQ (REGION [0, 1, 2, 3] rfl (RUN0 1 [1, 2, 3] [(0, .v (.string (bs s))), (4, I (n : Int)), (38, I (n : Int))] ?_ rfl ?_))))))))
    · as_aux_lemma => kernel_rfl
    refine OPC (CALL 37 #[vi (n : Int)] (some 39) ?_ [] [] _ rfl (RV (.string (bs (Lib.itoa (n : Int))))) (fun w hw => sDigits_c w (n : Int) (by first | assumption | exact wr_range _ | (unfold i64R at *; omega) | (simp only [i64R] at *; omega))) (NO rfl) ?_)
    · as_aux_lemma => kernel_rfl
    rintro ⟨⟩
    have hr8 := itoa_len (n := (n : Int)) (by first | assumption | exact wr_range _ | (unfold i64R at *; omega) | (simp only [i64R] at *; omega))
    refine RUN0 1 [3] [(4, I (n : Int)), (39, .v (.string (bs (Lib.itoa (n : Int))))), (40, .v (.string (bs s)))] ?_ rfl ?_
    · as_aux_lemma => kernel_rfl
    refine OPC (RUNV (.binOp .neq 9 (.tmp 39) (.tmp 40) 9) 41 4 ?_ (NL rfl) (.bool (!((Lib.itoa (n : Int)) == s))) (runs_sneq (a := Lib.itoa (n : Int)) (b := s) ?_ ?_) ?_)
    iterate 3 (as_aux_lemma => kernel_rfl)
    refine ENDOPS (NEXT (IF (!((Lib.itoa (n : Int)) == s)) ?_ (fun bh9 => ?_) (fun bh9 => ?_)))
    · as_aux_lemma => kernel_rfl
    ·
     have h9 := bh9
     have h9 := notT h9
     have h9 := ne_of_beq_false h9
     refine SEQ (REGION [0, 1] rfl (RUN0 2 [] [(2, I 0), (3, B false)] ?_ rfl ?_))
     · as_aux_lemma => kernel_rfl
     refine ENDOPS (NEXT (RET (PASS trivial (FIN (.tuple #[vi 0, .bool false]) ?_ () ?_ [] ?_))))
     · as_aux_lemma => kernel_rfl
     · (first | (rw [number_bad (by omega)]; rfl) | (rw [number_bad (s := s) (.inr (.inr (hv0.trans (by simp only [digitsGo]; exact if_pos (by omega)))))]; rfl) | (simp only [RV]; rw [number_of (s := s) (n := n) (by omega) (by rw [hv0]; rfl)]; simp [*]))
     · rfl
    ·
     have h9 := bh9
     have h9 := notF h9
     have h9 := eq_of_beq h9
     refine SKIP (NEXT (SEQ (REGION [0, 1, 2] rfl (RUN0 3 [] [(2, I (n : Int)), (3, B true)] ?_ rfl ?_))))
     · as_aux_lemma => kernel_rfl
     refine ENDOPS (NEXT (RET (FIN (.tuple #[vi (n : Int), .bool true]) ?_ () ?_ [] ?_)))
     · as_aux_lemma => kernel_rfl
     · (first | (rw [number_bad (by omega)]; rfl) | (rw [number_bad (s := s) (.inr (.inr (hv0.trans (by simp only [digitsGo]; exact if_pos (by omega)))))]; rfl) | (simp only [RV]; rw [number_of (s := s) (n := n) (by omega) (by rw [hv0]; rfl)]; simp [*]))
     · rfl

theorem sParts_c (W : World) (s : List UInt8) (c : UInt8) (hl : s.length ≤ 1048576) : Spec Tryz.prog W [] 25 #[.string (bs s), .int .u8 (c.toNat : Int)] (⟨HH, fun p => .slice p.1 ((parts s c).length) p.2, fun p => [slA 9 strL (.slice p.1 (parts s c).length p.2) (parts s c)]⟩) := by
 refine ENTER0 (N := 36) (vs := [.string (bs s), .int .u8 (c.toNat : Int)]) Tryz.func25 rfl rfl (NL rfl) ?_
 refine SEQ (REGION [0] rfl (RUN0 1 [] [(0, .v (.string (bs s))), (1, .v (.int .u8 (c.toNat : Int)))] ?_ rfl ?_))
 · as_aux_lemma => kernel_rfl
 refine ENDOPS (NEXT (SEQ (REGION [0, 1] rfl (OPC (BUILDS 36 0 #[] 8 36 ?_ (NL rfl) 9 [] ?_ strL [] rfl (by simp only [maxLen]; omega) [] [] _ rfl (flatRep rfl) (fun a1 ha2 => ?_))))))
 iterate 2 (as_aux_lemma => kernel_rfl)
 refine RUN0 1 [] [(0, .v (.string (bs s))), (1, .v (.int .u8 (c.toNat : Int))), (5, .v (.slice a1 0 0))] ?_ rfl ?_
 · as_aux_lemma => kernel_rfl
 refine ENDOPS (NEXT (SEQ (REGION [0] rfl (RUN0 1 [] [(0, .v (.string (bs s))), (1, .v (.int .u8 (c.toNat : Int))), (5, .v (.slice a1 0 0)), (6, I 0)] ?_ rfl ?_))))
 · as_aux_lemma => kernel_rfl
 refine ENDOPS (NEXT (SEQ (SEQ (REGION [0] rfl (RUN0 1 [] [(0, .v (.string (bs s))), (1, .v (.int .u8 (c.toNat : Int))), (5, .v (.slice a1 0 0)), (6, I 0), (7, I 0)] ?_ rfl ?_)))))
 · as_aux_lemma => kernel_rfl
 refine ENDOPS (NEXT (BLOCK (LOOP (ι := Nat × Nat × (Option Addr) × Nat × (List (List UInt8))) (fun j => [(0, .v (.string (bs s))), (1, .v (.int .u8 (c.toNat : Int))), (5, .v (.slice j.2.2.1 j.2.2.2.2.length j.2.2.2.1)), (6, I (j.2.1 : Int)), (7, I (j.1 : Int))]) (fun j => []) (fun j => [slA 9 strL (.slice j.2.2.1 j.2.2.2.2.length j.2.2.2.1) j.2.2.2.2]) (fun j => ((j.1 ≤ s.length ∧ j.2.1 ≤ j.1 ∧ parts s c = j.2.2.2.2 ++ partsGo c ((s.drop j.2.1).take (j.1 - j.2.1)) (s.drop j.1)) ∨ (j.1 = s.length + 1 ∧ parts s c = j.2.2.2.2)) ∧ j.2.2.2.2.length ≤ j.1 ∧ j.1 ≤ s.length + 1) (fun j => s.length + 1 - j.1) (0, 0, a1, 0, []) [0, 1, 5, 6, 7] ⟨.inl ⟨by dsimp only; omega, by dsimp only; omega, by simp [parts]⟩, by simp, by dsimp only; omega⟩ ?_ rfl rfl ?_)))
 · as_aux_lemma => kernel_rfl
 rintro ⟨i, fr, oa, oc, out⟩ ⟨hv, hol, hil⟩
 try dsimp only at hv hol hil
 refine SEQ (SEQ (REGION [0, 1, 2, 3] rfl (RUN0 4 [] [(0, .v (.string (bs s))), (1, .v (.int .u8 (c.toNat : Int))), (5, .v (.slice oa out.length oc)), (6, I (fr : Int)), (7, I (i : Int)), (12, B (decide ((i : Int) ≤ (s.length : Int))))] ?_ rfl ?_)))
 · as_aux_lemma => kernel_rfl
 refine ENDOPS (NEXT (IF (decide ((i : Int) ≤ (s.length : Int))) ?_ (fun bh3 => ?_) (fun bh3 => ?_)))
 · as_aux_lemma => kernel_rfl
 ·
  have h3 := bh3
  have h3 := of_decide_eq_true h3
  obtain ⟨hv2, hv3, hv4⟩ := hv.resolve_right (fun e => by have := e.1; omega)
  refine SKIP (NEXT (SEQ (BLOCK (SEQ (REGION [0, 1, 2, 3, 4, 5, 6, 7, 8, 9, 10] rfl (RUN0 5 [5, 6, 7, 8, 9, 10] [(0, .v (.string (bs s))), (1, .v (.int .u8 (c.toNat : Int))), (5, .v (.slice oa out.length oc)), (6, I (fr : Int)), (7, I (i : Int)), (19, B ((i : Int) == (s.length : Int)))] ?_ rfl ?_))))))
  · as_aux_lemma => kernel_rfl
  refine SPLIT (d := 19) ((i : Int) == (s.length : Int)) ?_ (fun bh4 => ?_) (fun bh4 => ?_)
  · as_aux_lemma => kernel_rfl
  ·
   have h4 := bh4
   have h4 := eq_of_beq h4
   refine RUN0 6 [] [(0, .v (.string (bs s))), (1, .v (.int .u8 (c.toNat : Int))), (5, .v (.slice oa out.length oc)), (6, I (fr : Int)), (7, I (i : Int)), (25, B true)] ?_ rfl ?_
   · as_aux_lemma => kernel_rfl
   refine ENDOPS (NEXT (IFT ?_ ?_))
   · as_aux_lemma => kernel_rfl
   refine SEQ (REGION [0, 1, 2, 3, 4, 5, 6, 7] rfl (RUN0 4 [4, 5, 6, 7] [(0, .v (.string (bs s))), (1, .v (.int .u8 (c.toNat : Int))), (7, I (i : Int)), (26, .v (.slice oa out.length oc)), (27, .v (.string (bs s))), (28, I (fr : Int)), (29, I (i : Int))] ?_ rfl ?_))
   · as_aux_lemma => kernel_rfl
   refine OPC (RUNV (.slice 9 (.tmp 27) (some (.tmp 28)) (some (.tmp 29)) none) 30 9 ?_ (NL rfl) (.string (bs ((s.drop fr).take (i - fr)))) (runs_sub (s := s) (kl := .i64) (kh := .i64) (i := (fr : Int)) (j := (i : Int)) ?_ ?_ ?_ ?_ (by first | omega | (simp only [List.length_append, List.length_cons, List.length_nil, List.length_take, List.length_drop] at *; omega)) (by first | omega | (simp only [List.length_append, List.length_cons, List.length_nil, List.length_take, List.length_drop] at *; omega)) (by first | omega | (simp only [List.length_append, List.length_cons, List.length_nil, List.length_take, List.length_drop] at *; omega))) ?_)
   iterate 5 (as_aux_lemma => kernel_rfl)
   refine OPC (BUILDS 36 1 #[(0, .tmp 30)] 31 36 ?_ (NL rfl) 9 [.string (bs ((s.drop fr).take (i - fr)))] ?_ strL ([(s.drop fr).take (i - fr)] : List (List UInt8)) rfl (by simp only [maxLen]; omega) [] [] _ rfl (flatRep rfl) (fun a5 ha6 => ?_))
   iterate 2 (as_aux_lemma => kernel_rfl)
   refine OPC (APPENDO 36 (.tmp 26) (.tmp 31) 32 36 ?_ (NL rfl) (.slice oa out.length oc) a5 1 1 ?_ ?_ ha6 9 ?_ strL (.string (bs [])) 16 ?_ rfl (by decide) 0 0 out ([(s.drop fr).take (i - fr)] : List (List UInt8)) _ rfl rfl (by first | omega | (simp only [List.length_append, List.length_cons, List.length_nil, List.length_take, List.length_drop] at *; omega)) (by simp only [maxLen]; first | omega | (simp only [List.length_append, List.length_cons, List.length_nil, List.length_take, List.length_drop] at *; omega)) (fun a7 c8 hn9 => ?_))
   iterate 5 (as_aux_lemma => kernel_rfl)
   refine RUN0 1 [] [(0, .v (.string (bs s))), (1, .v (.int .u8 (c.toNat : Int))), (5, .v (.slice a7 ((out ++ ([(s.drop fr).take (i - fr)] : List (List UInt8))).length) c8)), (7, I (i : Int))] ?_ rfl ?_
   · as_aux_lemma => kernel_rfl
   refine ENDOPS (NEXT (REGION [0, 1, 2] rfl (RUN0 2 [2] [(0, .v (.string (bs s))), (1, .v (.int .u8 (c.toNat : Int))), (5, .v (.slice a7 ((out ++ ([(s.drop fr).take (i - fr)] : List (List UInt8))).length) c8)), (7, I (i : Int)), (34, I (wr ((i : Int) + 1)))] ?_ rfl ?_)))
   · as_aux_lemma => kernel_rfl
   refine CAST (d := 34) (vi (wr ((i : Int) + 1))) (vi ((i + 1 : Nat) : Int)) ?_ (vi_cast (by omega) (by omega)) ?_
   · as_aux_lemma => kernel_rfl
   refine RUN0 1 [] [(0, .v (.string (bs s))), (1, .v (.int .u8 (c.toNat : Int))), (5, .v (.slice a7 ((out ++ ([(s.drop fr).take (i - fr)] : List (List UInt8))).length) c8)), (6, I ((i + 1 : Nat) : Int)), (7, I (i : Int))] ?_ rfl ?_
   · as_aux_lemma => kernel_rfl
   refine ENDOPS (OUTN (NEXT (REGION [0, 1, 2] rfl (RUN0 2 [2] [(0, .v (.string (bs s))), (1, .v (.int .u8 (c.toNat : Int))), (5, .v (.slice a7 ((out ++ ([(s.drop fr).take (i - fr)] : List (List UInt8))).length) c8)), (6, I ((i + 1 : Nat) : Int)), (14, I (wr ((i : Int) + 1)))] ?_ rfl ?_))))
   · as_aux_lemma => kernel_rfl
   refine CAST (d := 14) (vi (wr ((i : Int) + 1))) (vi ((i + 1 : Nat) : Int)) ?_ (vi_cast (by omega) (by omega)) ?_
   · as_aux_lemma => kernel_rfl
   refine RUN0 1 [] [(0, .v (.string (bs s))), (1, .v (.int .u8 (c.toNat : Int))), (5, .v (.slice a7 ((out ++ ([(s.drop fr).take (i - fr)] : List (List UInt8))).length) c8)), (6, I ((i + 1 : Nat) : Int)), (7, I ((i + 1 : Nat) : Int))] ?_ rfl ?_
   · as_aux_lemma => kernel_rfl
   refine ENDOPS (BACK (i + 1, i + 1, a7, c8, out ++ ([(s.drop fr).take (i - fr)] : List (List UInt8))) [0, 1, 5, 6, 7] 0 [0] _ ⟨by first | exact parts_last _ hv3 hv4 (by omega) | exact parts_hit hv3 hv4 (by assumption) (by assumption) | exact parts_step hv3 hv4 (by assumption) (by assumption), by simp only [List.length_append, List.length_cons, List.length_nil]; omega, by dsimp only; omega⟩ (by dsimp only; omega) ?_ rfl rfl rfl)
   · as_aux_lemma => kernel_rfl
  ·
   have h4 := bh4
   have h4 := ne_of_beq_false h4
   refine RUN0 2 [7, 8, 9, 10] [(0, .v (.string (bs s))), (1, .v (.int .u8 (c.toNat : Int))), (5, .v (.slice oa out.length oc)), (6, I (fr : Int)), (7, I (i : Int)), (19, B false), (20, .v (.string (bs s))), (21, I (i : Int))] ?_ rfl ?_
   · as_aux_lemma => kernel_rfl
   obtain ⟨x10, hx11⟩ : ∃ y, s[i]? = some y := ⟨_, List.getElem?_eq_getElem (by first | omega | (simp only [List.length_append, List.length_cons, List.length_nil, List.length_take, List.length_drop] at *; omega))⟩
   refine OPC (RUNV (.index 9 (.tmp 20) (.tmp 21)) 22 5 ?_ (NL rfl) (.int .u8 (x10.toNat : Int)) (runs_sidx (s := s) (kd := .i64) (z := (i : Int)) (k := i) ?_ ?_ ?_ (by omega) rfl hx11) ?_)
   iterate 4 (as_aux_lemma => kernel_rfl)
   refine RUN0 3 [] [(0, .v (.string (bs s))), (1, .v (.int .u8 (c.toNat : Int))), (5, .v (.slice oa out.length oc)), (6, I (fr : Int)), (7, I (i : Int)), (25, B ((x10.toNat : Int) == (c.toNat : Int)))] ?_ rfl ?_
   · as_aux_lemma => kernel_rfl
   refine ENDOPS (NEXT (IF ((x10.toNat : Int) == (c.toNat : Int)) ?_ (fun bh12 => ?_) (fun bh12 => ?_)))
   · as_aux_lemma => kernel_rfl
   ·
    have h12 := bh12
    have h12 := eq_of_beq h12
    refine SEQ (REGION [0, 1, 2, 3, 4, 5, 6, 7] rfl (RUN0 4 [4, 5, 6, 7] [(0, .v (.string (bs s))), (1, .v (.int .u8 (c.toNat : Int))), (7, I (i : Int)), (26, .v (.slice oa out.length oc)), (27, .v (.string (bs s))), (28, I (fr : Int)), (29, I (i : Int))] ?_ rfl ?_))
    · as_aux_lemma => kernel_rfl
    refine OPC (RUNV (.slice 9 (.tmp 27) (some (.tmp 28)) (some (.tmp 29)) none) 30 9 ?_ (NL rfl) (.string (bs ((s.drop fr).take (i - fr)))) (runs_sub (s := s) (kl := .i64) (kh := .i64) (i := (fr : Int)) (j := (i : Int)) ?_ ?_ ?_ ?_ (by first | omega | (simp only [List.length_append, List.length_cons, List.length_nil, List.length_take, List.length_drop] at *; omega)) (by first | omega | (simp only [List.length_append, List.length_cons, List.length_nil, List.length_take, List.length_drop] at *; omega)) (by first | omega | (simp only [List.length_append, List.length_cons, List.length_nil, List.length_take, List.length_drop] at *; omega))) ?_)
    iterate 5 (as_aux_lemma => kernel_rfl)
    refine OPC (BUILDS 36 1 #[(0, .tmp 30)] 31 36 ?_ (NL rfl) 9 [.string (bs ((s.drop fr).take (i - fr)))] ?_ strL ([(s.drop fr).take (i - fr)] : List (List UInt8)) rfl (by simp only [maxLen]; omega) [] [] _ rfl (flatRep rfl) (fun a13 ha14 => ?_))
    iterate 2 (as_aux_lemma => kernel_rfl)
    refine OPC (APPENDO 36 (.tmp 26) (.tmp 31) 32 36 ?_ (NL rfl) (.slice oa out.length oc) a13 1 1 ?_ ?_ ha14 9 ?_ strL (.string (bs [])) 16 ?_ rfl (by decide) 0 0 out ([(s.drop fr).take (i - fr)] : List (List UInt8)) _ rfl rfl (by first | omega | (simp only [List.length_append, List.length_cons, List.length_nil, List.length_take, List.length_drop] at *; omega)) (by simp only [maxLen]; first | omega | (simp only [List.length_append, List.length_cons, List.length_nil, List.length_take, List.length_drop] at *; omega)) (fun a15 c16 hn17 => ?_))
    iterate 5 (as_aux_lemma => kernel_rfl)
    refine RUN0 1 [] [(0, .v (.string (bs s))), (1, .v (.int .u8 (c.toNat : Int))), (5, .v (.slice a15 ((out ++ ([(s.drop fr).take (i - fr)] : List (List UInt8))).length) c16)), (7, I (i : Int))] ?_ rfl ?_
    · as_aux_lemma => kernel_rfl
    refine ENDOPS (NEXT (REGION [0, 1, 2] rfl (RUN0 2 [2] [(0, .v (.string (bs s))), (1, .v (.int .u8 (c.toNat : Int))), (5, .v (.slice a15 ((out ++ ([(s.drop fr).take (i - fr)] : List (List UInt8))).length) c16)), (7, I (i : Int)), (34, I (wr ((i : Int) + 1)))] ?_ rfl ?_)))
    · as_aux_lemma => kernel_rfl
    refine CAST (d := 34) (vi (wr ((i : Int) + 1))) (vi ((i + 1 : Nat) : Int)) ?_ (vi_cast (by omega) (by omega)) ?_
    · as_aux_lemma => kernel_rfl
    refine RUN0 1 [] [(0, .v (.string (bs s))), (1, .v (.int .u8 (c.toNat : Int))), (5, .v (.slice a15 ((out ++ ([(s.drop fr).take (i - fr)] : List (List UInt8))).length) c16)), (6, I ((i + 1 : Nat) : Int)), (7, I (i : Int))] ?_ rfl ?_
    · as_aux_lemma => kernel_rfl
    refine ENDOPS (OUTN (NEXT (REGION [0, 1, 2] rfl (RUN0 2 [2] [(0, .v (.string (bs s))), (1, .v (.int .u8 (c.toNat : Int))), (5, .v (.slice a15 ((out ++ ([(s.drop fr).take (i - fr)] : List (List UInt8))).length) c16)), (6, I ((i + 1 : Nat) : Int)), (14, I (wr ((i : Int) + 1)))] ?_ rfl ?_))))
    · as_aux_lemma => kernel_rfl
    refine CAST (d := 14) (vi (wr ((i : Int) + 1))) (vi ((i + 1 : Nat) : Int)) ?_ (vi_cast (by omega) (by omega)) ?_
    · as_aux_lemma => kernel_rfl
    refine RUN0 1 [] [(0, .v (.string (bs s))), (1, .v (.int .u8 (c.toNat : Int))), (5, .v (.slice a15 ((out ++ ([(s.drop fr).take (i - fr)] : List (List UInt8))).length) c16)), (6, I ((i + 1 : Nat) : Int)), (7, I ((i + 1 : Nat) : Int))] ?_ rfl ?_
    · as_aux_lemma => kernel_rfl
    refine ENDOPS (BACK (i + 1, i + 1, a15, c16, out ++ ([(s.drop fr).take (i - fr)] : List (List UInt8))) [0, 1, 5, 6, 7] 0 [0] _ ⟨by first | exact parts_last _ hv3 hv4 (by omega) | exact parts_hit hv3 hv4 (by assumption) (by assumption) | exact parts_step hv3 hv4 (by assumption) (by assumption), by simp only [List.length_append, List.length_cons, List.length_nil]; omega, by dsimp only; omega⟩ (by dsimp only; omega) ?_ rfl rfl rfl)
    · as_aux_lemma => kernel_rfl
   ·
    have h12 := bh12
    have h12 := ne_of_beq_false h12
    refine SKIP (OUTN (NEXT (REGION [0, 1, 2] rfl (RUN0 2 [2] [(0, .v (.string (bs s))), (1, .v (.int .u8 (c.toNat : Int))), (5, .v (.slice oa out.length oc)), (6, I (fr : Int)), (14, I (wr ((i : Int) + 1)))] ?_ rfl ?_))))
    · as_aux_lemma => kernel_rfl
    refine CAST (d := 14) (vi (wr ((i : Int) + 1))) (vi ((i + 1 : Nat) : Int)) ?_ (vi_cast (by omega) (by omega)) ?_
    · as_aux_lemma => kernel_rfl
    refine RUN0 1 [] [(0, .v (.string (bs s))), (1, .v (.int .u8 (c.toNat : Int))), (5, .v (.slice oa out.length oc)), (6, I (fr : Int)), (7, I ((i + 1 : Nat) : Int))] ?_ rfl ?_
    · as_aux_lemma => kernel_rfl
    refine ENDOPS (BACK (i + 1, fr, oa, oc, out) [0, 1, 5, 6, 7] 0 [0] _ ⟨by first | exact parts_last _ hv3 hv4 (by omega) | exact parts_hit hv3 hv4 (by assumption) (by assumption) | exact parts_step hv3 hv4 (by assumption) (by assumption), by simp only [List.length_append, List.length_cons, List.length_nil]; omega, by dsimp only; omega⟩ (by dsimp only; omega) ?_ rfl rfl rfl)
    · as_aux_lemma => kernel_rfl
 ·
  have h3 := bh3
  have h3 := of_decide_eq_false h3
  have hv5 := (hv.resolve_left (fun e => by have := e.1; omega)).2
  refine EXIT (PASS trivial (PASS trivial (OUT (NEXT (SEQ (REGION [0, 1] rfl (RUN0 2 [] [(4, .v (.slice oa out.length oc))] ?_ rfl ?_)))))))
  · as_aux_lemma => kernel_rfl
  refine ENDOPS (NEXT (RET ?_))
  have e18 : out = parts s c := by exact hv5.symm
  refine FIN (.slice oa out.length oc) ?_ (oa, oc) ?_ [0] ?_
  · as_aux_lemma => kernel_rfl
  · exact congrArg (fun z : List (List UInt8) => Value.slice oa z.length oc) e18
  · exact congrArg (fun z : List (List UInt8) => some [slA 9 strL (.slice oa z.length oc) z]) e18

theorem l29Nums_c (W : World) (words : List (List UInt8)) (words_a : Option Addr) (words_c : Nat) (hwords : Rd strL W words_a words) (hb : words.length ≤ 1048577) : Spec Tryz.prog W [] 42 #[.slice words_a words.length words_c] (⟨HH, fun p => .tuple #[.slice p.1 (((readArgs words).getD []).length) p.2, .bool ((readArgs words).isSome)], fun p => [slA 3 intL (.slice p.1 ((readArgs words).getD []).length p.2) ((readArgs words).getD [])]⟩) := by
 refine ENTER0 (N := 36) (vs := [.slice words_a words.length words_c]) Tryz.func42 rfl rfl (NL rfl) ?_
 have hwords_len := hwords.len
 refine SEQ (REGION [0, 1] rfl (RUN0 2 [] [(0, .v (.slice words_a words.length words_c))] ?_ rfl ?_))
 · as_aux_lemma => kernel_rfl
 refine ENDOPS (NEXT (SEQ (REGION [0, 1] rfl (OPC (BUILDS 42 0 #[] 8 42 ?_ (NL rfl) 3 [] ?_ intL [] rfl (by simp only [maxLen]; omega) [] [] _ rfl (flatRep rfl) (fun a1 ha2 => ?_))))))
 iterate 2 (as_aux_lemma => kernel_rfl)
 refine RUN0 1 [] [(0, .v (.slice words_a words.length words_c)), (4, .v (.slice a1 0 0))] ?_ rfl ?_
 · as_aux_lemma => kernel_rfl
 refine ENDOPS (NEXT (SEQ (SEQ (REGION [0] rfl (RUN0 1 [] [(0, .v (.slice words_a words.length words_c)), (4, .v (.slice a1 0 0)), (5, I 0)] ?_ rfl ?_)))))
 · as_aux_lemma => kernel_rfl
 refine ENDOPS (NEXT (BLOCK (LOOP (ι := Nat × (List (List UInt8)) × (Option Addr) × Nat × (List Int)) (fun j => [(0, .v (.slice words_a words.length words_c)), (4, .v (.slice j.2.2.1 j.2.2.2.2.length j.2.2.2.1)), (5, I (j.1 : Int))]) (fun j => []) (fun j => [slA 3 intL (.slice j.2.2.1 j.2.2.2.2.length j.2.2.2.1) j.2.2.2.2]) (fun j => j.1 + j.2.1.length = words.length ∧ words.drop j.1 = j.2.1 ∧ readArgs words = (readArgs j.2.1).map (j.2.2.2.2 ++ ·) ∧ j.2.2.2.2.length = j.1) (fun j => j.2.1.length) (0, words, a1, 0, []) [0, 4, 5] ⟨by simp, rfl, by simp, rfl⟩ ?_ rfl rfl ?_)))
 · as_aux_lemma => kernel_rfl
 rintro ⟨k, ys, oa, oc, out⟩ ⟨hk, hd, hv0, hv1⟩
 try dsimp only at hk hd hv0 hv1
 refine SEQ (SEQ (REGION [0, 1, 2, 3] rfl (RUN0 4 [] [(0, .v (.slice words_a words.length words_c)), (4, .v (.slice oa out.length oc)), (5, I (k : Int)), (12, B (decide ((k : Int) < (words.length : Int))))] ?_ rfl ?_)))
 · as_aux_lemma => kernel_rfl
 refine ENDOPS (NEXT (IF (decide ((k : Int) < (words.length : Int))) ?_ (fun bh3 => ?_) (fun bh3 => ?_)))
 · as_aux_lemma => kernel_rfl
 ·
  have h3 := bh3
  have h3 := of_decide_eq_true h3
  obtain ⟨y4, ys5, rfl, hx_y4, hd_y4, hl_y4⟩ := drop_cons hd hk (by omega)
  refine SKIP (NEXT (SEQ (BLOCK (SEQ (REGION [0, 1, 2, 3, 4, 5, 6, 7, 8, 9] rfl (RUN0 2 [2, 3, 4, 5, 6, 7, 8, 9] [(0, .v (.slice words_a words.length words_c)), (4, .v (.slice oa out.length oc)), (5, I (k : Int)), (16, .v (.slice words_a words.length words_c)), (17, I (k : Int))] ?_ rfl ?_))))))
  · as_aux_lemma => kernel_rfl
  refine OPC (INDEX 36 (.tmp 16) (.tmp 17) 18 0 ?_ (NL rfl) words_a words.length words_c .i64 (k : Int) 9 1 ?_ ?_ ?_ ?_ (Rd.some hwords (by omega)) (by omega) (by omega) ?_)
  iterate 5 (as_aux_lemma => kernel_rfl)
  refine OPC (LOADE 9 (.tmp 18) 19 9 ?_ (NL rfl) words_a (k * 1) 0 [.string (bs y4)] (.string (bs y4)) ?_ (fun w hw => (hwords.fr hw.fr).flat hx_y4) ?_ ?_)
  iterate 3 (as_aux_lemma => kernel_rfl)
  refine OPC (CALL 62 #[.string (bs y4)] (some 20) ?_ [] [] _ rfl (RV (.tuple #[vi (((number y4).getD 0 : Nat) : Int), .bool ((number y4).isSome)])) (fun w hw => sNumber_c w y4) (NO rfl) ?_)
  · as_aux_lemma => kernel_rfl
  rintro ⟨⟩
  refine RUN0 5 [] [(0, .v (.slice words_a words.length words_c)), (4, .v (.slice oa out.length oc)), (5, I (k : Int)), (6, I (((number y4).getD 0 : Nat) : Int)), (7, B ((number y4).isSome))] ?_ rfl ?_
  · as_aux_lemma => kernel_rfl
  refine ENDOPS (NEXT (SEQ (SEQ (REGION [0, 1, 2, 3, 4] rfl (RUN0 2 [2, 3, 4] [(0, .v (.slice words_a words.length words_c)), (4, .v (.slice oa out.length oc)), (5, I (k : Int)), (6, I (((number y4).getD 0 : Nat) : Int)), (7, B ((number y4).isSome)), (23, .v (.slice words_a words.length words_c)), (24, I (k : Int))] ?_ rfl ?_)))))
  · as_aux_lemma => kernel_rfl
  refine OPC (INDEX 36 (.tmp 23) (.tmp 24) 25 0 ?_ (NL rfl) words_a words.length words_c .i64 (k : Int) 9 1 ?_ ?_ ?_ ?_ (Rd.some hwords (by omega)) (by omega) (by omega) ?_)
  iterate 5 (as_aux_lemma => kernel_rfl)
  refine OPC (LOADE 9 (.tmp 25) 26 9 ?_ (NL rfl) words_a (k * 1) 0 [.string (bs y4)] (.string (bs y4)) ?_ (fun w hw => (hwords.fr hw.fr).flat hx_y4) ?_ ?_)
  iterate 3 (as_aux_lemma => kernel_rfl)
  refine OPC (RUNV (.binOp .eql 9 (.tmp 26) (.const (.string (bs ([45])))) 9) 27 4 ?_ (NL rfl) (.bool (y4 == ([45]))) (runs_seql (a := y4) (b := [45]) ?_ ?_) ?_)
  iterate 3 (as_aux_lemma => kernel_rfl)
  refine ENDOPS (NEXT (IF (y4 == ([45])) ?_ (fun bh6 => ?_) (fun bh6 => ?_)))
  · as_aux_lemma => kernel_rfl
  ·
   have h6 := bh6
   have h6 := eq_of_beq h6
   refine SEQ (REGION [0] rfl (RUN0 1 [] [(0, .v (.slice words_a words.length words_c)), (4, .v (.slice oa out.length oc)), (5, I (k : Int)), (6, I (-1))] ?_ rfl ?_))
   · as_aux_lemma => kernel_rfl
   refine ENDOPS (NEXT (REGION [0] rfl (RUN0 1 [] [(0, .v (.slice words_a words.length words_c)), (4, .v (.slice oa out.length oc)), (5, I (k : Int)), (6, I (-1)), (7, B true)] ?_ rfl ?_)))
   · as_aux_lemma => kernel_rfl
   refine ENDOPS (NEXT (SEQ (SEQ (REGION [0, 1] rfl (RUN0 2 [] [(0, .v (.slice words_a words.length words_c)), (4, .v (.slice oa out.length oc)), (5, I (k : Int)), (6, I (-1)), (29, B false)] ?_ rfl ?_)))))
   · as_aux_lemma => kernel_rfl
   refine ENDOPS (NEXT (IFF ?_ ?_))
   · as_aux_lemma => kernel_rfl
   refine SKIP (NEXT (REGION [0, 1, 2, 3, 4] rfl (RUN0 2 [2, 3, 4] [(0, .v (.slice words_a words.length words_c)), (5, I (k : Int)), (31, .v (.slice oa out.length oc)), (32, I (-1))] ?_ rfl ?_)))
   · as_aux_lemma => kernel_rfl
   refine OPC (BUILDS 42 1 #[(0, .tmp 32)] 33 42 ?_ (NL rfl) 3 [vi (-1)] ?_ intL [-1] rfl (by simp only [maxLen]; omega) [] [] _ rfl (flatRep rfl) (fun a7 ha8 => ?_))
   iterate 2 (as_aux_lemma => kernel_rfl)
   refine OPC (APPENDO 42 (.tmp 31) (.tmp 33) 34 42 ?_ (NL rfl) (.slice oa out.length oc) a7 1 1 ?_ ?_ ha8 3 ?_ intL (vi 0) 8 ?_ rfl (by decide) 0 0 out ([-1]) _ rfl rfl (by first | omega | (simp only [List.length_append, List.length_cons, List.length_nil, List.length_take, List.length_drop] at *; omega)) (by simp only [maxLen]; first | omega | (simp only [List.length_append, List.length_cons, List.length_nil, List.length_take, List.length_drop] at *; omega)) (fun a9 c10 hn11 => ?_))
   iterate 5 (as_aux_lemma => kernel_rfl)
   refine RUN0 1 [] [(0, .v (.slice words_a words.length words_c)), (4, .v (.slice a9 ((out ++ ([-1])).length) c10)), (5, I (k : Int))] ?_ rfl ?_
   · as_aux_lemma => kernel_rfl
   refine ENDOPS (OUTN (NEXT (REGION [0, 1, 2] rfl (RUN0 2 [2] [(0, .v (.slice words_a words.length words_c)), (4, .v (.slice a9 ((out ++ ([-1])).length) c10)), (14, I (wr ((k : Int) + 1)))] ?_ rfl ?_))))
   · as_aux_lemma => kernel_rfl
   refine CAST (d := 14) (vi (wr ((k : Int) + 1))) (vi ((k + 1 : Nat) : Int)) ?_ (vi_cast (by omega) (by omega)) ?_
   · as_aux_lemma => kernel_rfl
   refine RUN0 1 [] [(0, .v (.slice words_a words.length words_c)), (4, .v (.slice a9 ((out ++ ([-1])).length) c10)), (5, I ((k + 1 : Nat) : Int))] ?_ rfl ?_
   · as_aux_lemma => kernel_rfl
   refine ENDOPS (BACK (k + 1, ys5, a9, c10, out ++ ([-1])) [0, 4, 5] 0 [0] _ ⟨hl_y4, hd_y4, hv0.trans (by first | (rw [readArgs_num (by assumption) (by assumption)]; simp [Option.map_map, Function.comp_def]; done) | (rw [show y4 = [45] by assumption, readArgs_dash]; simp [Option.map_map, Function.comp_def])), (by simp only [List.length_append, List.length_cons, List.length_nil]; omega)⟩ (by simp) ?_ rfl rfl rfl)
   · as_aux_lemma => kernel_rfl
  ·
   have h6 := bh6
   have h6 := ne_of_beq_false h6
   refine SKIP (NEXT (SEQ (SEQ (REGION [0, 1] rfl (RUN0 2 [] [(0, .v (.slice words_a words.length words_c)), (4, .v (.slice oa out.length oc)), (5, I (k : Int)), (6, I (((number y4).getD 0 : Nat) : Int)), (29, B (!((number y4).isSome)))] ?_ rfl ?_)))))
   · as_aux_lemma => kernel_rfl
   refine ENDOPS (NEXT (IF (!((number y4).isSome)) ?_ (fun bh12 => ?_) (fun bh12 => ?_)))
   · as_aux_lemma => kernel_rfl
   ·
    have h12 := bh12
    have h12 := notT h12
    refine SEQ (REGION [0, 1, 2] rfl (OPC (BUILDS 42 0 #[] 30 42 ?_ (NL rfl) 3 [] ?_ intL [] rfl (by simp only [maxLen]; omega) [] [] _ rfl (flatRep rfl) (fun a13 ha14 => ?_))))
    iterate 2 (as_aux_lemma => kernel_rfl)
    refine RUN0 2 [] [(2, .v (.slice a13 0 0)), (3, B false)] ?_ rfl ?_
    · as_aux_lemma => kernel_rfl
    refine ENDOPS (NEXT (RET (PASS trivial (OUTR (PASS trivial (PASS trivial (OUTR (PASS trivial ?_))))))))
    have efin : readArgs words = none := by exact hv0.trans (by rw [readArgs_bad (by assumption) (by assumption)]; rfl)
    refine FIN (.tuple #[.slice a13 0 0, .bool false]) ?_ (a13, 0) ?_ [1] ?_
    · as_aux_lemma => kernel_rfl
    · (rw [efin] <;> rfl)
    · (rw [efin] <;> rfl)
   ·
    have h12 := bh12
    have h12 := notF h12
    refine SKIP (NEXT (REGION [0, 1, 2, 3, 4] rfl (RUN0 2 [2, 3, 4] [(0, .v (.slice words_a words.length words_c)), (5, I (k : Int)), (31, .v (.slice oa out.length oc)), (32, I (((number y4).getD 0 : Nat) : Int))] ?_ rfl ?_)))
    · as_aux_lemma => kernel_rfl
    refine OPC (BUILDS 42 1 #[(0, .tmp 32)] 33 42 ?_ (NL rfl) 3 [vi (((number y4).getD 0 : Nat) : Int)] ?_ intL [(((number y4).getD 0 : Nat) : Int)] rfl (by simp only [maxLen]; omega) [] [] _ rfl (flatRep rfl) (fun a15 ha16 => ?_))
    iterate 2 (as_aux_lemma => kernel_rfl)
    refine OPC (APPENDO 42 (.tmp 31) (.tmp 33) 34 42 ?_ (NL rfl) (.slice oa out.length oc) a15 1 1 ?_ ?_ ha16 3 ?_ intL (vi 0) 8 ?_ rfl (by decide) 0 0 out ([(((number y4).getD 0 : Nat) : Int)]) _ rfl rfl (by first | omega | (simp only [List.length_append, List.length_cons, List.length_nil, List.length_take, List.length_drop] at *; omega)) (by simp only [maxLen]; first | omega | (simp only [List.length_append, List.length_cons, List.length_nil, List.length_take, List.length_drop] at *; omega)) (fun a17 c18 hn19 => ?_))
    iterate 5 (as_aux_lemma => kernel_rfl)
    refine RUN0 1 [] [(0, .v (.slice words_a words.length words_c)), (4, .v (.slice a17 ((out ++ ([(((number y4).getD 0 : Nat) : Int)])).length) c18)), (5, I (k : Int))] ?_ rfl ?_
    · as_aux_lemma => kernel_rfl
    refine ENDOPS (OUTN (NEXT (REGION [0, 1, 2] rfl (RUN0 2 [2] [(0, .v (.slice words_a words.length words_c)), (4, .v (.slice a17 ((out ++ ([(((number y4).getD 0 : Nat) : Int)])).length) c18)), (14, I (wr ((k : Int) + 1)))] ?_ rfl ?_))))
    · as_aux_lemma => kernel_rfl
    refine CAST (d := 14) (vi (wr ((k : Int) + 1))) (vi ((k + 1 : Nat) : Int)) ?_ (vi_cast (by omega) (by omega)) ?_
    · as_aux_lemma => kernel_rfl
    refine RUN0 1 [] [(0, .v (.slice words_a words.length words_c)), (4, .v (.slice a17 ((out ++ ([(((number y4).getD 0 : Nat) : Int)])).length) c18)), (5, I ((k + 1 : Nat) : Int))] ?_ rfl ?_
    · as_aux_lemma => kernel_rfl
    refine ENDOPS (BACK (k + 1, ys5, a17, c18, out ++ ([(((number y4).getD 0 : Nat) : Int)])) [0, 4, 5] 0 [0] _ ⟨hl_y4, hd_y4, hv0.trans (by first | (rw [readArgs_num (by assumption) (by assumption)]; simp [Option.map_map, Function.comp_def]; done) | (rw [show y4 = [45] by assumption, readArgs_dash]; simp [Option.map_map, Function.comp_def])), (by simp only [List.length_append, List.length_cons, List.length_nil]; omega)⟩ (by simp) ?_ rfl rfl rfl)
    · as_aux_lemma => kernel_rfl
 ·
  have h3 := bh3
  have h3 := of_decide_eq_false h3
  obtain rfl := drop_nil hk (by omega)
  refine EXIT (PASS trivial (PASS trivial (OUT (NEXT (SEQ (REGION [0, 1, 2] rfl (RUN0 3 [] [(2, .v (.slice oa out.length oc)), (3, B true)] ?_ rfl ?_)))))))
  · as_aux_lemma => kernel_rfl
  refine ENDOPS (NEXT (RET ?_))
  have efin : readArgs words = some out := by rw [hv0]; simp [readArgs]
  refine FIN (.tuple #[.slice oa out.length oc, .bool true]) ?_ (oa, oc) ?_ [0] ?_
  · as_aux_lemma => kernel_rfl
  · (rw [efin] <;> rfl)
  · (rw [efin] <;> rfl)

theorem sReadReq_c (W : World) (line : List UInt8) (hl : line.length ≤ 1048576) : Spec Tryz.prog W [] 26 #[.string (bs line)] (RV (.tuple #[.agg #[vi ((optReq (readS line)).kind), vi ((optReq (readS line)).id), vi ((optReq (readS line)).cabin), vi ((optReq (readS line)).from'), vi ((optReq (readS line)).size), vi ((optReq (readS line)).tier)], .bool ((readS line).isSome)])) := by
 refine ENTER0 (N := 85) (vs := [.string (bs line)]) Tryz.func26 rfl rfl (NL rfl) ?_
 refine SEQ (REGION [0, 1] rfl (RUN 2 [] [(0, .v (.string (bs line))), (2, .p 0 0)] [(30, [vi 0, vi 0, vi 0, vi 0, vi 0, vi 0])] ?_ rfl ?_))
 · as_aux_lemma => kernel_rfl
 refine ENDOPS (NEXT (SEQ (SEQ (REGION [0, 1, 2] rfl (RUN0 3 [] [(0, .v (.string (bs line))), (2, .p 0 0), (11, B (decide ((line.length : Int) > 80)))] ?_ rfl ?_)))))
 · as_aux_lemma => kernel_rfl
 refine ENDOPS (NEXT (IF (decide ((line.length : Int) > 80)) ?_ (fun bh1 => ?_) (fun bh1 => ?_)))
 · as_aux_lemma => kernel_rfl
 ·
  have h1 := bh1
  have h1 := of_decide_eq_true h1
  refine SEQ (REGION [0, 1, 2] rfl (RUN0 3 [] [(2, .p 0 0), (3, B false)] ?_ rfl ?_))
  · as_aux_lemma => kernel_rfl
  refine ENDOPS (NEXT (RET (PASS trivial (FIN (.tuple #[.agg #[vi 0, vi 0, vi 0, vi 0, vi 0, vi 0], .bool false]) ?_ () ?_ [] ?_))))
  · as_aux_lemma => kernel_rfl
  · (first | (rw [readS_long (by omega)]; rfl) | (rw [readS_bad (by have h9 : (readArgs ((parts line 32).drop 1)).isSome = false := (by assumption); simpa using h9)]; rfl))
  · rfl
 ·
  have h1 := bh1
  have h1 := of_decide_eq_false h1
  refine SKIP (NEXT (SEQ (REGION [0, 1, 2] rfl (RUN0 1 [1, 2] [(0, .v (.string (bs line))), (2, .p 0 0), (13, .v (.string (bs line)))] ?_ rfl ?_))))
  · as_aux_lemma => kernel_rfl
  refine OPC (CALL 25 #[.string (bs line), .int .u8 32] (some 14) ?_ [] [] _ rfl (⟨HH, fun p => .slice p.1 ((parts line 32).length) p.2, fun p => [slA 9 strL (.slice p.1 (parts line 32).length p.2) (parts line 32)]⟩) (fun w hw => sParts_c w line 32 (by first | assumption | omega)) (NO rfl) ?_)
  · as_aux_lemma => kernel_rfl
  rintro ⟨a2, c3⟩
  have hr4 := parts_len line 32
  refine RUN0 1 [] [(0, .v (.string (bs line))), (2, .p 0 0), (4, .v (.slice a2 ((parts line 32).length) c3))] ?_ rfl ?_
  · as_aux_lemma => kernel_rfl
  refine ENDOPS (NEXT (SEQ (REGION [0, 1, 2, 3, 4, 5, 6, 7] rfl (RUN0 1 [1, 2, 3, 4, 5, 6, 7] [(0, .v (.string (bs line))), (2, .p 0 0), (4, .v (.slice a2 ((parts line 32).length) c3)), (16, .v (.slice a2 ((parts line 32).length) c3))] ?_ rfl ?_))))
  · as_aux_lemma => kernel_rfl
  refine FACT (((parts line 32).length) ≤ c3) (fun w hw => SlO.capE (hw.own 0 rfl)) (fun hcap5 => ?_)
  refine FACT (((parts line 32).length) = (parts line 32).length) (fun w hw => (SlO.lenE (hw.own 0 rfl)).1) (fun hln6 => ?_)
  refine OPC (CUTL 36 (.tmp 16) (.const (vi 1)) 17 36 ?_ (NL rfl) a2 ((parts line 32).length) c3 .i64 1 ?_ ?_ 9 strL (parts line 32) ?_ ?_ (by omega) (by first | omega | (simp only [List.length_append, List.length_cons, List.length_nil, List.length_take, List.length_drop] at *; omega)) hln6 hcap5 (fun a7 hsh8 => ?_))
  iterate 5 (as_aux_lemma => kernel_rfl)
  have hsh8 : ∀ w, Rd strL w a2 (parts line 32) → Rd strL w a7 ((parts line 32).drop 1) := hsh8
  have hln9 : ((parts line 32).drop 1).length = ((parts line 32).length) - 1 := by first | (simp; done) | (simp; omega)
  refine CAST (d := 17) (.slice a7 (((parts line 32).length) - 1) (c3 - 1)) (.slice a7 (((parts line 32).drop 1).length) (c3 - 1)) ?_ (by rw [hln9]) ?_
  · as_aux_lemma => kernel_rfl
  refine OPC (CALL 42 #[.slice a7 (((parts line 32).drop 1).length) (c3 - 1)] (some 18) ?_ [] [] _ rfl (⟨HH, fun p => .tuple #[.slice p.1 (((readArgs ((parts line 32).drop 1)).getD []).length) p.2, .bool ((readArgs ((parts line 32).drop 1)).isSome)], fun p => [slA 3 intL (.slice p.1 ((readArgs ((parts line 32).drop 1)).getD []).length p.2) ((readArgs ((parts line 32).drop 1)).getD [])]⟩) (fun w hw => l29Nums_c w ((parts line 32).drop 1) a7 (c3 - 1) (hsh8 _ (hw.rdO 0 rfl)) (by first | omega | (simp; omega))) (NO rfl) ?_)
  · as_aux_lemma => kernel_rfl
  rintro ⟨a10, c11⟩
  refine RUN0 5 [] [(0, .v (.string (bs line))), (2, .p 0 0), (4, .v (.slice a2 ((parts line 32).length) c3)), (5, .v (.slice a10 (((readArgs ((parts line 32).drop 1)).getD []).length) c11)), (6, B ((readArgs ((parts line 32).drop 1)).isSome))] ?_ rfl ?_
  · as_aux_lemma => kernel_rfl
  refine ENDOPS (NEXT (SEQ (SEQ (REGION [0, 1] rfl (RUN0 2 [] [(0, .v (.string (bs line))), (2, .p 0 0), (4, .v (.slice a2 ((parts line 32).length) c3)), (5, .v (.slice a10 (((readArgs ((parts line 32).drop 1)).getD []).length) c11)), (22, B (!((readArgs ((parts line 32).drop 1)).isSome)))] ?_ rfl ?_)))))
  · as_aux_lemma => kernel_rfl
  refine ENDOPS (NEXT (IF (!((readArgs ((parts line 32).drop 1)).isSome)) ?_ (fun bh12 => ?_) (fun bh12 => ?_)))
  · as_aux_lemma => kernel_rfl
  ·
   have h12 := bh12
   have h12 := notT h12
   refine SEQ (REGION [0, 1, 2] rfl (RUN0 3 [] [(2, .p 0 0), (3, B false)] ?_ rfl ?_))
   · as_aux_lemma => kernel_rfl
   refine ENDOPS (NEXT (RET (PASS trivial (FIN (.tuple #[.agg #[vi 0, vi 0, vi 0, vi 0, vi 0, vi 0], .bool false]) ?_ () ?_ [] ?_))))
   · as_aux_lemma => kernel_rfl
   · (first | (rw [readS_long (by omega)]; rfl) | (rw [readS_bad (by have h9 : (readArgs ((parts line 32).drop 1)).isSome = false := (by assumption); simpa using h9)]; rfl))
   · rfl
  ·
   have h12 := bh12
   have h12 := notF h12
   obtain ⟨l9, hl9⟩ := Option.isSome_iff_exists.1 h12; have hgd : (readArgs ((parts line 32).drop 1)).getD [] = l9 := (by rw [hl9]; rfl)
   refine SKIP (NEXT (SEQ (REGION [0, 1, 2] rfl (RUN 3 [] [(0, .v (.string (bs line))), (2, .p 0 0), (4, .v (.slice a2 ((parts line 32).length) c3)), (5, .v (.slice a10 (((readArgs ((parts line 32).drop 1)).getD []).length) c11)), (7, .p 1 0)] [(30, [vi 0, vi 0, vi 0, vi 0, vi 0, vi 0]), (30, [vi 0, vi 0, vi 0, vi 0, vi 0, vi 0])] ?_ rfl ?_))))
   · as_aux_lemma => kernel_rfl
   refine ENDOPS (NEXT (SEQ (SEQ (REGION [0] rfl (RUN0 1 [] [(0, .v (.string (bs line))), (2, .p 0 0), (4, .v (.slice a2 ((parts line 32).length) c3)), (5, .v (.slice a10 (((readArgs ((parts line 32).drop 1)).getD []).length) c11)), (7, .p 1 0), (8, I 1)] ?_ rfl ?_)))))
   · as_aux_lemma => kernel_rfl
   refine ENDOPS (NEXT (BLOCK (FACT (a2.isSome = true) (fun w hw => SlO.isS (hw.own 0 rfl) (by omega)) (fun hs13 => ?_))))
   obtain ⟨w0, hw0⟩ : ∃ y, (parts line 32)[0]? = some y := ⟨_, List.getElem?_eq_getElem (by omega)⟩
   refine LOOP (ι := Nat × Nat × Int) (fun j => [(0, .v (.string (bs line))), (2, .p 0 0), (4, .v (.slice a2 ((parts line 32).length) c3)), (5, .v (.slice a10 (((readArgs ((parts line 32).drop 1)).getD []).length) c11)), (7, .p 1 0), (8, I (j.2.1 : Int))]) (fun j => [(30, [vi 0, vi 0, vi 0, vi 0, vi 0, vi 0]), (30, [vi j.2.2, vi 0, vi 0, vi 0, vi 0, vi 0])]) (fun j => [slA 9 strL (.slice a2 (parts line 32).length c3) (parts line 32), slA 3 intL (.slice a10 ((readArgs ((parts line 32).drop 1)).getD []).length c11) ((readArgs ((parts line 32).drop 1)).getD [])]) (fun j => j.2.1 + j.1 = 8 ∧ kindGo w0 7 1 0 = kindGo w0 j.1 (j.2.1 : Int) j.2.2 ∧ 1 ≤ j.2.1) (fun j => j.1) (7, 1, 0) [0, 2, 4, 5, 7, 8] ⟨rfl, rfl, by decide⟩ ?_ rfl rfl ?_
   · as_aux_lemma => kernel_rfl
   rintro ⟨m, kk, z⟩ ⟨hkm, hv, hk1⟩
   try dsimp only at hkm hv hk1
   refine SEQ (SEQ (REGION [0, 1] rfl (RUN0 2 [] [(0, .v (.string (bs line))), (2, .p 0 0), (4, .v (.slice a2 ((parts line 32).length) c3)), (5, .v (.slice a10 (((readArgs ((parts line 32).drop 1)).getD []).length) c11)), (7, .p 1 0), (8, I (kk : Int)), (26, B (decide ((kk : Int) ≤ 7)))] ?_ rfl ?_)))
   · as_aux_lemma => kernel_rfl
   refine ENDOPS (NEXT (IF (decide ((kk : Int) ≤ 7)) ?_ (fun bh14 => ?_) (fun bh14 => ?_)))
   · as_aux_lemma => kernel_rfl
   ·
    have h14 := bh14
    have h14 := of_decide_eq_true h14
    obtain ⟨m1, rfl⟩ : ∃ z, m = z + 1 := ⟨m - 1, by omega⟩
    refine SKIP (NEXT (SEQ (BLOCK (SEQ (REGIONQ ?_ ?_ ?_)))))
    iterate 2 (as_aux_lemma => kernel_rfl)
    refine QRUN 1 0 1 [(0, .v (.string (bs line))), (2, .p 0 0), (4, .v (.slice a2 ((parts line 32).length) c3)), (5, .v (.slice a10 (((readArgs ((parts line 32).drop 1)).getD []).length) c11)), (7, .p 1 0), (8, I (kk : Int)), (29, .v (.slice a2 ((parts line 32).length) c3))] ?_ rfl ?_
    · as_aux_lemma => kernel_rfl
    refine QINDEX 36 (.tmp 29) (.const (vi 0)) 30 0 ?_ (NL rfl) a2 ((parts line 32).length) c3 .i64 0 9 1 ?_ ?_ ?_ ?_ hs13 (by omega) (by omega) ?_
    iterate 5 (as_aux_lemma => kernel_rfl)
    refine QLOADE 9 (.tmp 30) 31 9 ?_ (NL rfl) a2 (0 * 1) 0 [.string (bs w0)] (.string (bs w0)) ?_ (fun w hw => (hw.rdO 0 rfl).flat hw0) ?_ ?_
    iterate 3 (as_aux_lemma => kernel_rfl)
    refine QRUN 1 3 4 [(0, .v (.string (bs line))), (2, .p 0 0), (4, .v (.slice a2 ((parts line 32).length) c3)), (5, .v (.slice a10 (((readArgs ((parts line 32).drop 1)).getD []).length) c11)), (7, .p 1 0), (8, I (kk : Int)), (31, .v (.string (bs w0))), (32, I (kk : Int))] ?_ rfl ?_
    · as_aux_lemma => kernel_rfl
    have hr15 := reqWord_len (kk : Int)
    refine QCALL 36 #[vi (kk : Int)] (some 33) ?_ (.string (bs (reqWord (kk : Int)))) (fun w hw => l29Word_c w (kk : Int) (by omega)) (NO rfl) ?_
    · as_aux_lemma => kernel_rfl
    refine QRUNV (.binOp .eql 9 (.tmp 31) (.tmp 33) 9) 34 4 ?_ (NL rfl) (.bool (w0 == (reqWord (kk : Int)))) (runs_seql (a := w0) (b := reqWord (kk : Int)) ?_ ?_) ?_
    iterate 3 (as_aux_lemma => kernel_rfl)
    refine QEND rfl (NEXT (IF (w0 == (reqWord (kk : Int))) ?_ (fun bh16 => ?_) (fun bh16 => ?_)))
    · as_aux_lemma => kernel_rfl
    ·
     have h16 := bh16
     have h16 := eq_of_beq h16
     refine REGION [0, 1, 2] rfl (RUN 3 [] [(0, .v (.string (bs line))), (2, .p 0 0), (4, .v (.slice a2 ((parts line 32).length) c3)), (5, .v (.slice a10 (((readArgs ((parts line 32).drop 1)).getD []).length) c11)), (7, .p 1 0), (8, I (kk : Int))] [(30, [vi 0, vi 0, vi 0, vi 0, vi 0, vi 0]), (30, [vi (kk : Int), vi 0, vi 0, vi 0, vi 0, vi 0])] ?_ rfl ?_)
     · as_aux_lemma => kernel_rfl
     refine ENDOPS (OUTN (NEXT (REGION [0, 1, 2] rfl (RUN0 2 [2] [(0, .v (.string (bs line))), (2, .p 0 0), (4, .v (.slice a2 ((parts line 32).length) c3)), (5, .v (.slice a10 (((readArgs ((parts line 32).drop 1)).getD []).length) c11)), (7, .p 1 0), (28, I (wr ((kk : Int) + 1)))] ?_ rfl ?_))))
     · as_aux_lemma => kernel_rfl
     refine CAST (d := 28) (vi (wr ((kk : Int) + 1))) (vi ((kk + 1 : Nat) : Int)) ?_ (vi_cast (by omega) (by omega)) ?_
     · as_aux_lemma => kernel_rfl
     refine RUN0 1 [] [(0, .v (.string (bs line))), (2, .p 0 0), (4, .v (.slice a2 ((parts line 32).length) c3)), (5, .v (.slice a10 (((readArgs ((parts line 32).drop 1)).getD []).length) c11)), (7, .p 1 0), (8, I ((kk + 1 : Nat) : Int))] ?_ rfl ?_
     · as_aux_lemma => kernel_rfl
     refine ENDOPS (BACK (m1, kk + 1, (kk : Int)) [0, 2, 4, 5, 7, 8] 2 [0, 0] _ ⟨by dsimp only; omega, hv.trans (by simp only [kindGo]; first | (rw [if_pos (by assumption)]; rfl) | (rw [if_neg (by assumption)]; rfl)), by dsimp only; omega⟩ (by dsimp only; omega) ?_ rfl rfl rfl)
     · as_aux_lemma => kernel_rfl
    ·
     have h16 := bh16
     have h16 := ne_of_beq_false h16
     refine SKIP (OUTN (NEXT (REGION [0, 1, 2] rfl (RUN0 2 [2] [(0, .v (.string (bs line))), (2, .p 0 0), (4, .v (.slice a2 ((parts line 32).length) c3)), (5, .v (.slice a10 (((readArgs ((parts line 32).drop 1)).getD []).length) c11)), (7, .p 1 0), (28, I (wr ((kk : Int) + 1)))] ?_ rfl ?_))))
     · as_aux_lemma => kernel_rfl
     refine CAST (d := 28) (vi (wr ((kk : Int) + 1))) (vi ((kk + 1 : Nat) : Int)) ?_ (vi_cast (by omega) (by omega)) ?_
     · as_aux_lemma => kernel_rfl
     refine RUN0 1 [] [(0, .v (.string (bs line))), (2, .p 0 0), (4, .v (.slice a2 ((parts line 32).length) c3)), (5, .v (.slice a10 (((readArgs ((parts line 32).drop 1)).getD []).length) c11)), (7, .p 1 0), (8, I ((kk + 1 : Nat) : Int))] ?_ rfl ?_
     · as_aux_lemma => kernel_rfl
     refine ENDOPS (BACK (m1, kk + 1, z) [0, 2, 4, 5, 7, 8] 2 [0, 0] _ ⟨by dsimp only; omega, hv.trans (by simp only [kindGo]; first | (rw [if_pos (by assumption)]; rfl) | (rw [if_neg (by assumption)]; rfl)), by dsimp only; omega⟩ (by dsimp only; omega) ?_ rfl rfl rfl)
     · as_aux_lemma => kernel_rfl
   ·
    have h14 := bh14
    have h14 := of_decide_eq_false h14
    obtain rfl : m = 0 := by omega
    refine EXIT (PASS trivial (PASS trivial (OUT (NEXT (SEQ (SEQ (REGION [0, 1] rfl (RUN0 2 [] [(0, .v (.string (bs line))), (2, .p 0 0), (5, .v (.slice a10 (((readArgs ((parts line 32).drop 1)).getD []).length) c11)), (7, .p 1 0), (38, I ((((readArgs ((parts line 32).drop 1)).getD []).length : Nat) : Int))] ?_ rfl ?_))))))))
    · as_aux_lemma => kernel_rfl
    refine ENDOPS (NEXT (BLOCK (SEQ (REGION [0, 1] rfl (RUN0 2 [] [(0, .v (.string (bs line))), (2, .p 0 0), (5, .v (.slice a10 (((readArgs ((parts line 32).drop 1)).getD []).length) c11)), (7, .p 1 0), (38, I ((((readArgs ((parts line 32).drop 1)).getD []).length : Nat) : Int)), (39, B (((((readArgs ((parts line 32).drop 1)).getD []).length : Nat) : Int) == 1))] ?_ rfl ?_)))))
    · as_aux_lemma => kernel_rfl
    refine ENDOPS (NEXT (IF (((((readArgs ((parts line 32).drop 1)).getD []).length : Nat) : Int) == 1) ?_ (fun bh17 => ?_) (fun bh17 => ?_)))
    · as_aux_lemma => kernel_rfl
    ·
     have h17 := bh17
     have h17 := eq_of_beq h17
     refine REGION [0, 1, 2, 3, 4] rfl (RUN0 1 [1, 2, 3, 4] [(0, .v (.string (bs line))), (2, .p 0 0), (7, .p 1 0), (41, .v (.slice a10 (((readArgs ((parts line 32).drop 1)).getD []).length) c11))] ?_ rfl ?_)
     · as_aux_lemma => kernel_rfl
     obtain ⟨x18, hx19⟩ : ∃ y, ((readArgs ((parts line 32).drop 1)).getD [])[0]? = some y := ⟨_, List.getElem?_eq_getElem (by omega)⟩
     refine FACT (a10.isSome = true) (fun w hw => SlO.isS (hw.own 1 rfl) (by omega)) (fun hs20 => ?_)
     refine OPC (INDEX 42 (.tmp 41) (.const (vi 0)) 42 0 ?_ (NL rfl) a10 (((readArgs ((parts line 32).drop 1)).getD []).length) c11 .i64 0 3 1 ?_ ?_ ?_ ?_ hs20 (by omega) (by omega) ?_)
     iterate 5 (as_aux_lemma => kernel_rfl)
     refine OPC (LOADE 3 (.tmp 42) 43 3 ?_ (NL rfl) a10 (0 * 1) 0 [vi x18] (vi x18) ?_ (fun w hw => (hw.rdO 1 rfl).flat hx19) ?_ ?_)
     iterate 3 (as_aux_lemma => kernel_rfl)
     refine RUN 2 [] [(0, .v (.string (bs line))), (2, .p 0 0), (7, .p 1 0)] [(30, [vi 0, vi 0, vi 0, vi 0, vi 0, vi 0]), (30, [vi z, vi x18, vi 0, vi 0, vi 0, vi 0])] ?_ rfl ?_
     · as_aux_lemma => kernel_rfl
     refine ENDOPS (OUTN (NEXT (SEQ (SEQ (REGION [0, 1, 2, 3, 4, 5, 6, 7] rfl (RUN0 1 [1, 2, 3, 4, 5, 6, 7] [(0, .v (.string (bs line))), (2, .p 0 0), (7, .p 1 0), (75, .v (.agg #[vi z, vi x18, vi 0, vi 0, vi 0, vi 0]))] ?_ rfl ?_))))))
     · as_aux_lemma => kernel_rfl
     refine OPC (CALL 19 #[.agg #[vi z, vi x18, vi 0, vi 0, vi 0, vi 0]] (some 76) ?_ [] [] _ rfl (RV (.string (bs (reqLine (⟨z, x18, 0, 0, 0, 0⟩ : Req))))) (fun w hw => sReqLine_c w (⟨z, x18, 0, 0, 0, 0⟩ : Req)) (NO rfl) ?_)
     · as_aux_lemma => kernel_rfl
     rintro ⟨⟩
     have hr21 := reqLine_len (⟨z, x18, 0, 0, 0, 0⟩ : Req)
     refine RUN0 1 [3, 4, 5, 6, 7] [(0, .v (.string (bs line))), (2, .p 0 0), (7, .p 1 0), (76, .v (.string (bs (reqLine (⟨z, x18, 0, 0, 0, 0⟩ : Req))))), (77, .v (.string (bs line)))] ?_ rfl ?_
     · as_aux_lemma => kernel_rfl
     refine OPC (RUNV (.binOp .neq 9 (.tmp 76) (.tmp 77) 9) 78 4 ?_ (NL rfl) (.bool (!((reqLine (⟨z, x18, 0, 0, 0, 0⟩ : Req)) == line))) (runs_sneq (a := reqLine (⟨z, x18, 0, 0, 0, 0⟩ : Req)) (b := line) ?_ ?_) ?_)
     iterate 3 (as_aux_lemma => kernel_rfl)
     refine RUN0 1 [5, 6, 7] [(0, .v (.string (bs line))), (2, .p 0 0), (7, .p 1 0), (79, B (!((reqLine (⟨z, x18, 0, 0, 0, 0⟩ : Req)) == line)))] ?_ rfl ?_
     · as_aux_lemma => kernel_rfl
     refine SPLIT (d := 79) (!((reqLine (⟨z, x18, 0, 0, 0, 0⟩ : Req)) == line)) ?_ (fun bh22 => ?_) (fun bh22 => ?_)
     · as_aux_lemma => kernel_rfl
     ·
      have h22 := bh22
      have h22 := notT h22
      have h22 := ne_of_beq_false h22
      refine RUN0 3 [] [(2, .p 0 0), (7, .p 1 0), (82, B true)] ?_ rfl ?_
      · as_aux_lemma => kernel_rfl
      refine ENDOPS (NEXT (IFT ?_ ?_))
      · as_aux_lemma => kernel_rfl
      refine SEQ (REGION [0, 1, 2] rfl (RUN0 3 [] [(2, .p 0 0), (3, B false)] ?_ rfl ?_))
      · as_aux_lemma => kernel_rfl
      refine ENDOPS (NEXT (RET (PASS trivial (FIN (.tuple #[.agg #[vi 0, vi 0, vi 0, vi 0, vi 0, vi 0], .bool false]) ?_ () ?_ [] ?_))))
      · as_aux_lemma => kernel_rfl
      · (have e0 := at5_of (hgd ▸ hx19); have hv9 : kindGo w0 7 1 0 = z := hv; have hlq : ((readArgs ((parts line 32).drop 1)).getD []).length = l9.length := (by rw [hgd]); have hz := readS_of (line := line) (l := l9) (w := w0) (q := (⟨z, x18, 0, 0, 0, 0⟩ : Req)) (by omega) hl9 hw0 (by first | (rw [sReq, if_pos (by omega), hv9, ← e0]; done) | (rw [sReq, if_neg (by omega), if_pos (by omega), hv9, ← e0]; done) | (rw [sReq, if_neg (by omega), if_neg (by omega), if_pos (by omega), hv9, ← e0]; done) | (rw [sReq, if_neg (by omega), if_neg (by omega), if_neg (by omega), hv9, ← e0]; done)); simp only [RV]; rw [hz]; simp only [optReq]; first | (rw [if_pos ⟨by assumption, by assumption⟩]; rfl) | (rw [if_neg (fun e => (by first | exact absurd e.1 (by assumption) | exact absurd (by assumption) e.2))]; rfl))
      · rfl
     ·
      have h22 := bh22
      have h22 := notF h22
      have h22 := eq_of_beq h22
      refine RUN0 1 [6, 7] [(2, .p 0 0), (7, .p 1 0), (79, B false), (80, .v (.string (bs line)))] ?_ rfl ?_
      · as_aux_lemma => kernel_rfl
      refine OPC (RUNV (.binOp .eql 9 (.tmp 80) (.const (.string (bs ([])))) 9) 81 4 ?_ (NL rfl) (.bool (line == ([]))) (runs_seql (a := line) (b := []) ?_ ?_) ?_)
      iterate 3 (as_aux_lemma => kernel_rfl)
      refine RUN0 1 [] [(2, .p 0 0), (7, .p 1 0), (82, B (line == ([])))] ?_ rfl ?_
      · as_aux_lemma => kernel_rfl
      refine ENDOPS (NEXT (IF (line == ([])) ?_ (fun bh23 => ?_) (fun bh23 => ?_)))
      · as_aux_lemma => kernel_rfl
      ·
       have h23 := bh23
       have h23 := eq_of_beq h23
       refine SEQ (REGION [0, 1, 2] rfl (RUN0 3 [] [(2, .p 0 0), (3, B false)] ?_ rfl ?_))
       · as_aux_lemma => kernel_rfl
       refine ENDOPS (NEXT (RET (PASS trivial (FIN (.tuple #[.agg #[vi 0, vi 0, vi 0, vi 0, vi 0, vi 0], .bool false]) ?_ () ?_ [] ?_))))
       · as_aux_lemma => kernel_rfl
       · (have e0 := at5_of (hgd ▸ hx19); have hv9 : kindGo w0 7 1 0 = z := hv; have hlq : ((readArgs ((parts line 32).drop 1)).getD []).length = l9.length := (by rw [hgd]); have hz := readS_of (line := line) (l := l9) (w := w0) (q := (⟨z, x18, 0, 0, 0, 0⟩ : Req)) (by omega) hl9 hw0 (by first | (rw [sReq, if_pos (by omega), hv9, ← e0]; done) | (rw [sReq, if_neg (by omega), if_pos (by omega), hv9, ← e0]; done) | (rw [sReq, if_neg (by omega), if_neg (by omega), if_pos (by omega), hv9, ← e0]; done) | (rw [sReq, if_neg (by omega), if_neg (by omega), if_neg (by omega), hv9, ← e0]; done)); simp only [RV]; rw [hz]; simp only [optReq]; first | (rw [if_pos ⟨by assumption, by assumption⟩]; rfl) | (rw [if_neg (fun e => (by first | exact absurd e.1 (by assumption) | exact absurd (by assumption) e.2))]; rfl))
       · rfl
      ·
       have h23 := bh23
       have h23 := ne_of_beq_false h23
       refine SKIP (NEXT (SEQ (REGION [0, 1, 2] rfl (RUN 3 [] [(2, .p 0 0), (3, B true)] [(30, [vi z, vi x18, vi 0, vi 0, vi 0, vi 0]), (30, [vi z, vi x18, vi 0, vi 0, vi 0, vi 0])] ?_ rfl ?_))))
       · as_aux_lemma => kernel_rfl
       refine ENDOPS (NEXT (RET (FIN (.tuple #[.agg #[vi z, vi x18, vi 0, vi 0, vi 0, vi 0], .bool true]) ?_ () ?_ [] ?_)))
       · as_aux_lemma => kernel_rfl
       · (have e0 := at5_of (hgd ▸ hx19); have hv9 : kindGo w0 7 1 0 = z := hv; have hlq : ((readArgs ((parts line 32).drop 1)).getD []).length = l9.length := (by rw [hgd]); have hz := readS_of (line := line) (l := l9) (w := w0) (q := (⟨z, x18, 0, 0, 0, 0⟩ : Req)) (by omega) hl9 hw0 (by first | (rw [sReq, if_pos (by omega), hv9, ← e0]; done) | (rw [sReq, if_neg (by omega), if_pos (by omega), hv9, ← e0]; done) | (rw [sReq, if_neg (by omega), if_neg (by omega), if_pos (by omega), hv9, ← e0]; done) | (rw [sReq, if_neg (by omega), if_neg (by omega), if_neg (by omega), hv9, ← e0]; done)); simp only [RV]; rw [hz]; simp only [optReq]; first | (rw [if_pos ⟨by assumption, by assumption⟩]; rfl) | (rw [if_neg (fun e => (by first | exact absurd e.1 (by assumption) | exact absurd (by assumption) e.2))]; rfl))
       · rfl
    ·
     have h17 := bh17
     have h17 := ne_of_beq_false h17
     refine SEQ (REGION [0, 1] rfl (RUN0 2 [] [(0, .v (.string (bs line))), (2, .p 0 0), (5, .v (.slice a10 (((readArgs ((parts line 32).drop 1)).getD []).length) c11)), (7, .p 1 0), (38, I ((((readArgs ((parts line 32).drop 1)).getD []).length : Nat) : Int)), (45, B (((((readArgs ((parts line 32).drop 1)).getD []).length : Nat) : Int) == 2))] ?_ rfl ?_))
     · as_aux_lemma => kernel_rfl
     refine ENDOPS (NEXT (IF (((((readArgs ((parts line 32).drop 1)).getD []).length : Nat) : Int) == 2) ?_ (fun bh24 => ?_) (fun bh24 => ?_)))
     · as_aux_lemma => kernel_rfl
     ·
      have h24 := bh24
      have h24 := eq_of_beq h24
      refine SEQ (REGION [0, 1, 2, 3, 4] rfl (RUN0 1 [1, 2, 3, 4] [(0, .v (.string (bs line))), (2, .p 0 0), (5, .v (.slice a10 (((readArgs ((parts line 32).drop 1)).getD []).length) c11)), (7, .p 1 0), (47, .v (.slice a10 (((readArgs ((parts line 32).drop 1)).getD []).length) c11))] ?_ rfl ?_))
      · as_aux_lemma => kernel_rfl
      obtain ⟨x25, hx26⟩ : ∃ y, ((readArgs ((parts line 32).drop 1)).getD [])[0]? = some y := ⟨_, List.getElem?_eq_getElem (by omega)⟩
      refine FACT (a10.isSome = true) (fun w hw => SlO.isS (hw.own 1 rfl) (by omega)) (fun hs27 => ?_)
      refine OPC (INDEX 42 (.tmp 47) (.const (vi 0)) 48 0 ?_ (NL rfl) a10 (((readArgs ((parts line 32).drop 1)).getD []).length) c11 .i64 0 3 1 ?_ ?_ ?_ ?_ hs27 (by omega) (by omega) ?_)
      iterate 5 (as_aux_lemma => kernel_rfl)
      refine OPC (LOADE 3 (.tmp 48) 49 3 ?_ (NL rfl) a10 (0 * 1) 0 [vi x25] (vi x25) ?_ (fun w hw => (hw.rdO 1 rfl).flat hx26) ?_ ?_)
      iterate 3 (as_aux_lemma => kernel_rfl)
      refine RUN 2 [] [(0, .v (.string (bs line))), (2, .p 0 0), (5, .v (.slice a10 (((readArgs ((parts line 32).drop 1)).getD []).length) c11)), (7, .p 1 0)] [(30, [vi 0, vi 0, vi 0, vi 0, vi 0, vi 0]), (30, [vi z, vi 0, vi x25, vi 0, vi 0, vi 0])] ?_ rfl ?_
      · as_aux_lemma => kernel_rfl
      refine ENDOPS (NEXT (REGION [0, 1, 2, 3, 4] rfl (RUN0 1 [1, 2, 3, 4] [(0, .v (.string (bs line))), (2, .p 0 0), (7, .p 1 0), (51, .v (.slice a10 (((readArgs ((parts line 32).drop 1)).getD []).length) c11))] ?_ rfl ?_)))
      · as_aux_lemma => kernel_rfl
      obtain ⟨x28, hx29⟩ : ∃ y, ((readArgs ((parts line 32).drop 1)).getD [])[1]? = some y := ⟨_, List.getElem?_eq_getElem (by omega)⟩
      refine OPC (INDEX 42 (.tmp 51) (.const (vi 1)) 52 0 ?_ (NL rfl) a10 (((readArgs ((parts line 32).drop 1)).getD []).length) c11 .i64 1 3 1 ?_ ?_ ?_ ?_ hs27 (by omega) (by omega) ?_)
      iterate 5 (as_aux_lemma => kernel_rfl)
      refine OPC (LOADE 3 (.tmp 52) 53 3 ?_ (NL rfl) a10 (1 * 1) 0 [vi x28] (vi x28) ?_ (fun w hw => (hw.rdO 1 rfl).flat hx29) ?_ ?_)
      iterate 3 (as_aux_lemma => kernel_rfl)
      refine RUN 2 [] [(0, .v (.string (bs line))), (2, .p 0 0), (7, .p 1 0)] [(30, [vi 0, vi 0, vi 0, vi 0, vi 0, vi 0]), (30, [vi z, vi 0, vi x25, vi 0, vi x28, vi 0])] ?_ rfl ?_
      · as_aux_lemma => kernel_rfl
      refine ENDOPS (OUTN (NEXT (SEQ (SEQ (REGION [0, 1, 2, 3, 4, 5, 6, 7] rfl (RUN0 1 [1, 2, 3, 4, 5, 6, 7] [(0, .v (.string (bs line))), (2, .p 0 0), (7, .p 1 0), (75, .v (.agg #[vi z, vi 0, vi x25, vi 0, vi x28, vi 0]))] ?_ rfl ?_))))))
      · as_aux_lemma => kernel_rfl
      refine OPC (CALL 19 #[.agg #[vi z, vi 0, vi x25, vi 0, vi x28, vi 0]] (some 76) ?_ [] [] _ rfl (RV (.string (bs (reqLine (⟨z, 0, x25, 0, x28, 0⟩ : Req))))) (fun w hw => sReqLine_c w (⟨z, 0, x25, 0, x28, 0⟩ : Req)) (NO rfl) ?_)
      · as_aux_lemma => kernel_rfl
      rintro ⟨⟩
      have hr30 := reqLine_len (⟨z, 0, x25, 0, x28, 0⟩ : Req)
      refine RUN0 1 [3, 4, 5, 6, 7] [(0, .v (.string (bs line))), (2, .p 0 0), (7, .p 1 0), (76, .v (.string (bs (reqLine (⟨z, 0, x25, 0, x28, 0⟩ : Req))))), (77, .v (.string (bs line)))] ?_ rfl ?_
      · as_aux_lemma => kernel_rfl
      refine OPC (RUNV (.binOp .neq 9 (.tmp 76) (.tmp 77) 9) 78 4 ?_ (NL rfl) (.bool (!((reqLine (⟨z, 0, x25, 0, x28, 0⟩ : Req)) == line))) (runs_sneq (a := reqLine (⟨z, 0, x25, 0, x28, 0⟩ : Req)) (b := line) ?_ ?_) ?_)
      iterate 3 (as_aux_lemma => kernel_rfl)
      refine RUN0 1 [5, 6, 7] [(0, .v (.string (bs line))), (2, .p 0 0), (7, .p 1 0), (79, B (!((reqLine (⟨z, 0, x25, 0, x28, 0⟩ : Req)) == line)))] ?_ rfl ?_
      · as_aux_lemma => kernel_rfl
      refine SPLIT (d := 79) (!((reqLine (⟨z, 0, x25, 0, x28, 0⟩ : Req)) == line)) ?_ (fun bh31 => ?_) (fun bh31 => ?_)
      · as_aux_lemma => kernel_rfl
      ·
       have h31 := bh31
       have h31 := notT h31
       have h31 := ne_of_beq_false h31
       refine RUN0 3 [] [(2, .p 0 0), (7, .p 1 0), (82, B true)] ?_ rfl ?_
       · as_aux_lemma => kernel_rfl
       refine ENDOPS (NEXT (IFT ?_ ?_))
       · as_aux_lemma => kernel_rfl
       refine SEQ (REGION [0, 1, 2] rfl (RUN0 3 [] [(2, .p 0 0), (3, B false)] ?_ rfl ?_))
       · as_aux_lemma => kernel_rfl
       refine ENDOPS (NEXT (RET (PASS trivial (FIN (.tuple #[.agg #[vi 0, vi 0, vi 0, vi 0, vi 0, vi 0], .bool false]) ?_ () ?_ [] ?_))))
       · as_aux_lemma => kernel_rfl
       · (have e0 := at5_of (hgd ▸ hx26); have e1 := at5_of (hgd ▸ hx29); have hv9 : kindGo w0 7 1 0 = z := hv; have hlq : ((readArgs ((parts line 32).drop 1)).getD []).length = l9.length := (by rw [hgd]); have hz := readS_of (line := line) (l := l9) (w := w0) (q := (⟨z, 0, x25, 0, x28, 0⟩ : Req)) (by omega) hl9 hw0 (by first | (rw [sReq, if_pos (by omega), hv9, ← e0, ← e1]; done) | (rw [sReq, if_neg (by omega), if_pos (by omega), hv9, ← e0, ← e1]; done) | (rw [sReq, if_neg (by omega), if_neg (by omega), if_pos (by omega), hv9, ← e0, ← e1]; done) | (rw [sReq, if_neg (by omega), if_neg (by omega), if_neg (by omega), hv9, ← e0, ← e1]; done)); simp only [RV]; rw [hz]; simp only [optReq]; first | (rw [if_pos ⟨by assumption, by assumption⟩]; rfl) | (rw [if_neg (fun e => (by first | exact absurd e.1 (by assumption) | exact absurd (by assumption) e.2))]; rfl))
       · rfl
      ·
       have h31 := bh31
       have h31 := notF h31
       have h31 := eq_of_beq h31
       refine RUN0 1 [6, 7] [(2, .p 0 0), (7, .p 1 0), (79, B false), (80, .v (.string (bs line)))] ?_ rfl ?_
       · as_aux_lemma => kernel_rfl
       refine OPC (RUNV (.binOp .eql 9 (.tmp 80) (.const (.string (bs ([])))) 9) 81 4 ?_ (NL rfl) (.bool (line == ([]))) (runs_seql (a := line) (b := []) ?_ ?_) ?_)
       iterate 3 (as_aux_lemma => kernel_rfl)
       refine RUN0 1 [] [(2, .p 0 0), (7, .p 1 0), (82, B (line == ([])))] ?_ rfl ?_
       · as_aux_lemma => kernel_rfl
       refine ENDOPS (NEXT (IF (line == ([])) ?_ (fun bh32 => ?_) (fun bh32 => ?_)))
       · as_aux_lemma => kernel_rfl
       ·
        have h32 := bh32
        have h32 := eq_of_beq h32
        refine SEQ (REGION [0, 1, 2] rfl (RUN0 3 [] [(2, .p 0 0), (3, B false)] ?_ rfl ?_))
        · as_aux_lemma => kernel_rfl
        refine ENDOPS (NEXT (RET (PASS trivial (FIN (.tuple #[.agg #[vi 0, vi 0, vi 0, vi 0, vi 0, vi 0], .bool false]) ?_ () ?_ [] ?_))))
        · as_aux_lemma => kernel_rfl
        · (have e0 := at5_of (hgd ▸ hx26); have e1 := at5_of (hgd ▸ hx29); have hv9 : kindGo w0 7 1 0 = z := hv; have hlq : ((readArgs ((parts line 32).drop 1)).getD []).length = l9.length := (by rw [hgd]); have hz := readS_of (line := line) (l := l9) (w := w0) (q := (⟨z, 0, x25, 0, x28, 0⟩ : Req)) (by omega) hl9 hw0 (by first | (rw [sReq, if_pos (by omega), hv9, ← e0, ← e1]; done) | (rw [sReq, if_neg (by omega), if_pos (by omega), hv9, ← e0, ← e1]; done) | (rw [sReq, if_neg (by omega), if_neg (by omega), if_pos (by omega), hv9, ← e0, ← e1]; done) | (rw [sReq, if_neg (by omega), if_neg (by omega), if_neg (by omega), hv9, ← e0, ← e1]; done)); simp only [RV]; rw [hz]; simp only [optReq]; first | (rw [if_pos ⟨by assumption, by assumption⟩]; rfl) | (rw [if_neg (fun e => (by first | exact absurd e.1 (by assumption) | exact absurd (by assumption) e.2))]; rfl))
        · rfl
       ·
        have h32 := bh32
        have h32 := ne_of_beq_false h32
        refine SKIP (NEXT (SEQ (REGION [0, 1, 2] rfl (RUN 3 [] [(2, .p 0 0), (3, B true)] [(30, [vi z, vi 0, vi x25, vi 0, vi x28, vi 0]), (30, [vi z, vi 0, vi x25, vi 0, vi x28, vi 0])] ?_ rfl ?_))))
        · as_aux_lemma => kernel_rfl
        refine ENDOPS (NEXT (RET (FIN (.tuple #[.agg #[vi z, vi 0, vi x25, vi 0, vi x28, vi 0], .bool true]) ?_ () ?_ [] ?_)))
        · as_aux_lemma => kernel_rfl
        · (have e0 := at5_of (hgd ▸ hx26); have e1 := at5_of (hgd ▸ hx29); have hv9 : kindGo w0 7 1 0 = z := hv; have hlq : ((readArgs ((parts line 32).drop 1)).getD []).length = l9.length := (by rw [hgd]); have hz := readS_of (line := line) (l := l9) (w := w0) (q := (⟨z, 0, x25, 0, x28, 0⟩ : Req)) (by omega) hl9 hw0 (by first | (rw [sReq, if_pos (by omega), hv9, ← e0, ← e1]; done) | (rw [sReq, if_neg (by omega), if_pos (by omega), hv9, ← e0, ← e1]; done) | (rw [sReq, if_neg (by omega), if_neg (by omega), if_pos (by omega), hv9, ← e0, ← e1]; done) | (rw [sReq, if_neg (by omega), if_neg (by omega), if_neg (by omega), hv9, ← e0, ← e1]; done)); simp only [RV]; rw [hz]; simp only [optReq]; first | (rw [if_pos ⟨by assumption, by assumption⟩]; rfl) | (rw [if_neg (fun e => (by first | exact absurd e.1 (by assumption) | exact absurd (by assumption) e.2))]; rfl))
        · rfl
     ·
      have h24 := bh24
      have h24 := ne_of_beq_false h24
      refine SEQ (REGION [0, 1] rfl (RUN0 2 [] [(0, .v (.string (bs line))), (2, .p 0 0), (5, .v (.slice a10 (((readArgs ((parts line 32).drop 1)).getD []).length) c11)), (7, .p 1 0), (55, B (((((readArgs ((parts line 32).drop 1)).getD []).length : Nat) : Int) == 5))] ?_ rfl ?_))
      · as_aux_lemma => kernel_rfl
      refine ENDOPS (NEXT (IF (((((readArgs ((parts line 32).drop 1)).getD []).length : Nat) : Int) == 5) ?_ (fun bh33 => ?_) (fun bh33 => ?_)))
      · as_aux_lemma => kernel_rfl
      ·
       have h33 := bh33
       have h33 := eq_of_beq h33
       refine EXPORT (fun bs hbs => ?_)
       obtain ⟨b34, b35, rfl⟩ := len2 hbs
       refine REGIONH ?_ 19 rfl [ptC b34 30 [vi 0, vi 0, vi 0, vi 0, vi 0, vi 0], slA 9 strL (.slice a2 (parts line 32).length c3) (parts line 32), slA 3 intL (.slice a10 ((readArgs ((parts line 32).drop 1)).getD []).length c11) ((readArgs ((parts line 32).drop 1)).getD [])] ?_
       · as_aux_lemma => kernel_rfl
       refine HPURE (js := [0, 1, 1]) 0 [(0, .v (.string (bs line))), (2, .e (some ⟨b34, 0, none⟩) 0 0), (5, .v (.slice a10 (((readArgs ((parts line 32).drop 1)).getD []).length) c11)), (7, .e (some ⟨b35, 0, none⟩) 0 0), (57, .e (some ⟨b35, 0, none⟩) 0 0)] ?_ ?_ rfl ?_
       iterate 2 (as_aux_lemma => kernel_rfl)
       refine HPURE (js := [0, 1, 1]) 2 [(0, .v (.string (bs line))), (2, .e (some ⟨b34, 0, none⟩) 0 0), (5, .v (.slice a10 (((readArgs ((parts line 32).drop 1)).getD []).length) c11)), (7, .e (some ⟨b35, 0, none⟩) 0 0), (57, .e (some ⟨b35, 0, none⟩) 0 0), (59, .v (.slice a10 (((readArgs ((parts line 32).drop 1)).getD []).length) c11))] ?_ ?_ rfl ?_
       iterate 2 (as_aux_lemma => kernel_rfl)
       obtain ⟨x36, hx37⟩ : ∃ y, ((readArgs ((parts line 32).drop 1)).getD [])[0]? = some y := ⟨_, List.getElem?_eq_getElem (by omega)⟩
       refine FACT (a10.isSome = true) (fun w hw => SlO.isS (hw.own 3 rfl) (by omega)) (fun hs38 => ?_)
       refine HINDEX (i := 3) (js := [0, 1, 1])  42 (.tmp 59) (.const (vi 0)) 60 0 ?_ (NL rfl) a10 (((readArgs ((parts line 32).drop 1)).getD []).length) c11 .i64 0 3 1 ?_ ?_ ?_ ?_ hs38 (by omega) (by omega) ?_ rfl ?_
       iterate 6 (as_aux_lemma => kernel_rfl)
       refine HLOADE (i := 4) (js := [0, 1, 1])  3 (.tmp 60) 61 3 ?_ (NL rfl) a10 (0 * 1) 0 [vi x36] (vi x36) ?_ (fun w hw => (hw.rdO 2 rfl).flat hx37) ?_ ?_ rfl ?_
       iterate 4 (as_aux_lemma => kernel_rfl)
       refine HPURE (js := [0, 1, 1]) 5 [(0, .v (.string (bs line))), (2, .e (some ⟨b34, 0, none⟩) 0 0), (5, .v (.slice a10 (((readArgs ((parts line 32).drop 1)).getD []).length) c11)), (7, .e (some ⟨b35, 0, none⟩) 0 0), (57, .e (some ⟨b35, 0, none⟩) 0 0), (61, I x36), (62, .v (.slice a10 (((readArgs ((parts line 32).drop 1)).getD []).length) c11))] ?_ ?_ rfl ?_
       iterate 2 (as_aux_lemma => kernel_rfl)
       obtain ⟨x39, hx40⟩ : ∃ y, ((readArgs ((parts line 32).drop 1)).getD [])[1]? = some y := ⟨_, List.getElem?_eq_getElem (by omega)⟩
       refine HINDEX (i := 6) (js := [0, 1, 1])  42 (.tmp 62) (.const (vi 1)) 63 0 ?_ (NL rfl) a10 (((readArgs ((parts line 32).drop 1)).getD []).length) c11 .i64 1 3 1 ?_ ?_ ?_ ?_ hs38 (by omega) (by omega) ?_ rfl ?_
       iterate 6 (as_aux_lemma => kernel_rfl)
       refine HLOADE (i := 7) (js := [0, 1, 1])  3 (.tmp 63) 64 3 ?_ (NL rfl) a10 (1 * 1) 0 [vi x39] (vi x39) ?_ (fun w hw => (hw.rdO 2 rfl).flat hx40) ?_ ?_ rfl ?_
       iterate 4 (as_aux_lemma => kernel_rfl)
       refine HPURE (js := [0, 1, 1]) 8 [(0, .v (.string (bs line))), (2, .e (some ⟨b34, 0, none⟩) 0 0), (5, .v (.slice a10 (((readArgs ((parts line 32).drop 1)).getD []).length) c11)), (7, .e (some ⟨b35, 0, none⟩) 0 0), (57, .e (some ⟨b35, 0, none⟩) 0 0), (61, I x36), (64, I x39), (65, .v (.slice a10 (((readArgs ((parts line 32).drop 1)).getD []).length) c11))] ?_ ?_ rfl ?_
       iterate 2 (as_aux_lemma => kernel_rfl)
       obtain ⟨x41, hx42⟩ : ∃ y, ((readArgs ((parts line 32).drop 1)).getD [])[2]? = some y := ⟨_, List.getElem?_eq_getElem (by omega)⟩
       refine HINDEX (i := 9) (js := [0, 1, 1])  42 (.tmp 65) (.const (vi 2)) 66 0 ?_ (NL rfl) a10 (((readArgs ((parts line 32).drop 1)).getD []).length) c11 .i64 2 3 1 ?_ ?_ ?_ ?_ hs38 (by omega) (by omega) ?_ rfl ?_
       iterate 6 (as_aux_lemma => kernel_rfl)
       refine HLOADE (i := 10) (js := [0, 1, 1])  3 (.tmp 66) 67 3 ?_ (NL rfl) a10 (2 * 1) 0 [vi x41] (vi x41) ?_ (fun w hw => (hw.rdO 2 rfl).flat hx42) ?_ ?_ rfl ?_
       iterate 4 (as_aux_lemma => kernel_rfl)
       refine HPURE (js := [0, 1, 1]) 11 [(0, .v (.string (bs line))), (2, .e (some ⟨b34, 0, none⟩) 0 0), (5, .v (.slice a10 (((readArgs ((parts line 32).drop 1)).getD []).length) c11)), (7, .e (some ⟨b35, 0, none⟩) 0 0), (57, .e (some ⟨b35, 0, none⟩) 0 0), (61, I x36), (64, I x39), (67, I x41), (68, .v (.slice a10 (((readArgs ((parts line 32).drop 1)).getD []).length) c11))] ?_ ?_ rfl ?_
       iterate 2 (as_aux_lemma => kernel_rfl)
       obtain ⟨x43, hx44⟩ : ∃ y, ((readArgs ((parts line 32).drop 1)).getD [])[3]? = some y := ⟨_, List.getElem?_eq_getElem (by omega)⟩
       refine HINDEX (i := 12) (js := [0, 1, 1])  42 (.tmp 68) (.const (vi 3)) 69 0 ?_ (NL rfl) a10 (((readArgs ((parts line 32).drop 1)).getD []).length) c11 .i64 3 3 1 ?_ ?_ ?_ ?_ hs38 (by omega) (by omega) ?_ rfl ?_
       iterate 6 (as_aux_lemma => kernel_rfl)
       refine HLOADE (i := 13) (js := [0, 1, 1])  3 (.tmp 69) 70 3 ?_ (NL rfl) a10 (3 * 1) 0 [vi x43] (vi x43) ?_ (fun w hw => (hw.rdO 2 rfl).flat hx44) ?_ ?_ rfl ?_
       iterate 4 (as_aux_lemma => kernel_rfl)
       refine HPURE (js := [0, 1, 1]) 14 [(0, .v (.string (bs line))), (2, .e (some ⟨b34, 0, none⟩) 0 0), (7, .e (some ⟨b35, 0, none⟩) 0 0), (57, .e (some ⟨b35, 0, none⟩) 0 0), (61, I x36), (64, I x39), (67, I x41), (70, I x43), (71, .v (.slice a10 (((readArgs ((parts line 32).drop 1)).getD []).length) c11))] ?_ ?_ rfl ?_
       iterate 2 (as_aux_lemma => kernel_rfl)
       obtain ⟨x45, hx46⟩ : ∃ y, ((readArgs ((parts line 32).drop 1)).getD [])[4]? = some y := ⟨_, List.getElem?_eq_getElem (by omega)⟩
       refine HINDEX (i := 15) (js := [0, 1, 1])  42 (.tmp 71) (.const (vi 4)) 72 0 ?_ (NL rfl) a10 (((readArgs ((parts line 32).drop 1)).getD []).length) c11 .i64 4 3 1 ?_ ?_ ?_ ?_ hs38 (by omega) (by omega) ?_ rfl ?_
       iterate 6 (as_aux_lemma => kernel_rfl)
       refine HLOADE (i := 16) (js := [0, 1, 1])  3 (.tmp 72) 73 3 ?_ (NL rfl) a10 (4 * 1) 0 [vi x45] (vi x45) ?_ (fun w hw => (hw.rdO 2 rfl).flat hx46) ?_ ?_ rfl ?_
       iterate 4 (as_aux_lemma => kernel_rfl)
       refine HALL [1] ?_ (by decide) ?_
       · as_aux_lemma => kernel_rfl
       refine LOADE 3 (.tmp 57) 58 3 ?_ (NL rfl) (some ⟨b35, 0, none⟩) 0 0 [vi z, vi 0, vi 0, vi 0, vi 0, vi 0] (vi z) ?_ (fun w hw => ptC_elem (hw.own 1 rfl)) ?_ ?_
       iterate 3 (as_aux_lemma => kernel_rfl)
       refine HKEEP (js := [0, 1, 1]) rfl (HPURE (js := [0, 1, 1]) 17 [(0, .v (.string (bs line))), (2, .e (some ⟨b34, 0, none⟩) 0 0), (7, .e (some ⟨b35, 0, none⟩) 0 0), (74, .v (.agg #[vi z, vi x36, vi x39, vi x41, vi x43, vi x45]))] ?_ ?_ rfl ?_)
       iterate 2 (as_aux_lemma => kernel_rfl)
       refine HALL [18] ?_ (by decide) ?_
       · as_aux_lemma => kernel_rfl
       refine STOREC 30 (.tmp 7) (.tmp 74) 0 ?_ 1 _ b35 0 30 [vi z, vi 0, vi 0, vi 0, vi 0, vi 0] [vi z, vi x36, vi x39, vi x41, vi x43, vi x45] rfl (.agg #[vi z, vi x36, vi x39, vi x41, vi x43, vi x45]) ?_ ?_ ?_ ?_
       iterate 4 (as_aux_lemma => kernel_rfl)
       refine HKEEP (js := [0, 0, 0]) rfl (HEND ?_ ?_)
       · as_aux_lemma => kernel_rfl
       refine IMPORT (L0 := [(30, [vi 0, vi 0, vi 0, vi 0, vi 0, vi 0]), (30, [vi z, vi x36, vi x39, vi x41, vi x43, vi x45])]) (L1 := []) [b34, b35] rfl [0, 2] _ rfl [(0, .v (.string (bs line))), (2, .p 0 0), (7, .p 1 0), (74, .v (.agg #[vi z, vi x36, vi x39, vi x41, vi x43, vi x45]))] ?_ ?_ ?_
       iterate 2 (as_aux_lemma => kernel_rfl)
       refine OUTN (NEXT (SEQ (SEQ (REGION [0, 1, 2, 3, 4, 5, 6, 7] rfl (RUN0 1 [1, 2, 3, 4, 5, 6, 7] [(0, .v (.string (bs line))), (2, .p 0 0), (7, .p 1 0), (75, .v (.agg #[vi z, vi x36, vi x39, vi x41, vi x43, vi x45]))] ?_ rfl ?_)))))
       · as_aux_lemma => kernel_rfl
       refine OPC (CALL 19 #[.agg #[vi z, vi x36, vi x39, vi x41, vi x43, vi x45]] (some 76) ?_ [] [] _ rfl (RV (.string (bs (reqLine (⟨z, x36, x39, x41, x43, x45⟩ : Req))))) (fun w hw => sReqLine_c w (⟨z, x36, x39, x41, x43, x45⟩ : Req)) (NO rfl) ?_)
       · as_aux_lemma => kernel_rfl
       rintro ⟨⟩
       have hr47 := reqLine_len (⟨z, x36, x39, x41, x43, x45⟩ : Req)
       refine RUN0 1 [3, 4, 5, 6, 7] [(0, .v (.string (bs line))), (2, .p 0 0), (7, .p 1 0), (76, .v (.string (bs (reqLine (⟨z, x36, x39, x41, x43, x45⟩ : Req))))), (77, .v (.string (bs line)))] ?_ rfl ?_
       · as_aux_lemma => kernel_rfl
       refine OPC (RUNV (.binOp .neq 9 (.tmp 76) (.tmp 77) 9) 78 4 ?_ (NL rfl) (.bool (!((reqLine (⟨z, x36, x39, x41, x43, x45⟩ : Req)) == line))) (runs_sneq (a := reqLine (⟨z, x36, x39, x41, x43, x45⟩ : Req)) (b := line) ?_ ?_) ?_)
       iterate 3 (as_aux_lemma => kernel_rfl)
       refine RUN0 1 [5, 6, 7] [(0, .v (.string (bs line))), (2, .p 0 0), (7, .p 1 0), (79, B (!((reqLine (⟨z, x36, x39, x41, x43, x45⟩ : Req)) == line)))] ?_ rfl ?_
       · as_aux_lemma => kernel_rfl
       refine SPLIT (d := 79) (!((reqLine (⟨z, x36, x39, x41, x43, x45⟩ : Req)) == line)) ?_ (fun bh48 => ?_) (fun bh48 => ?_)
       · as_aux_lemma => kernel_rfl
       ·
        have h48 := bh48
        have h48 := notT h48
        have h48 := ne_of_beq_false h48
        refine RUN0 3 [] [(2, .p 0 0), (7, .p 1 0), (82, B true)] ?_ rfl ?_
        · as_aux_lemma => kernel_rfl
        refine ENDOPS (NEXT (IFT ?_ ?_))
        · as_aux_lemma => kernel_rfl
        refine SEQ (REGION [0, 1, 2] rfl (RUN0 3 [] [(2, .p 0 0), (3, B false)] ?_ rfl ?_))
        · as_aux_lemma => kernel_rfl
        refine ENDOPS (NEXT (RET (PASS trivial (FIN (.tuple #[.agg #[vi 0, vi 0, vi 0, vi 0, vi 0, vi 0], .bool false]) ?_ () ?_ [] ?_))))
        · as_aux_lemma => kernel_rfl
        · (have e0 := at5_of (hgd ▸ hx37); have e1 := at5_of (hgd ▸ hx40); have e2 := at5_of (hgd ▸ hx42); have e3 := at5_of (hgd ▸ hx44); have e4 := at5_of (hgd ▸ hx46); have hv9 : kindGo w0 7 1 0 = z := hv; have hlq : ((readArgs ((parts line 32).drop 1)).getD []).length = l9.length := (by rw [hgd]); have hz := readS_of (line := line) (l := l9) (w := w0) (q := (⟨z, x36, x39, x41, x43, x45⟩ : Req)) (by omega) hl9 hw0 (by first | (rw [sReq, if_pos (by omega), hv9, ← e0, ← e1, ← e2, ← e3, ← e4]; done) | (rw [sReq, if_neg (by omega), if_pos (by omega), hv9, ← e0, ← e1, ← e2, ← e3, ← e4]; done) | (rw [sReq, if_neg (by omega), if_neg (by omega), if_pos (by omega), hv9, ← e0, ← e1, ← e2, ← e3, ← e4]; done) | (rw [sReq, if_neg (by omega), if_neg (by omega), if_neg (by omega), hv9, ← e0, ← e1, ← e2, ← e3, ← e4]; done)); simp only [RV]; rw [hz]; simp only [optReq]; first | (rw [if_pos ⟨by assumption, by assumption⟩]; rfl) | (rw [if_neg (fun e => (by first | exact absurd e.1 (by assumption) | exact absurd (by assumption) e.2))]; rfl))
        · rfl
       ·
        have h48 := bh48
        have h48 := notF h48
        have h48 := eq_of_beq h48
        refine RUN0 1 [6, 7] [(2, .p 0 0), (7, .p 1 0), (79, B false), (80, .v (.string (bs line)))] ?_ rfl ?_
        · as_aux_lemma => kernel_rfl
        refine OPC (RUNV (.binOp .eql 9 (.tmp 80) (.const (.string (bs ([])))) 9) 81 4 ?_ (NL rfl) (.bool (line == ([]))) (runs_seql (a := line) (b := []) ?_ ?_) ?_)
        iterate 3 (as_aux_lemma => kernel_rfl)
        refine RUN0 1 [] [(2, .p 0 0), (7, .p 1 0), (82, B (line == ([])))] ?_ rfl ?_
        · as_aux_lemma => kernel_rfl
        refine ENDOPS (NEXT (IF (line == ([])) ?_ (fun bh49 => ?_) (fun bh49 => ?_)))
        · as_aux_lemma => kernel_rfl
        ·
         have h49 := bh49
         have h49 := eq_of_beq h49
         refine SEQ (REGION [0, 1, 2] rfl (RUN0 3 [] [(2, .p 0 0), (3, B false)] ?_ rfl ?_))
         · as_aux_lemma => kernel_rfl
         refine ENDOPS (NEXT (RET (PASS trivial (FIN (.tuple #[.agg #[vi 0, vi 0, vi 0, vi 0, vi 0, vi 0], .bool false]) ?_ () ?_ [] ?_))))
         · as_aux_lemma => kernel_rfl
         · (have e0 := at5_of (hgd ▸ hx37); have e1 := at5_of (hgd ▸ hx40); have e2 := at5_of (hgd ▸ hx42); have e3 := at5_of (hgd ▸ hx44); have e4 := at5_of (hgd ▸ hx46); have hv9 : kindGo w0 7 1 0 = z := hv; have hlq : ((readArgs ((parts line 32).drop 1)).getD []).length = l9.length := (by rw [hgd]); have hz := readS_of (line := line) (l := l9) (w := w0) (q := (⟨z, x36, x39, x41, x43, x45⟩ : Req)) (by omega) hl9 hw0 (by first | (rw [sReq, if_pos (by omega), hv9, ← e0, ← e1, ← e2, ← e3, ← e4]; done) | (rw [sReq, if_neg (by omega), if_pos (by omega), hv9, ← e0, ← e1, ← e2, ← e3, ← e4]; done) | (rw [sReq, if_neg (by omega), if_neg (by omega), if_pos (by omega), hv9, ← e0, ← e1, ← e2, ← e3, ← e4]; done) | (rw [sReq, if_neg (by omega), if_neg (by omega), if_neg (by omega), hv9, ← e0, ← e1, ← e2, ← e3, ← e4]; done)); simp only [RV]; rw [hz]; simp only [optReq]; first | (rw [if_pos ⟨by assumption, by assumption⟩]; rfl) | (rw [if_neg (fun e => (by first | exact absurd e.1 (by assumption) | exact absurd (by assumption) e.2))]; rfl))
         · rfl
        ·
         have h49 := bh49
         have h49 := ne_of_beq_false h49
         refine SKIP (NEXT (SEQ (REGION [0, 1, 2] rfl (RUN 3 [] [(2, .p 0 0), (3, B true)] [(30, [vi z, vi x36, vi x39, vi x41, vi x43, vi x45]), (30, [vi z, vi x36, vi x39, vi x41, vi x43, vi x45])] ?_ rfl ?_))))
         · as_aux_lemma => kernel_rfl
         refine ENDOPS (NEXT (RET (FIN (.tuple #[.agg #[vi z, vi x36, vi x39, vi x41, vi x43, vi x45], .bool true]) ?_ () ?_ [] ?_)))
         · as_aux_lemma => kernel_rfl
         · (have e0 := at5_of (hgd ▸ hx37); have e1 := at5_of (hgd ▸ hx40); have e2 := at5_of (hgd ▸ hx42); have e3 := at5_of (hgd ▸ hx44); have e4 := at5_of (hgd ▸ hx46); have hv9 : kindGo w0 7 1 0 = z := hv; have hlq : ((readArgs ((parts line 32).drop 1)).getD []).length = l9.length := (by rw [hgd]); have hz := readS_of (line := line) (l := l9) (w := w0) (q := (⟨z, x36, x39, x41, x43, x45⟩ : Req)) (by omega) hl9 hw0 (by first | (rw [sReq, if_pos (by omega), hv9, ← e0, ← e1, ← e2, ← e3, ← e4]; done) | (rw [sReq, if_neg (by omega), if_pos (by omega), hv9, ← e0, ← e1, ← e2, ← e3, ← e4]; done) | (rw [sReq, if_neg (by omega), if_neg (by omega), if_pos (by omega), hv9, ← e0, ← e1, ← e2, ← e3, ← e4]; done) | (rw [sReq, if_neg (by omega), if_neg (by omega), if_neg (by omega), hv9, ← e0, ← e1, ← e2, ← e3, ← e4]; done)); simp only [RV]; rw [hz]; simp only [optReq]; first | (rw [if_pos ⟨by assumption, by assumption⟩]; rfl) | (rw [if_neg (fun e => (by first | exact absurd e.1 (by assumption) | exact absurd (by assumption) e.2))]; rfl))
         · rfl
      ·
       have h33 := bh33
       have h33 := ne_of_beq_false h33
       refine SKIP (OUTN (NEXT (SEQ (SEQ (REGION [0, 1, 2, 3, 4, 5, 6, 7] rfl (RUN0 1 [1, 2, 3, 4, 5, 6, 7] [(0, .v (.string (bs line))), (2, .p 0 0), (7, .p 1 0), (75, .v (.agg #[vi z, vi 0, vi 0, vi 0, vi 0, vi 0]))] ?_ rfl ?_))))))
       · as_aux_lemma => kernel_rfl
       refine OPC (CALL 19 #[.agg #[vi z, vi 0, vi 0, vi 0, vi 0, vi 0]] (some 76) ?_ [] [] _ rfl (RV (.string (bs (reqLine (⟨z, 0, 0, 0, 0, 0⟩ : Req))))) (fun w hw => sReqLine_c w (⟨z, 0, 0, 0, 0, 0⟩ : Req)) (NO rfl) ?_)
       · as_aux_lemma => kernel_rfl
       rintro ⟨⟩
       have hr50 := reqLine_len (⟨z, 0, 0, 0, 0, 0⟩ : Req)
       refine RUN0 1 [3, 4, 5, 6, 7] [(0, .v (.string (bs line))), (2, .p 0 0), (7, .p 1 0), (76, .v (.string (bs (reqLine (⟨z, 0, 0, 0, 0, 0⟩ : Req))))), (77, .v (.string (bs line)))] ?_ rfl ?_
       · as_aux_lemma => kernel_rfl
       refine OPC (RUNV (.binOp .neq 9 (.tmp 76) (.tmp 77) 9) 78 4 ?_ (NL rfl) (.bool (!((reqLine (⟨z, 0, 0, 0, 0, 0⟩ : Req)) == line))) (runs_sneq (a := reqLine (⟨z, 0, 0, 0, 0, 0⟩ : Req)) (b := line) ?_ ?_) ?_)
       iterate 3 (as_aux_lemma => kernel_rfl)
       refine RUN0 1 [5, 6, 7] [(0, .v (.string (bs line))), (2, .p 0 0), (7, .p 1 0), (79, B (!((reqLine (⟨z, 0, 0, 0, 0, 0⟩ : Req)) == line)))] ?_ rfl ?_
       · as_aux_lemma => kernel_rfl
       refine SPLIT (d := 79) (!((reqLine (⟨z, 0, 0, 0, 0, 0⟩ : Req)) == line)) ?_ (fun bh51 => ?_) (fun bh51 => ?_)
       · as_aux_lemma => kernel_rfl
       ·
        have h51 := bh51
        have h51 := notT h51
        have h51 := ne_of_beq_false h51
        refine RUN0 3 [] [(2, .p 0 0), (7, .p 1 0), (82, B true)] ?_ rfl ?_
        · as_aux_lemma => kernel_rfl
        refine ENDOPS (NEXT (IFT ?_ ?_))
        · as_aux_lemma => kernel_rfl
        refine SEQ (REGION [0, 1, 2] rfl (RUN0 3 [] [(2, .p 0 0), (3, B false)] ?_ rfl ?_))
        · as_aux_lemma => kernel_rfl
        refine ENDOPS (NEXT (RET (PASS trivial (FIN (.tuple #[.agg #[vi 0, vi 0, vi 0, vi 0, vi 0, vi 0], .bool false]) ?_ () ?_ [] ?_))))
        · as_aux_lemma => kernel_rfl
        · (have hv9 : kindGo w0 7 1 0 = z := hv; have hlq : ((readArgs ((parts line 32).drop 1)).getD []).length = l9.length := (by rw [hgd]); have hz := readS_of (line := line) (l := l9) (w := w0) (q := (⟨z, 0, 0, 0, 0, 0⟩ : Req)) (by omega) hl9 hw0 (by first | (rw [sReq, if_pos (by omega), hv9]; done) | (rw [sReq, if_neg (by omega), if_pos (by omega), hv9]; done) | (rw [sReq, if_neg (by omega), if_neg (by omega), if_pos (by omega), hv9]; done) | (rw [sReq, if_neg (by omega), if_neg (by omega), if_neg (by omega), hv9]; done)); simp only [RV]; rw [hz]; simp only [optReq]; first | (rw [if_pos ⟨by assumption, by assumption⟩]; rfl) | (rw [if_neg (fun e => (by first | exact absurd e.1 (by assumption) | exact absurd (by assumption) e.2))]; rfl))
        · rfl
       ·
        have h51 := bh51
        have h51 := notF h51
        have h51 := eq_of_beq h51
        refine RUN0 1 [6, 7] [(2, .p 0 0), (7, .p 1 0), (79, B false), (80, .v (.string (bs line)))] ?_ rfl ?_
        · as_aux_lemma => kernel_rfl
        refine OPC (RUNV (.binOp .eql 9 (.tmp 80) (.const (.string (bs ([])))) 9) 81 4 ?_ (NL rfl) (.bool (line == ([]))) (runs_seql (a := line) (b := []) ?_ ?_) ?_)
        iterate 3 (as_aux_lemma => kernel_rfl)
        refine RUN0 1 [] [(2, .p 0 0), (7, .p 1 0), (82, B (line == ([])))] ?_ rfl ?_
        · as_aux_lemma => kernel_rfl
        refine ENDOPS (NEXT (IF (line == ([])) ?_ (fun bh52 => ?_) (fun bh52 => ?_)))
        · as_aux_lemma => kernel_rfl
        ·
         have h52 := bh52
         have h52 := eq_of_beq h52
         refine SEQ (REGION [0, 1, 2] rfl (RUN0 3 [] [(2, .p 0 0), (3, B false)] ?_ rfl ?_))
         · as_aux_lemma => kernel_rfl
         refine ENDOPS (NEXT (RET (PASS trivial (FIN (.tuple #[.agg #[vi 0, vi 0, vi 0, vi 0, vi 0, vi 0], .bool false]) ?_ () ?_ [] ?_))))
         · as_aux_lemma => kernel_rfl
         · (have hv9 : kindGo w0 7 1 0 = z := hv; have hlq : ((readArgs ((parts line 32).drop 1)).getD []).length = l9.length := (by rw [hgd]); have hz := readS_of (line := line) (l := l9) (w := w0) (q := (⟨z, 0, 0, 0, 0, 0⟩ : Req)) (by omega) hl9 hw0 (by first | (rw [sReq, if_pos (by omega), hv9]; done) | (rw [sReq, if_neg (by omega), if_pos (by omega), hv9]; done) | (rw [sReq, if_neg (by omega), if_neg (by omega), if_pos (by omega), hv9]; done) | (rw [sReq, if_neg (by omega), if_neg (by omega), if_neg (by omega), hv9]; done)); simp only [RV]; rw [hz]; simp only [optReq]; first | (rw [if_pos ⟨by assumption, by assumption⟩]; rfl) | (rw [if_neg (fun e => (by first | exact absurd e.1 (by assumption) | exact absurd (by assumption) e.2))]; rfl))
         · rfl
        ·
         have h52 := bh52
         have h52 := ne_of_beq_false h52
         refine SKIP (NEXT (SEQ (REGION [0, 1, 2] rfl (RUN 3 [] [(2, .p 0 0), (3, B true)] [(30, [vi z, vi 0, vi 0, vi 0, vi 0, vi 0]), (30, [vi z, vi 0, vi 0, vi 0, vi 0, vi 0])] ?_ rfl ?_))))
         · as_aux_lemma => kernel_rfl
         refine ENDOPS (NEXT (RET (FIN (.tuple #[.agg #[vi z, vi 0, vi 0, vi 0, vi 0, vi 0], .bool true]) ?_ () ?_ [] ?_)))
         · as_aux_lemma => kernel_rfl
         · (have hv9 : kindGo w0 7 1 0 = z := hv; have hlq : ((readArgs ((parts line 32).drop 1)).getD []).length = l9.length := (by rw [hgd]); have hz := readS_of (line := line) (l := l9) (w := w0) (q := (⟨z, 0, 0, 0, 0, 0⟩ : Req)) (by omega) hl9 hw0 (by first | (rw [sReq, if_pos (by omega), hv9]; done) | (rw [sReq, if_neg (by omega), if_pos (by omega), hv9]; done) | (rw [sReq, if_neg (by omega), if_neg (by omega), if_pos (by omega), hv9]; done) | (rw [sReq, if_neg (by omega), if_neg (by omega), if_neg (by omega), hv9]; done)); simp only [RV]; rw [hz]; simp only [optReq]; first | (rw [if_pos ⟨by assumption, by assumption⟩]; rfl) | (rw [if_neg (fun e => (by first | exact absurd e.1 (by assumption) | exact absurd (by assumption) e.2))]; rfl))
         · rfl

theorem sReadScript_c (W : World) (s : List UInt8) (hl : s.length ≤ 1048576) : Spec Tryz.prog W [] 14 #[.string (bs s)] (⟨HH, fun p => .tuple #[.slice p.1 (((readScript s).1).length) p.2, vi ((readScript s).2)], fun p => [slA 30 reqL (.slice p.1 ((readScript s).1).length p.2) ((readScript s).1)]⟩) := by
 refine ENTER0 (N := 42) (vs := [.string (bs s)]) Tryz.func14 rfl rfl (NL rfl) ?_
 refine SEQ (REGION [0, 1] rfl (RUN0 2 [] [(0, .v (.string (bs s)))] ?_ rfl ?_))
 · as_aux_lemma => kernel_rfl
 refine ENDOPS (NEXT (SEQ (REGION [0, 1] rfl (OPC (BUILDS 24 0 #[] 9 24 ?_ (NL rfl) 30 [] ?_ reqL [] rfl (by simp only [maxLen]; omega) [] [] _ rfl (flatRep rfl) (fun a1 ha2 => ?_))))))
 iterate 2 (as_aux_lemma => kernel_rfl)
 refine RUN0 1 [] [(0, .v (.string (bs s))), (4, .v (.slice a1 0 0))] ?_ rfl ?_
 · as_aux_lemma => kernel_rfl
 refine ENDOPS (NEXT (SEQ (SEQ (REGION [0, 1] rfl (RUN0 1 [1] [(0, .v (.string (bs s))), (4, .v (.slice a1 0 0)), (10, .v (.string (bs s)))] ?_ rfl ?_)))))
 · as_aux_lemma => kernel_rfl
 refine OPC (RUNV (.binOp .eql 9 (.tmp 10) (.const (.string (bs ([])))) 9) 11 4 ?_ (NL rfl) (.bool (s == ([]))) (runs_seql (a := s) (b := []) ?_ ?_) ?_)
 iterate 3 (as_aux_lemma => kernel_rfl)
 refine ENDOPS (NEXT (IF (s == ([])) ?_ (fun bh3 => ?_) (fun bh3 => ?_)))
 · as_aux_lemma => kernel_rfl
 ·
  have h3 := bh3
  have h3 := eq_of_beq h3
  refine SEQ (REGION [0, 1, 2] rfl (RUN0 3 [] [(2, .v (.slice a1 0 0)), (3, I (-1))] ?_ rfl ?_))
  · as_aux_lemma => kernel_rfl
  refine ENDOPS (NEXT (RET (PASS trivial ?_)))
  have efin : readScript s = ([], -1) := by first | exact readScript_nil (by assumption) | exact readScript_big (by assumption) (by omega) | (rw [readScript_of (by assumption) (by omega), hv0]; first | rfl | exact readGo_none (by assumption) | (rw [← read_eq] at *; exact readGo_none (by assumption)))
  refine FIN (.tuple #[.slice a1 0 0, vi (-1)]) ?_ (a1, 0) ?_ [0] ?_
  · as_aux_lemma => kernel_rfl
  · (rw [efin] <;> rfl)
  · (rw [efin] <;> rfl)
 ·
  have h3 := bh3
  have h3 := ne_of_beq_false h3
  refine SKIP (NEXT (SEQ (REGION [0, 1, 2] rfl (RUN0 1 [1, 2] [(4, .v (.slice a1 0 0)), (13, .v (.string (bs s)))] ?_ rfl ?_))))
  · as_aux_lemma => kernel_rfl
  refine OPC (CALL 25 #[.string (bs s), .int .u8 10] (some 14) ?_ [] [] _ rfl (⟨HH, fun p => .slice p.1 ((parts s 10).length) p.2, fun p => [slA 9 strL (.slice p.1 (parts s 10).length p.2) (parts s 10)]⟩) (fun w hw => sParts_c w s 10 (by first | assumption | omega)) (NO rfl) ?_)
  · as_aux_lemma => kernel_rfl
  rintro ⟨a4, c5⟩
  have hr6 := parts_len s 10
  refine RUN0 1 [] [(4, .v (.slice a1 0 0)), (5, .v (.slice a4 ((parts s 10).length) c5))] ?_ rfl ?_
  · as_aux_lemma => kernel_rfl
  refine ENDOPS (NEXT (SEQ (SEQ (REGION [0, 1, 2] rfl (RUN0 3 [] [(4, .v (.slice a1 0 0)), (5, .v (.slice a4 ((parts s 10).length) c5)), (17, B (decide ((((parts s 10).length : Nat) : Int) > 200)))] ?_ rfl ?_)))))
  · as_aux_lemma => kernel_rfl
  refine ENDOPS (NEXT (IF (decide ((((parts s 10).length : Nat) : Int) > 200)) ?_ (fun bh7 => ?_) (fun bh7 => ?_)))
  · as_aux_lemma => kernel_rfl
  ·
   have h7 := bh7
   have h7 := of_decide_eq_true h7
   refine SEQ (REGION [0, 1, 2] rfl (RUN0 3 [] [(2, .v (.slice a1 0 0)), (3, I 200)] ?_ rfl ?_))
   · as_aux_lemma => kernel_rfl
   refine ENDOPS (NEXT (RET (PASS trivial ?_)))
   have efin : readScript s = ([], 200) := by first | exact readScript_nil (by assumption) | exact readScript_big (by assumption) (by omega) | (rw [readScript_of (by assumption) (by omega), hv0]; first | rfl | exact readGo_none (by assumption) | (rw [← read_eq] at *; exact readGo_none (by assumption)))
   refine FIN (.tuple #[.slice a1 0 0, vi 200]) ?_ (a1, 0) ?_ [0] ?_
   · as_aux_lemma => kernel_rfl
   · (rw [efin] <;> rfl)
   · (rw [efin] <;> rfl)
  ·
   have h7 := bh7
   have h7 := of_decide_eq_false h7
   refine SKIP (NEXT (SEQ (SEQ (REGION [0] rfl (RUN0 1 [] [(4, .v (.slice a1 0 0)), (5, .v (.slice a4 ((parts s 10).length) c5)), (6, I 0)] ?_ rfl ?_)))))
   · as_aux_lemma => kernel_rfl
   refine ENDOPS (NEXT (BLOCK (LOOP (ι := Nat × (List (List UInt8)) × (Option Addr) × Nat × (List Req)) (fun j => [(4, .v (.slice j.2.2.1 j.2.2.2.2.length j.2.2.2.1)), (5, .v (.slice a4 ((parts s 10).length) c5)), (6, I (j.1 : Int))]) (fun j => []) (fun j => [slA 30 reqL (.slice j.2.2.1 j.2.2.2.2.length j.2.2.2.1) j.2.2.2.2, slA 9 strL (.slice a4 (parts s 10).length c5) (parts s 10)]) (fun j => j.1 + j.2.1.length = (parts s 10).length ∧ (parts s 10).drop j.1 = j.2.1 ∧ readGo 0 [] (parts s 10) = readGo j.1 j.2.2.2.2 j.2.1 ∧ j.2.2.2.2.length = j.1) (fun j => j.2.1.length) (0, (parts s 10), a1, 0, []) [4, 5, 6] ⟨by simp, rfl, rfl, rfl⟩ ?_ rfl rfl ?_)))
   · as_aux_lemma => kernel_rfl
   rintro ⟨k, ys, oa, oc, out⟩ ⟨hk, hd, hv0, hv1⟩
   try dsimp only at hk hd hv0 hv1
   refine SEQ (SEQ (REGION [0, 1, 2, 3] rfl (RUN0 4 [] [(4, .v (.slice oa out.length oc)), (5, .v (.slice a4 ((parts s 10).length) c5)), (6, I (k : Int)), (22, B (decide ((k : Int) < (((parts s 10).length : Nat) : Int))))] ?_ rfl ?_)))
   · as_aux_lemma => kernel_rfl
   refine ENDOPS (NEXT (IF (decide ((k : Int) < (((parts s 10).length : Nat) : Int))) ?_ (fun bh8 => ?_) (fun bh8 => ?_)))
   · as_aux_lemma => kernel_rfl
   ·
    have h8 := bh8
    have h8 := of_decide_eq_true h8
    obtain ⟨y9, ys10, rfl, hx_y9, hd_y9, hl_y9⟩ := drop_cons hd hk (by omega)
    have hm_y9 := parts_mem (List.mem_of_getElem? hx_y9)
    refine SKIP (NEXT (SEQ (BLOCK (SEQ (REGION [0, 1, 2, 3, 4, 5, 6, 7, 8, 9, 10] rfl (RUN0 2 [2, 3, 4, 5, 6, 7, 8, 9, 10] [(4, .v (.slice oa out.length oc)), (5, .v (.slice a4 ((parts s 10).length) c5)), (6, I (k : Int)), (26, .v (.slice a4 ((parts s 10).length) c5)), (27, I (k : Int))] ?_ rfl ?_))))))
    · as_aux_lemma => kernel_rfl
    refine FACT (a4.isSome = true) (fun w hw => SlO.isS (hw.own 1 rfl) (by omega)) (fun hs11 => ?_)
    refine OPC (INDEX 36 (.tmp 26) (.tmp 27) 28 0 ?_ (NL rfl) a4 ((parts s 10).length) c5 .i64 (k : Int) 9 1 ?_ ?_ ?_ ?_ hs11 (by omega) (by omega) ?_)
    iterate 5 (as_aux_lemma => kernel_rfl)
    refine OPC (LOADE 9 (.tmp 28) 29 9 ?_ (NL rfl) a4 (k * 1) 0 [.string (bs y9)] (.string (bs y9)) ?_ (fun w hw => (hw.rdO 1 rfl).flat hx_y9) ?_ ?_)
    iterate 3 (as_aux_lemma => kernel_rfl)
    refine OPC (CALL 26 #[.string (bs y9)] (some 30) ?_ [] [] _ rfl (RV (.tuple #[.agg #[vi ((optReq (readS y9)).kind), vi ((optReq (readS y9)).id), vi ((optReq (readS y9)).cabin), vi ((optReq (readS y9)).from'), vi ((optReq (readS y9)).size), vi ((optReq (readS y9)).tier)], .bool ((readS y9).isSome)])) (fun w hw => sReadReq_c w y9 (by first | assumption | omega | (simp only [List.length_drop]; omega))) (NO rfl) ?_)
    · as_aux_lemma => kernel_rfl
    rintro ⟨⟩
    refine RUN 6 [] [(4, .v (.slice oa out.length oc)), (5, .v (.slice a4 ((parts s 10).length) c5)), (6, I (k : Int)), (7, .p 0 0), (8, B ((readS y9).isSome))] [(30, [vi ((optReq (readS y9)).kind), vi ((optReq (readS y9)).id), vi ((optReq (readS y9)).cabin), vi ((optReq (readS y9)).from'), vi ((optReq (readS y9)).size), vi ((optReq (readS y9)).tier)])] ?_ rfl ?_
    · as_aux_lemma => kernel_rfl
    refine ENDOPS (NEXT (SEQ (SEQ (REGION [0, 1] rfl (RUN0 2 [] [(4, .v (.slice oa out.length oc)), (5, .v (.slice a4 ((parts s 10).length) c5)), (6, I (k : Int)), (7, .p 0 0), (34, B (!((readS y9).isSome)))] ?_ rfl ?_)))))
    · as_aux_lemma => kernel_rfl
    refine ENDOPS (NEXT (IF (!((readS y9).isSome)) ?_ (fun bh12 => ?_) (fun bh12 => ?_)))
    · as_aux_lemma => kernel_rfl
    ·
     have h12 := bh12
     have h12 := notT h12
     refine SEQ (REGION [0, 1, 2, 3] rfl (OPC (BUILDS 24 0 #[] 35 24 ?_ (NL rfl) 30 [] ?_ reqL [] rfl (by simp only [maxLen]; omega) [] [] _ rfl (flatRep rfl) (fun a13 ha14 => ?_))))
     iterate 2 (as_aux_lemma => kernel_rfl)
     refine RUN0 3 [] [(2, .v (.slice a13 0 0)), (3, I (k : Int))] ?_ rfl ?_
     · as_aux_lemma => kernel_rfl
     refine ENDOPS (NEXT (RET (PASS trivial (OUTR (PASS trivial (PASS trivial (OUTR (PASS trivial ?_))))))))
     have efin : readScript s = ([], (k : Int)) := by first | exact readScript_nil (by assumption) | exact readScript_big (by assumption) (by omega) | (rw [readScript_of (by assumption) (by omega), hv0]; first | rfl | exact readGo_none (by assumption) | (rw [← read_eq] at *; exact readGo_none (by assumption)))
     refine FIN (.tuple #[.slice a13 0 0, vi (k : Int)]) ?_ (a13, 0) ?_ [2] ?_
     · as_aux_lemma => kernel_rfl
     · (rw [efin] <;> rfl)
     · (rw [efin] <;> rfl)
    ·
     have h12 := bh12
     have h12 := notF h12
     refine SKIP (NEXT (REGION [0, 1, 2, 3, 4] rfl (RUN0 2 [2, 3, 4] [(5, .v (.slice a4 ((parts s 10).length) c5)), (6, I (k : Int)), (37, .v (.slice oa out.length oc)), (38, .v (.agg #[vi ((optReq (readS y9)).kind), vi ((optReq (readS y9)).id), vi ((optReq (readS y9)).cabin), vi ((optReq (readS y9)).from'), vi ((optReq (readS y9)).size), vi ((optReq (readS y9)).tier)]))] ?_ rfl ?_)))
     · as_aux_lemma => kernel_rfl
     refine OPC (BUILDS 24 1 #[(0, .tmp 38)] 39 24 ?_ (NL rfl) 30 [vi ((optReq (readS y9)).kind), vi ((optReq (readS y9)).id), vi ((optReq (readS y9)).cabin), vi ((optReq (readS y9)).from'), vi ((optReq (readS y9)).size), vi ((optReq (readS y9)).tier)] ?_ reqL [(optReq (readS y9))] rfl (by simp only [maxLen]; omega) [] [] _ rfl (flatRep rfl) (fun a15 ha16 => ?_))
     iterate 2 (as_aux_lemma => kernel_rfl)
     refine OPC (APPENDO 24 (.tmp 37) (.tmp 39) 40 24 ?_ (NL rfl) (.slice oa out.length oc) a15 1 1 ?_ ?_ ha16 30 ?_ reqL (.agg #[vi 0, vi 0, vi 0, vi 0, vi 0, vi 0]) 48 ?_ rfl (by decide) 0 1 out ([(optReq (readS y9))]) _ rfl rfl (by first | omega | (simp only [List.length_append, List.length_cons, List.length_nil, List.length_take, List.length_drop] at *; omega)) (by simp only [maxLen]; first | omega | (simp only [List.length_append, List.length_cons, List.length_nil, List.length_take, List.length_drop] at *; omega)) (fun a17 c18 hn19 => ?_))
     iterate 5 (as_aux_lemma => kernel_rfl)
     refine RUN0 1 [] [(4, .v (.slice a17 ((out ++ ([(optReq (readS y9))])).length) c18)), (5, .v (.slice a4 ((parts s 10).length) c5)), (6, I (k : Int))] ?_ rfl ?_
     · as_aux_lemma => kernel_rfl
     refine ENDOPS (OUTN (NEXT (REGION [0, 1, 2] rfl (RUN0 2 [2] [(4, .v (.slice a17 ((out ++ ([(optReq (readS y9))])).length) c18)), (5, .v (.slice a4 ((parts s 10).length) c5)), (24, I (wr ((k : Int) + 1)))] ?_ rfl ?_))))
     · as_aux_lemma => kernel_rfl
     refine CAST (d := 24) (vi (wr ((k : Int) + 1))) (vi ((k + 1 : Nat) : Int)) ?_ (vi_cast (by omega) (by omega)) ?_
     · as_aux_lemma => kernel_rfl
     refine RUN0 1 [] [(4, .v (.slice a17 ((out ++ ([(optReq (readS y9))])).length) c18)), (5, .v (.slice a4 ((parts s 10).length) c5)), (6, I ((k + 1 : Nat) : Int))] ?_ rfl ?_
     · as_aux_lemma => kernel_rfl
     refine ENDOPS (BACK (k + 1, ys10, a17, c18, out ++ ([(optReq (readS y9))])) [4, 5, 6] 0 [1, 0] _ ⟨hl_y9, hd_y9, hv0.trans (by first | exact readGo_some (by assumption) | (have h9 : (readS y9).isSome = true := (by assumption); rw [← read_eq] at h9 ⊢; exact readGo_some h9)), (by simp only [List.length_append, List.length_cons, List.length_nil]; omega)⟩ (by simp) ?_ rfl rfl rfl)
     · as_aux_lemma => kernel_rfl
   ·
    have h8 := bh8
    have h8 := of_decide_eq_false h8
    obtain rfl := drop_nil hk (by omega)
    refine EXIT (PASS trivial (PASS trivial (OUT (NEXT (SEQ (REGION [0, 1, 2] rfl (RUN0 3 [] [(2, .v (.slice oa out.length oc)), (3, I (-1))] ?_ rfl ?_)))))))
    · as_aux_lemma => kernel_rfl
    refine ENDOPS (NEXT (RET ?_))
    have efin : readScript s = (out, -1) := by first | exact readScript_nil (by assumption) | exact readScript_big (by assumption) (by omega) | (rw [readScript_of (by assumption) (by omega), hv0]; first | rfl | exact readGo_none (by assumption) | (rw [← read_eq] at *; exact readGo_none (by assumption)))
    refine FIN (.tuple #[.slice oa out.length oc, vi (-1)]) ?_ (oa, oc) ?_ [0] ?_
    · as_aux_lemma => kernel_rfl
    · (rw [efin] <;> rfl)
    · (rw [efin] <;> rfl)

end SX
end Go.Proofs.YtpdijcbgdalphabGreatDoor
