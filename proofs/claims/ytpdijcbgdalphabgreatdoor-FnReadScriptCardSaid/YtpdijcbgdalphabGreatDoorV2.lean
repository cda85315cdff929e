/- Walks, printed by program. -/
import Derived.Test.YtpdijcbgdalphabGreatDoorV1
namespace Go.Proofs.YtpdijcbgdalphabGreatDoor
namespace SX
open Go Go.RowKit
set_option linter.unusedVariables false
set_option linter.unusedSimpArgs false
set_option maxRecDepth 10000
set_option maxHeartbeats 400000
theorem split_c (W : World) (s : List UInt8) (sep : List UInt8) (h1 : sep.length = 1) (hl : s.length ≤ 1048576) (hmx : MaxL Tryz.prog W) : Spec Tryz.prog W [] 27 #[.string (bs s), .string (bs sep)] (⟨HH, fun p => .slice p.1 ((parts s ((sep).headD 0)).length) p.2, fun p => [slA 9 strL (.slice p.1 (parts s ((sep).headD 0)).length p.2) (parts s ((sep).headD 0))]⟩) := Spec.split h1 hl hmx (fun s sep m hs hm h1 => Tryz.strings_Split s sep m W hs hm h1)

theorem iParts_c (W : World) (s : List UInt8) (c : UInt8) (hl : s.length ≤ 1048576) (hmx : MaxL Tryz.prog W) : Spec Tryz.prog W [] 15 #[.string (bs s), .int .u8 (c.toNat : Int)] (⟨HH, fun p => .slice p.1 ((parts s c).length) p.2, fun p => [slA 9 strL (.slice p.1 (parts s c).length p.2) (parts s c)]⟩) := by
 refine ENTER0 (N := 10) (vs := [.string (bs s), .int .u8 (c.toNat : Int)]) Tryz.func15 rfl rfl (NL rfl) ?_
 refine SEQ (REGION [0] rfl (RUN0 1 [] [(0, .v (.string (bs s))), (1, .v (.int .u8 (c.toNat : Int)))] ?_ rfl ?_))
 · as_aux_lemma => kernel_rfl
 refine ENDOPS (NEXT (SEQ (REGION [0, 1, 2, 3, 4, 5] rfl (RUN0 2 [2, 3, 4, 5] [(5, .v (.string (bs s))), (6, .v (.int .u8 (c.toNat : Int)))] ?_ rfl ?_))))
 · as_aux_lemma => kernel_rfl
 refine OPC (BUILDS 22 1 #[(0, .tmp 6)] 7 22 ?_ (NL rfl) 5 [.int .u8 (c.toNat : Int)] ?_ byteL ([c] : List UInt8) rfl (by simp only [maxLen]; omega) [] [] _ rfl (flatRep rfl) (fun a1 ha2 => ?_))
 iterate 2 (as_aux_lemma => kernel_rfl)
 refine FACT (1 = ([c] : List UInt8).length) (fun w hw => (SlO.lenE (hw.own 0 rfl)).1) (fun hln3 => ?_)
 refine OPC (RUNV (.convert 22 9 (.tmp 7)) 8 9 ?_ (NL rfl) (.string (bs ([c] : List UInt8))) (runs_bstr (a := a1) (n := 1) (c := 1) (xs := ([c] : List UInt8)) (e := 5) ?_ ?_ ?_ ?_ hln3.symm (fun w hw => (hw.rdO 0 rfl))) ?_)
 iterate 5 (as_aux_lemma => kernel_rfl)
 refine OPC (CALL 27 #[.string (bs s), .string (bs ([c] : List UInt8))] (some 9) ?_ [] [] _ rfl (⟨HH, fun p => .slice p.1 ((parts s ((([c] : List UInt8)).headD 0)).length) p.2, fun p => [slA 9 strL (.slice p.1 (parts s ((([c] : List UInt8)).headD 0)).length p.2) (parts s ((([c] : List UInt8)).headD 0))]⟩) (fun w hw => split_c w s ([c] : List UInt8) (by rfl) (by first | assumption | omega) (hmx.fr hw.fr)) (NO rfl) ?_)
 · as_aux_lemma => kernel_rfl
 rintro ⟨a4, c5⟩
 refine RUN0 1 [] [(4, .v (.slice a4 ((parts s ((([c] : List UInt8)).headD 0)).length) c5))] ?_ rfl ?_
 · as_aux_lemma => kernel_rfl
 refine ENDOPS (NEXT (RET (FIN (.slice a4 ((parts s ((([c] : List UInt8)).headD 0)).length) c5) ?_ (a4, c5) ?_ [1] ?_)))
 · as_aux_lemma => kernel_rfl
 · rfl
 · rfl

theorem iNumber_c (W : World) (s : List UInt8) (htab : Tab Tryz.prog W) : Spec Tryz.prog W [] 20 #[.string (bs s)] (RV (.tuple #[vi (((number s).getD 0 : Nat) : Int), .bool ((number s).isSome)])) := by
 refine ENTER0 (N := 43) (vs := [.string (bs s)]) Tryz.func20 rfl rfl (NL rfl) ?_
 refine SEQ (REGION [0, 1] rfl (RUN0 2 [] [(0, .v (.string (bs s)))] ?_ rfl ?_))
 · as_aux_lemma => kernel_rfl
 refine ENDOPS (NEXT (SEQ (SEQ (REGION [0, 1, 2, 3, 4, 5, 6, 7] rfl (RUN0 4 [4, 5, 6, 7] [(0, .v (.string (bs s))), (9, B (decide ((s.length : Int) < 1)))] ?_ rfl ?_)))))
 · as_aux_lemma => kernel_rfl
 refine SPLIT (d := 9) (decide ((s.length : Int) < 1)) ?_ (fun bh1 => ?_) (fun bh1 => ?_)
 · as_aux_lemma => kernel_rfl
 ·
  have h1 := bh1
  have h1 := of_decide_eq_true h1
  refine RUN0 4 [] [(0, .v (.string (bs s))), (13, B true)] ?_ rfl ?_
  · as_aux_lemma => kernel_rfl
  refine ENDOPS (NEXT (IFT ?_ ?_))
  · as_aux_lemma => kernel_rfl
  refine SEQ (REGION [0, 1] rfl (RUN0 2 [] [(2, I 0), (3, B false)] ?_ rfl ?_))
  · as_aux_lemma => kernel_rfl
  refine ENDOPS (NEXT (RET (PASS trivial (FIN (.tuple #[vi 0, .bool false]) ?_ () ?_ [] ?_))))
  · as_aux_lemma => kernel_rfl
  · (first | (rw [number_bad (by omega)]; rfl) | (rw [number_bad (s := s) (.inr (.inr (hv0.trans (by simp only [digitsGo]; exact if_pos (by omega)))))]; rfl) | (simp only [RV]; rw [number_of (s := s) (n := n) (by omega) (by rw [hv0]; rfl)]; simp [*]))
  · rfl
 ·
  have h1 := bh1
  have h1 := of_decide_eq_false h1
  refine RUN0 4 [] [(0, .v (.string (bs s))), (13, B (decide ((s.length : Int) > 6)))] ?_ rfl ?_
  · as_aux_lemma => kernel_rfl
  refine ENDOPS (NEXT (IF (decide ((s.length : Int) > 6)) ?_ (fun bh2 => ?_) (fun bh2 => ?_)))
  · as_aux_lemma => kernel_rfl
  ·
   have h2 := bh2
   have h2 := of_decide_eq_true h2
   refine SEQ (REGION [0, 1] rfl (RUN0 2 [] [(2, I 0), (3, B false)] ?_ rfl ?_))
   · as_aux_lemma => kernel_rfl
   refine ENDOPS (NEXT (RET (PASS trivial (FIN (.tuple #[vi 0, .bool false]) ?_ () ?_ [] ?_))))
   · as_aux_lemma => kernel_rfl
   · (first | (rw [number_bad (by omega)]; rfl) | (rw [number_bad (s := s) (.inr (.inr (hv0.trans (by simp only [digitsGo]; exact if_pos (by omega)))))]; rfl) | (simp only [RV]; rw [number_of (s := s) (n := n) (by omega) (by rw [hv0]; rfl)]; simp [*]))
   · rfl
  ·
   have h2 := bh2
   have h2 := of_decide_eq_false h2
   refine SKIP (NEXT (SEQ (REGION [0] rfl (RUN0 1 [] [(0, .v (.string (bs s))), (4, I 0)] ?_ rfl ?_))))
   · as_aux_lemma => kernel_rfl
   refine ENDOPS (NEXT (SEQ (SEQ (REGION [0] rfl (RUN0 1 [] [(0, .v (.string (bs s))), (4, I 0), (5, I 0)] ?_ rfl ?_)))))
   · as_aux_lemma => kernel_rfl
   refine ENDOPS (NEXT (BLOCK (LOOP (ι := Nat × (List UInt8) × Nat) (fun j => [(0, .v (.string (bs s))), (4, I (j.2.2 : Int)), (5, I (j.1 : Int))]) (fun j => []) (fun j => []) (fun j => j.1 + j.2.1.length = s.length ∧ s.drop j.1 = j.2.1 ∧ digitsGo 0 s = digitsGo j.2.2 j.2.1 ∧ j.2.2 < p10 j.1) (fun j => j.2.1.length) (0, s, 0) [0, 4, 5] ⟨by simp, rfl, rfl, show 0 < p10 0 by decide⟩ ?_ rfl rfl ?_)))
   · as_aux_lemma => kernel_rfl
   rintro ⟨k, ys, n⟩ ⟨hk, hd, hv0, hv1⟩
   try dsimp only at hk hd hv0 hv1
   refine SEQ (SEQ (REGION [0, 1, 2, 3] rfl (RUN0 4 [] [(0, .v (.string (bs s))), (4, I (n : Int)), (5, I (k : Int)), (17, B (decide ((k : Int) < (s.length : Int))))] ?_ rfl ?_)))
   · as_aux_lemma => kernel_rfl
   refine ENDOPS (NEXT (IF (decide ((k : Int) < (s.length : Int))) ?_ (fun bh3 => ?_) (fun bh3 => ?_)))
   · as_aux_lemma => kernel_rfl
   ·
    have h3 := bh3
    have h3 := of_decide_eq_true h3
    obtain ⟨y4, ys5, rfl, hx_y4, hd_y4, hl_y4⟩ := drop_cons hd hk (by omega)
    have hp_y4 := p10_le (k := k) (by omega)
    have := UInt8.toNat_lt y4
    refine SKIP (NEXT (SEQ (BLOCK (SEQ (SEQ (REGION [0, 1, 2, 3, 4, 5, 6, 7, 8, 9] rfl (RUN0 2 [2, 3, 4, 5, 6, 7, 8, 9] [(0, .v (.string (bs s))), (4, I (n : Int)), (5, I (k : Int)), (20, .v (.string (bs s))), (21, I (k : Int))] ?_ rfl ?_)))))))
    · as_aux_lemma => kernel_rfl
    refine OPC (RUNV (.index 9 (.tmp 20) (.tmp 21)) 22 5 ?_ (NL rfl) (.int .u8 (y4.toNat : Int)) (runs_sidx (s := s) (kd := .i64) (z := (k : Int)) (k := k) ?_ ?_ ?_ (by omega) rfl hx_y4) ?_)
    iterate 4 (as_aux_lemma => kernel_rfl)
    refine RUN0 2 [5, 6, 7, 8, 9] [(0, .v (.string (bs s))), (4, I (n : Int)), (5, I (k : Int)), (24, B (decide ((y4.toNat : Int) < 48)))] ?_ rfl ?_
    · as_aux_lemma => kernel_rfl
    refine SPLIT (d := 24) (decide ((y4.toNat : Int) < 48)) ?_ (fun bh6 => ?_) (fun bh6 => ?_)
    · as_aux_lemma => kernel_rfl
    ·
     have h6 := bh6
     have h6 := of_decide_eq_true h6
     refine RUN0 5 [] [(0, .v (.string (bs s))), (4, I (n : Int)), (5, I (k : Int)), (29, B true)] ?_ rfl ?_
     · as_aux_lemma => kernel_rfl
     refine ENDOPS (NEXT (IFT ?_ ?_))
     · as_aux_lemma => kernel_rfl
     refine SEQ (REGION [0, 1] rfl (RUN0 2 [] [(2, I 0), (3, B false)] ?_ rfl ?_))
     · as_aux_lemma => kernel_rfl
     refine ENDOPS (NEXT (RET (PASS trivial (OUTR (PASS trivial (PASS trivial (OUTR (PASS trivial (FIN (.tuple #[vi 0, .bool false]) ?_ () ?_ [] ?_)))))))))
     · as_aux_lemma => kernel_rfl
     · (first | (rw [number_bad (by omega)]; rfl) | (rw [number_bad (s := s) (.inr (.inr (hv0.trans (by simp only [digitsGo]; exact if_pos (by omega)))))]; rfl) | (simp only [RV]; rw [number_of (s := s) (n := n) (by omega) (by rw [hv0]; rfl)]; simp [*]))
     · rfl
    ·
     have h6 := bh6
     have h6 := of_decide_eq_false h6
     refine RUN0 2 [7, 8, 9] [(0, .v (.string (bs s))), (4, I (n : Int)), (5, I (k : Int)), (24, B false), (25, .v (.string (bs s))), (26, I (k : Int))] ?_ rfl ?_
     · as_aux_lemma => kernel_rfl
     refine OPC (RUNV (.index 9 (.tmp 25) (.tmp 26)) 27 5 ?_ (NL rfl) (.int .u8 (y4.toNat : Int)) (runs_sidx (s := s) (kd := .i64) (z := (k : Int)) (k := k) ?_ ?_ ?_ (by omega) rfl hx_y4) ?_)
     iterate 4 (as_aux_lemma => kernel_rfl)
     refine RUN0 2 [] [(0, .v (.string (bs s))), (4, I (n : Int)), (5, I (k : Int)), (29, B (decide ((y4.toNat : Int) > 57)))] ?_ rfl ?_
     · as_aux_lemma => kernel_rfl
     refine ENDOPS (NEXT (IF (decide ((y4.toNat : Int) > 57)) ?_ (fun bh7 => ?_) (fun bh7 => ?_)))
     · as_aux_lemma => kernel_rfl
     ·
      have h7 := bh7
      have h7 := of_decide_eq_true h7
      refine SEQ (REGION [0, 1] rfl (RUN0 2 [] [(2, I 0), (3, B false)] ?_ rfl ?_))
      · as_aux_lemma => kernel_rfl
      refine ENDOPS (NEXT (RET (PASS trivial (OUTR (PASS trivial (PASS trivial (OUTR (PASS trivial (FIN (.tuple #[vi 0, .bool false]) ?_ () ?_ [] ?_)))))))))
      · as_aux_lemma => kernel_rfl
      · (first | (rw [number_bad (by omega)]; rfl) | (rw [number_bad (s := s) (.inr (.inr (hv0.trans (by simp only [digitsGo]; exact if_pos (by omega)))))]; rfl) | (simp only [RV]; rw [number_of (s := s) (n := n) (by omega) (by rw [hv0]; rfl)]; simp [*]))
      · rfl
     ·
      have h7 := bh7
      have h7 := of_decide_eq_false h7
      refine SKIP (NEXT (REGION [0, 1, 2, 3, 4, 5, 6, 7, 8] rfl (RUN0 2 [2, 3, 4, 5, 6, 7, 8] [(0, .v (.string (bs s))), (5, I (k : Int)), (31, I (wr (10 * (n : Int))))] ?_ rfl ?_)))
      · as_aux_lemma => kernel_rfl
      refine CAST (d := 31) (vi (wr (10 * (n : Int)))) (vi ((10 * n : Nat) : Int)) ?_ (vi_cast (by omega) (by omega)) ?_
      · as_aux_lemma => kernel_rfl
      refine RUN0 2 [4, 5, 6, 7, 8] [(0, .v (.string (bs s))), (5, I (k : Int)), (31, I ((10 * n : Nat) : Int)), (32, .v (.string (bs s))), (33, I (k : Int))] ?_ rfl ?_
      · as_aux_lemma => kernel_rfl
      refine OPC (RUNV (.index 9 (.tmp 32) (.tmp 33)) 34 5 ?_ (NL rfl) (.int .u8 (y4.toNat : Int)) (runs_sidx (s := s) (kd := .i64) (z := (k : Int)) (k := k) ?_ ?_ ?_ (by omega) rfl hx_y4) ?_)
      iterate 4 (as_aux_lemma => kernel_rfl)
      refine RUN0 1 [6, 7, 8] [(0, .v (.string (bs s))), (5, I (k : Int)), (31, I ((10 * n : Nat) : Int)), (35, .v (.int .u8 (IntKind.wrap .u8 ((y4.toNat : Int) - 48))))] ?_ rfl ?_
      · as_aux_lemma => kernel_rfl
      refine CAST (d := 35) (.int .u8 (IntKind.wrap .u8 ((y4.toNat : Int) - 48))) (.int .u8 ((y4.toNat - 48 : Nat) : Int)) ?_ (v8sub48 (by omega)) ?_
      · as_aux_lemma => kernel_rfl
      refine RUN0 1 [7, 8] [(0, .v (.string (bs s))), (5, I (k : Int)), (31, I ((10 * n : Nat) : Int)), (36, I (IntKind.wrap .i64 ((y4.toNat - 48 : Nat) : Int)))] ?_ rfl ?_
      · as_aux_lemma => kernel_rfl
      refine CAST (d := 36) (vi (IntKind.wrap .i64 ((y4.toNat - 48 : Nat) : Int))) (vi ((y4.toNat - 48 : Nat) : Int)) ?_ (vi_cast (by omega) (by omega)) ?_
      · as_aux_lemma => kernel_rfl
      refine RUN0 1 [8] [(0, .v (.string (bs s))), (5, I (k : Int)), (37, I (wr (((10 * n : Nat) : Int) + ((y4.toNat - 48 : Nat) : Int))))] ?_ rfl ?_
      · as_aux_lemma => kernel_rfl
      refine CAST (d := 37) (vi (wr (((10 * n : Nat) : Int) + ((y4.toNat - 48 : Nat) : Int)))) (vi (((10 * n) + (y4.toNat - 48) : Nat) : Int)) ?_ (vi_cast (by omega) (by omega)) ?_
      · as_aux_lemma => kernel_rfl
      refine RUN0 1 [] [(0, .v (.string (bs s))), (4, I (((10 * n) + (y4.toNat - 48) : Nat) : Int)), (5, I (k : Int))] ?_ rfl ?_
      · as_aux_lemma => kernel_rfl
      refine ENDOPS (OUTN (NEXT (REGION [0, 1, 2] rfl (RUN0 2 [2] [(0, .v (.string (bs s))), (4, I (((10 * n) + (y4.toNat - 48) : Nat) : Int)), (19, I (wr ((k : Int) + 1)))] ?_ rfl ?_))))
      · as_aux_lemma => kernel_rfl
      refine CAST (d := 19) (vi (wr ((k : Int) + 1))) (vi ((k + 1 : Nat) : Int)) ?_ (vi_cast (by omega) (by omega)) ?_
      · as_aux_lemma => kernel_rfl
      refine RUN0 1 [] [(0, .v (.string (bs s))), (4, I (((10 * n) + (y4.toNat - 48) : Nat) : Int)), (5, I ((k + 1 : Nat) : Int))] ?_ rfl ?_
      · as_aux_lemma => kernel_rfl
      refine ENDOPS (BACK (k + 1, ys5, (10 * n) + (y4.toNat - 48)) [0, 4, 5] 0 [] _ ⟨hl_y4, hd_y4, hv0.trans (by simp only [digitsGo]; refine (if_neg (by omega)).trans ?_; first | rfl | (congr 1; omega)), (by dsimp only; omega)⟩ (by simp) ?_ rfl rfl rfl)
      · as_aux_lemma => kernel_rfl
   ·
    have h3 := bh3
    have h3 := of_decide_eq_false h3
    obtain rfl := drop_nil hk (by omega)
    have hp9 := p10_max (k := k) (by omega)
    refine EXIT (PASS trivial (PASS trivial (OUT (NEXT (SEQ (SEQ (REGION [0, 1, 2, 3] rfl (RUN0 1 [1, 2, 3] [(0, .v (.string (bs s))), (4, I (n : Int)), (38, I (n : Int))] ?_ rfl ?_))))))))
    · as_aux_lemma => kernel_rfl
    refine OPC (CALL 22 #[vi (n : Int)] (some 39) ?_ [] [] _ rfl (RV (.string (bs (Lib.itoa (n : Int))))) (fun w hw => iDigits_c w (n : Int) (by first | assumption | exact wr_range _ | (unfold i64R at *; omega) | (simp only [i64R] at *; omega)) (htab.fr hw.fr)) (NO rfl) ?_)
    · as_aux_lemma => kernel_rfl
    rintro ⟨⟩
    have hr8 := itoa_len (n := (n : Int)) (by first | assumption | exact wr_range _ | (unfold i64R at *; omega) | (simp only [i64R] at *; omega))
    refine RUN0 1 [3] [(4, I (n : Int)), (39, .v (.string (bs (Lib.itoa (n : Int))))), (40, .v (.string (bs s)))] ?_ rfl ?_
    · as_aux_lemma => kernel_rfl
    refine OPC (RUNV (.binOp .neq 9 (.tmp 39) (.tmp 40) 9) 41 4 ?_ (NL rfl) (.bool (!((Lib.itoa (n : Int)) == s))) (runs_sneq (a := Lib.itoa (n : Int)) (b := s) ?_ ?_) ?_)
    iterate 3 (as_aux_lemma => kernel_rfl)
    refine ENDOPS (NEXT (IF (!((Lib.itoa (n : Int)) == s)) ?_ (fun bh9 => ?_) (fun bh9 => ?_)))
    · as_aux_lemma => kernel_rfl
    ·
     have h9 := bh9
     have h9 := notT h9
     have h9 := ne_of_beq_false h9
     refine SEQ (REGION [0, 1] rfl (RUN0 2 [] [(2, I 0), (3, B false)] ?_ rfl ?_))
     · as_aux_lemma => kernel_rfl
     refine ENDOPS (NEXT (RET (PASS trivial (FIN (.tuple #[vi 0, .bool false]) ?_ () ?_ [] ?_))))
     · as_aux_lemma => kernel_rfl
     · (first | (rw [number_bad (by omega)]; rfl) | (rw [number_bad (s := s) (.inr (.inr (hv0.trans (by simp only [digitsGo]; exact if_pos (by omega)))))]; rfl) | (simp only [RV]; rw [number_of (s := s) (n := n) (by omega) (by rw [hv0]; rfl)]; simp [*]))
     · rfl
    ·
     have h9 := bh9
     have h9 := notF h9
     have h9 := eq_of_beq h9
     refine SKIP (NEXT (SEQ (REGION [0, 1, 2] rfl (RUN0 3 [] [(2, I (n : Int)), (3, B true)] ?_ rfl ?_))))
     · as_aux_lemma => kernel_rfl
     refine ENDOPS (NEXT (RET (FIN (.tuple #[vi (n : Int), .bool true]) ?_ () ?_ [] ?_)))
     · as_aux_lemma => kernel_rfl
     · (first | (rw [number_bad (by omega)]; rfl) | (rw [number_bad (s := s) (.inr (.inr (hv0.trans (by simp only [digitsGo]; exact if_pos (by omega)))))]; rfl) | (simp only [RV]; rw [number_of (s := s) (n := n) (by omega) (by rw [hv0]; rfl)]; simp [*]))
     · rfl

theorem iReadReq_c (W : World) (line : List UInt8) (hl : line.length ≤ 1048576) (htab : Tab Tryz.prog W) (hmx : MaxL Tryz.prog W) : Spec Tryz.prog W [] 10 #[.string (bs line)] (RV (.tuple #[.agg #[vi ((optReq (readI line)).kind), vi ((optReq (readI line)).id), vi ((optReq (readI line)).cabin), vi ((optReq (readI line)).from'), vi ((optReq (readI line)).size), vi ((optReq (readI line)).tier)], .bool ((readI line).isSome)])) := by
 refine ENTER0 (N := 109) (vs := [.string (bs line)]) Tryz.func10 rfl rfl (NL rfl) ?_
 refine SEQ (REGION [0, 1] rfl (RUN 2 [] [(0, .v (.string (bs line))), (2, .p 0 0)] [(30, [vi 0, vi 0, vi 0, vi 0, vi 0, vi 0])] ?_ rfl ?_))
 · as_aux_lemma => kernel_rfl
 refine ENDOPS (NEXT (SEQ (REGION [0, 1, 2] rfl (RUN0 1 [1, 2] [(0, .v (.string (bs line))), (2, .p 0 0), (11, .v (.string (bs line)))] ?_ rfl ?_))))
 · as_aux_lemma => kernel_rfl
 refine OPC (CALL 15 #[.string (bs line), .int .u8 32] (some 12) ?_ [] [] _ rfl (⟨HH, fun p => .slice p.1 ((parts line 32).length) p.2, fun p => [slA 9 strL (.slice p.1 (parts line 32).length p.2) (parts line 32)]⟩) (fun w hw => iParts_c w line 32 (by first | assumption | omega) (hmx.fr hw.fr)) (NO rfl) ?_)
 · as_aux_lemma => kernel_rfl
 rintro ⟨a1, c2⟩
 have hr3 := parts_len line 32
 refine RUN0 1 [] [(0, .v (.string (bs line))), (2, .p 0 0), (4, .v (.slice a1 ((parts line 32).length) c2))] ?_ rfl ?_
 · as_aux_lemma => kernel_rfl
 refine ENDOPS (NEXT (SEQ (SEQ (REGION [0, 1, 2] rfl (RUN0 3 [] [(0, .v (.string (bs line))), (2, .p 0 0), (4, .v (.slice a1 ((parts line 32).length) c2)), (15, B (decide ((((parts line 32).length : Nat) : Int) > 6)))] ?_ rfl ?_)))))
 · as_aux_lemma => kernel_rfl
 refine ENDOPS (NEXT (IF (decide ((((parts line 32).length : Nat) : Int) > 6)) ?_ (fun bh4 => ?_) (fun bh4 => ?_)))
 · as_aux_lemma => kernel_rfl
 ·
  have h4 := bh4
  have h4 := of_decide_eq_true h4
  refine SEQ (REGION [0, 1, 2] rfl (RUN0 3 [] [(2, .p 0 0), (3, B false)] ?_ rfl ?_))
  · as_aux_lemma => kernel_rfl
  refine ENDOPS (NEXT (RET (PASS trivial (FIN (.tuple #[.agg #[vi 0, vi 0, vi 0, vi 0, vi 0, vi 0], .bool false]) ?_ () ?_ [] ?_))))
  · as_aux_lemma => kernel_rfl
  · (first | (rw [readI_many (by omega)]; rfl) | (rw [readI_bad (hv1.trans (by rw [readArgs_bad (by assumption) (by assumption)]; rfl))]; rfl))
  · rfl
 ·
  have h4 := bh4
  have h4 := of_decide_eq_false h4
  refine SKIP (NEXT (SEQ (REGION [0, 1] rfl (OPC (MAKE 42 (.const (vi 5)) (.const (vi 5)) 17 42 ?_ (NL rfl) 5 ?_ ?_ 3 ?_ (fun z => [.int .i64 z]) (fun z => ⟨rfl, by simp [isCell]⟩) 0 (vi 0) 8 rfl ?_ (by decide) (by omega) (by simp only [maxLen]; omega) (fun a5 ha6 => ?_))))))
  iterate 5 (as_aux_lemma => kernel_rfl)
  refine RUN0 1 [] [(0, .v (.string (bs line))), (2, .p 0 0), (4, .v (.slice a1 ((parts line 32).length) c2)), (5, .v (.slice a5 5 5))] ?_ rfl ?_
  · as_aux_lemma => kernel_rfl
  refine ENDOPS (NEXT (SEQ (SEQ (REGION [0, 1, 2, 3] rfl (RUN0 1 [1, 2, 3] [(0, .v (.string (bs line))), (2, .p 0 0), (4, .v (.slice a1 ((parts line 32).length) c2)), (5, .v (.slice a5 5 5)), (18, .v (.slice a1 ((parts line 32).length) c2))] ?_ rfl ?_)))))
  · as_aux_lemma => kernel_rfl
  refine FACT (((parts line 32).length) ≤ c2) (fun w hw => SlO.capE (hw.own 0 rfl)) (fun hcap7 => ?_)
  refine FACT (((parts line 32).length) = (parts line 32).length) (fun w hw => (SlO.lenE (hw.own 0 rfl)).1) (fun hln8 => ?_)
  refine OPC (CUTL 36 (.tmp 18) (.const (vi 1)) 19 36 ?_ (NL rfl) a1 ((parts line 32).length) c2 .i64 1 ?_ ?_ 9 strL (parts line 32) ?_ ?_ (by omega) (by first | omega | (simp only [List.length_append, List.length_cons, List.length_nil, List.length_take, List.length_drop] at *; omega)) hln8 hcap7 (fun a9 hsh10 => ?_))
  iterate 5 (as_aux_lemma => kernel_rfl)
  have hsh10 : ∀ w, Rd strL w a1 (parts line 32) → Rd strL w a9 ((parts line 32).drop 1) := hsh10
  have hln11 : ((parts line 32).drop 1).length = ((parts line 32).length) - 1 := by first | (simp; done) | (simp; omega)
  refine CAST (d := 19) (.slice a9 (((parts line 32).length) - 1) (c2 - 1)) (.slice a9 (((parts line 32).drop 1).length) (c2 - 1)) ?_ (by rw [hln11]) ?_
  · as_aux_lemma => kernel_rfl
  refine RUN0 2 [] [(0, .v (.string (bs line))), (2, .p 0 0), (4, .v (.slice a1 ((parts line 32).length) c2)), (5, .v (.slice a5 5 5)), (19, .v (.slice a9 (((parts line 32).drop 1).length) (c2 - 1))), (20, I ((((parts line 32).drop 1).length : Nat) : Int)), (21, I 0)] ?_ rfl ?_
  · as_aux_lemma => kernel_rfl
  refine ENDOPS (NEXT (BLOCK (LOOP (ι := Nat × (List (List UInt8)) × (List Int) × (List Int)) (fun j => [(0, .v (.string (bs line))), (2, .p 0 0), (4, .v (.slice a1 ((parts line 32).length) c2)), (5, .v (.slice a5 5 5)), (19, .v (.slice a9 (((parts line 32).drop 1).length) (c2 - 1))), (20, I ((((parts line 32).drop 1).length : Nat) : Int)), (21, I (j.1 : Int))]) (fun j => [(30, [vi 0, vi 0, vi 0, vi 0, vi 0, vi 0])]) (fun j => [slA 9 strL (.slice a1 (parts line 32).length c2) (parts line 32), slA 3 intL (.slice a5 5 5) j.2.2.2]) (fun j => j.1 + j.2.1.length = ((parts line 32).drop 1).length ∧ ((parts line 32).drop 1).drop j.1 = j.2.1 ∧ j.2.2.2 = j.2.2.1 ++ List.replicate (5 - j.1) 0 ∧ readArgs ((parts line 32).drop 1) = (readArgs j.2.1).map (j.2.2.1 ++ ·) ∧ j.2.2.1.length = j.1) (fun j => j.2.1.length) (0, ((parts line 32).drop 1), [], List.replicate 5 0) [0, 2, 4, 5, 19, 20, 21] ⟨by simp, rfl, rfl, by simp, rfl⟩ ?_ rfl rfl ?_)))
  · as_aux_lemma => kernel_rfl
  rintro ⟨k, ys, done, ar⟩ ⟨hk, hd, hv0, hv1, hv2⟩
  try dsimp only at hk hd hv0 hv1 hv2
  refine SEQ (REGION [0] rfl (RUN0 1 [] [(0, .v (.string (bs line))), (2, .p 0 0), (4, .v (.slice a1 ((parts line 32).length) c2)), (5, .v (.slice a5 5 5)), (19, .v (.slice a9 (((parts line 32).drop 1).length) (c2 - 1))), (20, I ((((parts line 32).drop 1).length : Nat) : Int)), (21, I (k : Int)), (22, B (decide ((k : Int) < ((((parts line 32).drop 1).length : Nat) : Int))))] ?_ rfl ?_))
  · as_aux_lemma => kernel_rfl
  refine ENDOPS (NEXT (SEQ (IF (decide ((k : Int) < ((((parts line 32).drop 1).length : Nat) : Int))) ?_ (fun bh12 => ?_) (fun bh12 => ?_))))
  · as_aux_lemma => kernel_rfl
  ·
   have h12 := bh12
   have h12 := of_decide_eq_true h12
   obtain ⟨y13, ys14, rfl, hx_y13, hd_y13, hl_y13⟩ := drop_cons hd hk (by omega)
   refine SKIP (NEXT (SEQ (BLOCK (SEQ (REGION [0, 1, 2, 3, 4] rfl (RUN0 1 [1, 2, 3, 4] [(0, .v (.string (bs line))), (2, .p 0 0), (4, .v (.slice a1 ((parts line 32).length) c2)), (5, .v (.slice a5 5 5)), (19, .v (.slice a9 (((parts line 32).drop 1).length) (c2 - 1))), (20, I ((((parts line 32).drop 1).length : Nat) : Int)), (21, I (k : Int)), (23, I (k : Int))] ?_ rfl ?_))))))
   · as_aux_lemma => kernel_rfl
   refine FACT (a9.isSome = true) (fun w hw => Rd.some (hsh10 _ (hw.rdO 0 rfl)) (by omega)) (fun hs15 => ?_)
   refine OPC (INDEX 36 (.tmp 19) (.tmp 21) 24 0 ?_ (NL rfl) a9 (((parts line 32).drop 1).length) (c2 - 1) .i64 (k : Int) 9 1 ?_ ?_ ?_ ?_ hs15 (by omega) (by omega) ?_)
   iterate 5 (as_aux_lemma => kernel_rfl)
   refine OPC (LOADE 9 (.tmp 24) 25 9 ?_ (NL rfl) a9 (k * 1) 0 [.string (bs y13)] (.string (bs y13)) ?_ (fun w hw => (hsh10 _ (hw.rdO 0 rfl)).flat hx_y13) ?_ ?_)
   iterate 3 (as_aux_lemma => kernel_rfl)
   refine RUN0 2 [] [(0, .v (.string (bs line))), (2, .p 0 0), (4, .v (.slice a1 ((parts line 32).length) c2)), (5, .v (.slice a5 5 5)), (6, I (k : Int)), (7, .v (.string (bs y13))), (19, .v (.slice a9 (((parts line 32).drop 1).length) (c2 - 1))), (20, I ((((parts line 32).drop 1).length : Nat) : Int)), (21, I (k : Int))] ?_ rfl ?_
   · as_aux_lemma => kernel_rfl
   refine ENDOPS (NEXT (SEQ (REGION [0, 1, 2, 3, 4, 5, 6] rfl (RUN0 1 [1, 2, 3, 4, 5, 6] [(0, .v (.string (bs line))), (2, .p 0 0), (4, .v (.slice a1 ((parts line 32).length) c2)), (5, .v (.slice a5 5 5)), (6, I (k : Int)), (7, .v (.string (bs y13))), (19, .v (.slice a9 (((parts line 32).drop 1).length) (c2 - 1))), (20, I ((((parts line 32).drop 1).length : Nat) : Int)), (21, I (k : Int)), (27, .v (.string (bs y13)))] ?_ rfl ?_))))
   · as_aux_lemma => kernel_rfl
   refine OPC (CALL 20 #[.string (bs y13)] (some 28) ?_ [] [] _ rfl (RV (.tuple #[vi (((number y13).getD 0 : Nat) : Int), .bool ((number y13).isSome)])) (fun w hw => iNumber_c w y13 (htab.fr hw.fr)) (NO rfl) ?_)
   · as_aux_lemma => kernel_rfl
   rintro ⟨⟩
   refine RUN0 5 [] [(0, .v (.string (bs line))), (2, .p 0 0), (4, .v (.slice a1 ((parts line 32).length) c2)), (5, .v (.slice a5 5 5)), (6, I (k : Int)), (7, .v (.string (bs y13))), (8, I (((number y13).getD 0 : Nat) : Int)), (9, B ((number y13).isSome)), (19, .v (.slice a9 (((parts line 32).drop 1).length) (c2 - 1))), (20, I ((((parts line 32).drop 1).length : Nat) : Int)), (21, I (k : Int))] ?_ rfl ?_
   · as_aux_lemma => kernel_rfl
   refine ENDOPS (NEXT (SEQ (SEQ (REGION [0, 1] rfl (RUN0 1 [1] [(0, .v (.string (bs line))), (2, .p 0 0), (4, .v (.slice a1 ((parts line 32).length) c2)), (5, .v (.slice a5 5 5)), (6, I (k : Int)), (8, I (((number y13).getD 0 : Nat) : Int)), (9, B ((number y13).isSome)), (19, .v (.slice a9 (((parts line 32).drop 1).length) (c2 - 1))), (20, I ((((parts line 32).drop 1).length : Nat) : Int)), (21, I (k : Int)), (31, .v (.string (bs y13)))] ?_ rfl ?_)))))
   · as_aux_lemma => kernel_rfl
   refine OPC (RUNV (.binOp .eql 9 (.tmp 31) (.const (.string (bs ([45])))) 9) 32 4 ?_ (NL rfl) (.bool (y13 == ([45]))) (runs_seql (a := y13) (b := [45]) ?_ ?_) ?_)
   iterate 3 (as_aux_lemma => kernel_rfl)
   refine ENDOPS (NEXT (IF (y13 == ([45])) ?_ (fun bh16 => ?_) (fun bh16 => ?_)))
   · as_aux_lemma => kernel_rfl
   ·
    have h16 := bh16
    have h16 := eq_of_beq h16
    refine REGION [0, 1] rfl (RUN0 2 [] [(0, .v (.string (bs line))), (2, .p 0 0), (4, .v (.slice a1 ((parts line 32).length) c2)), (5, .v (.slice a5 5 5)), (6, I (k : Int)), (8, I (-1)), (9, B true), (19, .v (.slice a9 (((parts line 32).drop 1).length) (c2 - 1))), (20, I ((((parts line 32).drop 1).length : Nat) : Int)), (21, I (k : Int))] ?_ rfl ?_)
    · as_aux_lemma => kernel_rfl
    refine ENDOPS (NEXT (SEQ (SEQ (REGION [0, 1] rfl (RUN0 2 [] [(0, .v (.string (bs line))), (2, .p 0 0), (4, .v (.slice a1 ((parts line 32).length) c2)), (5, .v (.slice a5 5 5)), (6, I (k : Int)), (8, I (-1)), (19, .v (.slice a9 (((parts line 32).drop 1).length) (c2 - 1))), (20, I ((((parts line 32).drop 1).length : Nat) : Int)), (21, I (k : Int)), (34, B false)] ?_ rfl ?_)))))
    · as_aux_lemma => kernel_rfl
    refine ENDOPS (NEXT (IFF ?_ ?_))
    · as_aux_lemma => kernel_rfl
    refine SKIP (NEXT (REGION [0, 1, 2, 3, 4] rfl (RUN0 3 [3, 4] [(0, .v (.string (bs line))), (2, .p 0 0), (4, .v (.slice a1 ((parts line 32).length) c2)), (5, .v (.slice a5 5 5)), (19, .v (.slice a9 (((parts line 32).drop 1).length) (c2 - 1))), (20, I ((((parts line 32).drop 1).length : Nat) : Int)), (21, I (k : Int)), (36, .v (.slice a5 5 5)), (37, I (k : Int)), (38, I (-1))] ?_ rfl ?_)))
    · as_aux_lemma => kernel_rfl
    refine FACT (5 = ar.length) (fun w hw => (SlO.lenE (hw.own 1 rfl)).1) (fun hln17 => ?_)
    obtain ⟨x18, hx19⟩ : ∃ y, ar[k]? = some y := ⟨_, List.getElem?_eq_getElem (by omega)⟩
    refine OPC (INDEX 42 (.tmp 36) (.tmp 37) 39 0 ?_ (NL rfl) a5 5 5 .i64 (k : Int) 3 1 ?_ ?_ ?_ ?_ ha6 (by omega) (by omega) ?_)
    iterate 5 (as_aux_lemma => kernel_rfl)
    refine OPC (STOREF 3 (.tmp 39) (.tmp 38) 0 ?_ 1 _ 3 a5 5 5 k 0 ar rfl x18 (-1) hx19 (vi (-1)) ?_ ?_ ?_ ?_)
    iterate 4 (as_aux_lemma => kernel_rfl)
    refine ENDOPS (OUTN (NEXT (REGION [0, 1] rfl (RUN0 1 [1] [(0, .v (.string (bs line))), (2, .p 0 0), (4, .v (.slice a1 ((parts line 32).length) c2)), (5, .v (.slice a5 5 5)), (19, .v (.slice a9 (((parts line 32).drop 1).length) (c2 - 1))), (20, I ((((parts line 32).drop 1).length : Nat) : Int)), (40, I (wr ((k : Int) + 1)))] ?_ rfl ?_))))
    · as_aux_lemma => kernel_rfl
    refine CAST (d := 40) (vi (wr ((k : Int) + 1))) (vi ((k + 1 : Nat) : Int)) ?_ (vi_cast (by omega) (by omega)) ?_
    · as_aux_lemma => kernel_rfl
    refine RUN0 1 [] [(0, .v (.string (bs line))), (2, .p 0 0), (4, .v (.slice a1 ((parts line 32).length) c2)), (5, .v (.slice a5 5 5)), (19, .v (.slice a9 (((parts line 32).drop 1).length) (c2 - 1))), (20, I ((((parts line 32).drop 1).length : Nat) : Int)), (21, I ((k + 1 : Nat) : Int))] ?_ rfl ?_
    · as_aux_lemma => kernel_rfl
    refine ENDOPS (BACK (k + 1, ys14, done ++ [(-1)], ar.set k (-1)) [0, 2, 4, 5, 19, 20, 21] 1 [0, 0] _ ⟨hl_y13, hd_y13, (by rw [hv0]; exact pad_set hv2 (by omega)), hv1.trans (by first | (rw [readArgs_num (by assumption) (by assumption)]; simp [Option.map_map, Function.comp_def]; done) | (rw [show y13 = [45] by assumption, readArgs_dash]; simp [Option.map_map, Function.comp_def])), (by simp only [List.length_append, List.length_cons, List.length_nil]; omega)⟩ (by simp) ?_ rfl rfl rfl)
    · as_aux_lemma => kernel_rfl
   ·
    have h16 := bh16
    have h16 := ne_of_beq_false h16
    refine SKIP (NEXT (SEQ (SEQ (REGION [0, 1] rfl (RUN0 2 [] [(0, .v (.string (bs line))), (2, .p 0 0), (4, .v (.slice a1 ((parts line 32).length) c2)), (5, .v (.slice a5 5 5)), (6, I (k : Int)), (8, I (((number y13).getD 0 : Nat) : Int)), (19, .v (.slice a9 (((parts line 32).drop 1).length) (c2 - 1))), (20, I ((((parts line 32).drop 1).length : Nat) : Int)), (21, I (k : Int)), (34, B (!((number y13).isSome)))] ?_ rfl ?_)))))
    · as_aux_lemma => kernel_rfl
    refine ENDOPS (NEXT (IF (!((number y13).isSome)) ?_ (fun bh20 => ?_) (fun bh20 => ?_)))
    · as_aux_lemma => kernel_rfl
    ·
     have h20 := bh20
     have h20 := notT h20
     refine SEQ (REGION [0, 1, 2] rfl (RUN0 3 [] [(2, .p 0 0), (3, B false)] ?_ rfl ?_))
     · as_aux_lemma => kernel_rfl
     refine ENDOPS (NEXT (RET (PASS trivial (OUTR (PASS trivial (PASS trivial (OUTR (PASS trivial (FIN (.tuple #[.agg #[vi 0, vi 0, vi 0, vi 0, vi 0, vi 0], .bool false]) ?_ () ?_ [] ?_)))))))))
     · as_aux_lemma => kernel_rfl
     · (first | (rw [readI_many (by omega)]; rfl) | (rw [readI_bad (hv1.trans (by rw [readArgs_bad (by assumption) (by assumption)]; rfl))]; rfl))
     · rfl
    ·
     have h20 := bh20
     have h20 := notF h20
     refine SKIP (NEXT (REGION [0, 1, 2, 3, 4] rfl (RUN0 3 [3, 4] [(0, .v (.string (bs line))), (2, .p 0 0), (4, .v (.slice a1 ((parts line 32).length) c2)), (5, .v (.slice a5 5 5)), (19, .v (.slice a9 (((parts line 32).drop 1).length) (c2 - 1))), (20, I ((((parts line 32).drop 1).length : Nat) : Int)), (21, I (k : Int)), (36, .v (.slice a5 5 5)), (37, I (k : Int)), (38, I (((number y13).getD 0 : Nat) : Int))] ?_ rfl ?_)))
     · as_aux_lemma => kernel_rfl
     refine FACT (5 = ar.length) (fun w hw => (SlO.lenE (hw.own 1 rfl)).1) (fun hln21 => ?_)
     obtain ⟨x22, hx23⟩ : ∃ y, ar[k]? = some y := ⟨_, List.getElem?_eq_getElem (by omega)⟩
     refine OPC (INDEX 42 (.tmp 36) (.tmp 37) 39 0 ?_ (NL rfl) a5 5 5 .i64 (k : Int) 3 1 ?_ ?_ ?_ ?_ ha6 (by omega) (by omega) ?_)
     iterate 5 (as_aux_lemma => kernel_rfl)
     refine OPC (STOREF 3 (.tmp 39) (.tmp 38) 0 ?_ 1 _ 3 a5 5 5 k 0 ar rfl x22 (((number y13).getD 0 : Nat) : Int) hx23 (vi (((number y13).getD 0 : Nat) : Int)) ?_ ?_ ?_ ?_)
     iterate 4 (as_aux_lemma => kernel_rfl)
     refine ENDOPS (OUTN (NEXT (REGION [0, 1] rfl (RUN0 1 [1] [(0, .v (.string (bs line))), (2, .p 0 0), (4, .v (.slice a1 ((parts line 32).length) c2)), (5, .v (.slice a5 5 5)), (19, .v (.slice a9 (((parts line 32).drop 1).length) (c2 - 1))), (20, I ((((parts line 32).drop 1).length : Nat) : Int)), (40, I (wr ((k : Int) + 1)))] ?_ rfl ?_))))
     · as_aux_lemma => kernel_rfl
     refine CAST (d := 40) (vi (wr ((k : Int) + 1))) (vi ((k + 1 : Nat) : Int)) ?_ (vi_cast (by omega) (by omega)) ?_
     · as_aux_lemma => kernel_rfl
     refine RUN0 1 [] [(0, .v (.string (bs line))), (2, .p 0 0), (4, .v (.slice a1 ((parts line 32).length) c2)), (5, .v (.slice a5 5 5)), (19, .v (.slice a9 (((parts line 32).drop 1).length) (c2 - 1))), (20, I ((((parts line 32).drop 1).length : Nat) : Int)), (21, I ((k + 1 : Nat) : Int))] ?_ rfl ?_
     · as_aux_lemma => kernel_rfl
     refine ENDOPS (BACK (k + 1, ys14, done ++ [(((number y13).getD 0 : Nat) : Int)], ar.set k (((number y13).getD 0 : Nat) : Int)) [0, 2, 4, 5, 19, 20, 21] 1 [0, 0] _ ⟨hl_y13, hd_y13, (by rw [hv0]; exact pad_set hv2 (by omega)), hv1.trans (by first | (rw [readArgs_num (by assumption) (by assumption)]; simp [Option.map_map, Function.comp_def]; done) | (rw [show y13 = [45] by assumption, readArgs_dash]; simp [Option.map_map, Function.comp_def])), (by simp only [List.length_append, List.length_cons, List.length_nil]; omega)⟩ (by simp) ?_ rfl rfl rfl)
     · as_aux_lemma => kernel_rfl
  ·
   have h12 := bh12
   have h12 := of_decide_eq_false h12
   obtain rfl := drop_nil hk (by omega)
   refine EXIT (PASS trivial (PASS trivial (OUT (NEXT (SEQ (REGION [0] rfl (RUN 1 [] [(0, .v (.string (bs line))), (2, .p 0 0), (4, .v (.slice a1 ((parts line 32).length) c2)), (5, .v (.slice a5 5 5)), (10, .p 1 0)] [(30, [vi 0, vi 0, vi 0, vi 0, vi 0, vi 0]), (30, [vi 0, vi 0, vi 0, vi 0, vi 0, vi 0])] ?_ rfl ?_)))))))
   · as_aux_lemma => kernel_rfl
   refine ENDOPS (NEXT (SEQ (SEQ (REGION [0, 1, 2] rfl (RUN0 1 [1, 2] [(0, .v (.string (bs line))), (2, .p 0 0), (5, .v (.slice a5 5 5)), (10, .p 1 0), (41, .v (.slice a1 ((parts line 32).length) c2))] ?_ rfl ?_)))))
   · as_aux_lemma => kernel_rfl
   obtain ⟨x24, hx25⟩ : ∃ y, (parts line 32)[0]? = some y := ⟨_, List.getElem?_eq_getElem (by omega)⟩
   refine FACT (a1.isSome = true) (fun w hw => SlO.isS (hw.own 0 rfl) (by omega)) (fun hs26 => ?_)
   refine OPC (INDEX 36 (.tmp 41) (.const (vi 0)) 42 0 ?_ (NL rfl) a1 ((parts line 32).length) c2 .i64 0 9 1 ?_ ?_ ?_ ?_ hs26 (by omega) (by omega) ?_)
   iterate 5 (as_aux_lemma => kernel_rfl)
   refine OPC (LOADE 9 (.tmp 42) 43 9 ?_ (NL rfl) a1 (0 * 1) 0 [.string (bs x24)] (.string (bs x24)) ?_ (fun w hw => (hw.rdO 0 rfl).flat hx25) ?_ ?_)
   iterate 3 (as_aux_lemma => kernel_rfl)
   refine ENDOPS (NEXT (BLOCK (SEQ (REGION [0, 1] rfl (OPC (RUNV (.binOp .eql 9 (.tmp 43) (.const (.string (bs ([106, 111, 105, 110])))) 9) 45 4 ?_ (NL rfl) (.bool (x24 == ([106, 111, 105, 110]))) (runs_seql (a := x24) (b := [106, 111, 105, 110]) ?_ ?_) ?_))))))
   iterate 3 (as_aux_lemma => kernel_rfl)
   refine RUN0 1 [] [(0, .v (.string (bs line))), (2, .p 0 0), (5, .v (.slice a5 5 5)), (10, .p 1 0), (43, .v (.string (bs x24))), (44, B (x24 == ([106, 111, 105, 110])))] ?_ rfl ?_
   · as_aux_lemma => kernel_rfl
   refine ENDOPS (NEXT (IF (x24 == ([106, 111, 105, 110])) ?_ (fun bh27 => ?_) (fun bh27 => ?_)))
   · as_aux_lemma => kernel_rfl
   ·
    have h27 := bh27
    have h27 := eq_of_beq h27
    refine REGIONH ?_ 17 rfl [slA 9 strL (.slice a1 (parts line 32).length c2) (parts line 32), slA 3 intL (.slice a5 5 5) ar] ?_
    · as_aux_lemma => kernel_rfl
    refine HPURE (js := [0, 0]) 0 [(0, .v (.string (bs line))), (2, .p 0 0), (5, .v (.slice a5 5 5)), (10, .p 1 0), (46, .v (.slice a5 5 5))] ?_ ?_ rfl ?_
    iterate 2 (as_aux_lemma => kernel_rfl)
    refine FACT (5 = ar.length) (fun w hw => (SlO.lenE (hw.own 1 rfl)).1) (fun hln28 => ?_)
    obtain ⟨x29, hx30⟩ : ∃ y, ar[0]? = some y := ⟨_, List.getElem?_eq_getElem (by omega)⟩
    refine HINDEX (i := 1) (js := [0, 0])  42 (.tmp 46) (.const (vi 0)) 47 0 ?_ (NL rfl) a5 5 5 .i64 0 3 1 ?_ ?_ ?_ ?_ ha6 (by omega) (by omega) ?_ rfl ?_
    iterate 6 (as_aux_lemma => kernel_rfl)
    refine HLOADE (i := 2) (js := [0, 0])  3 (.tmp 47) 48 3 ?_ (NL rfl) a5 (0 * 1) 0 [vi x29] (vi x29) ?_ (fun w hw => (hw.rdO 1 rfl).flat hx30) ?_ ?_ rfl ?_
    iterate 4 (as_aux_lemma => kernel_rfl)
    refine HPURE (js := [0, 0]) 3 [(0, .v (.string (bs line))), (2, .p 0 0), (5, .v (.slice a5 5 5)), (10, .p 1 0), (48, I x29), (49, .v (.slice a5 5 5))] ?_ ?_ rfl ?_
    iterate 2 (as_aux_lemma => kernel_rfl)
    refine FACT (5 = ar.length) (fun w hw => (SlO.lenE (hw.own 1 rfl)).1) (fun hln31 => ?_)
    obtain ⟨x32, hx33⟩ : ∃ y, ar[1]? = some y := ⟨_, List.getElem?_eq_getElem (by omega)⟩
    refine HINDEX (i := 4) (js := [0, 0])  42 (.tmp 49) (.const (vi 1)) 50 0 ?_ (NL rfl) a5 5 5 .i64 1 3 1 ?_ ?_ ?_ ?_ ha6 (by omega) (by omega) ?_ rfl ?_
    iterate 6 (as_aux_lemma => kernel_rfl)
    refine HLOADE (i := 5) (js := [0, 0])  3 (.tmp 50) 51 3 ?_ (NL rfl) a5 (1 * 1) 0 [vi x32] (vi x32) ?_ (fun w hw => (hw.rdO 1 rfl).flat hx33) ?_ ?_ rfl ?_
    iterate 4 (as_aux_lemma => kernel_rfl)
    refine HPURE (js := [0, 0]) 6 [(0, .v (.string (bs line))), (2, .p 0 0), (5, .v (.slice a5 5 5)), (10, .p 1 0), (48, I x29), (51, I x32), (52, .v (.slice a5 5 5))] ?_ ?_ rfl ?_
    iterate 2 (as_aux_lemma => kernel_rfl)
    refine FACT (5 = ar.length) (fun w hw => (SlO.lenE (hw.own 1 rfl)).1) (fun hln34 => ?_)
    obtain ⟨x35, hx36⟩ : ∃ y, ar[2]? = some y := ⟨_, List.getElem?_eq_getElem (by omega)⟩
    refine HINDEX (i := 7) (js := [0, 0])  42 (.tmp 52) (.const (vi 2)) 53 0 ?_ (NL rfl) a5 5 5 .i64 2 3 1 ?_ ?_ ?_ ?_ ha6 (by omega) (by omega) ?_ rfl ?_
    iterate 6 (as_aux_lemma => kernel_rfl)
    refine HLOADE (i := 8) (js := [0, 0])  3 (.tmp 53) 54 3 ?_ (NL rfl) a5 (2 * 1) 0 [vi x35] (vi x35) ?_ (fun w hw => (hw.rdO 1 rfl).flat hx36) ?_ ?_ rfl ?_
    iterate 4 (as_aux_lemma => kernel_rfl)
    refine HPURE (js := [0, 0]) 9 [(0, .v (.string (bs line))), (2, .p 0 0), (5, .v (.slice a5 5 5)), (10, .p 1 0), (48, I x29), (51, I x32), (54, I x35), (55, .v (.slice a5 5 5))] ?_ ?_ rfl ?_
    iterate 2 (as_aux_lemma => kernel_rfl)
    refine FACT (5 = ar.length) (fun w hw => (SlO.lenE (hw.own 1 rfl)).1) (fun hln37 => ?_)
    obtain ⟨x38, hx39⟩ : ∃ y, ar[3]? = some y := ⟨_, List.getElem?_eq_getElem (by omega)⟩
    refine HINDEX (i := 10) (js := [0, 0])  42 (.tmp 55) (.const (vi 3)) 56 0 ?_ (NL rfl) a5 5 5 .i64 3 3 1 ?_ ?_ ?_ ?_ ha6 (by omega) (by omega) ?_ rfl ?_
    iterate 6 (as_aux_lemma => kernel_rfl)
    refine HLOADE (i := 11) (js := [0, 0])  3 (.tmp 56) 57 3 ?_ (NL rfl) a5 (3 * 1) 0 [vi x38] (vi x38) ?_ (fun w hw => (hw.rdO 1 rfl).flat hx39) ?_ ?_ rfl ?_
    iterate 4 (as_aux_lemma => kernel_rfl)
    refine HPURE (js := [0, 0]) 12 [(0, .v (.string (bs line))), (2, .p 0 0), (10, .p 1 0), (48, I x29), (51, I x32), (54, I x35), (57, I x38), (58, .v (.slice a5 5 5))] ?_ ?_ rfl ?_
    iterate 2 (as_aux_lemma => kernel_rfl)
    refine FACT (5 = ar.length) (fun w hw => (SlO.lenE (hw.own 1 rfl)).1) (fun hln40 => ?_)
    obtain ⟨x41, hx42⟩ : ∃ y, ar[4]? = some y := ⟨_, List.getElem?_eq_getElem (by omega)⟩
    refine HINDEX (i := 13) (js := [0, 0])  42 (.tmp 58) (.const (vi 4)) 59 0 ?_ (NL rfl) a5 5 5 .i64 4 3 1 ?_ ?_ ?_ ?_ ha6 (by omega) (by omega) ?_ rfl ?_
    iterate 6 (as_aux_lemma => kernel_rfl)
    refine HLOADE (i := 14) (js := [0, 0])  3 (.tmp 59) 60 3 ?_ (NL rfl) a5 (4 * 1) 0 [vi x41] (vi x41) ?_ (fun w hw => (hw.rdO 1 rfl).flat hx42) ?_ ?_ rfl ?_
    iterate 4 (as_aux_lemma => kernel_rfl)
    refine HPURE (js := [0, 0]) 15 [(0, .v (.string (bs line))), (2, .p 0 0), (10, .p 1 0), (61, .v (.agg #[vi 1, vi x29, vi x32, vi x35, vi x38, vi x41]))] ?_ ?_ rfl ?_
    iterate 2 (as_aux_lemma => kernel_rfl)
    refine HALL [16] ?_ (by decide) ?_
    · as_aux_lemma => kernel_rfl
    refine RUNO [(0, .v (.string (bs line))), (2, .p 0 0), (10, .p 1 0)] [(30, [vi 0, vi 0, vi 0, vi 0, vi 0, vi 0]), (30, [vi 1, vi x29, vi x32, vi x35, vi x38, vi x41])] ?_ ?_
    · as_aux_lemma => kernel_rfl
    refine HKEEP (js := [0, 0]) rfl (HEND ?_ ?_)
    · as_aux_lemma => kernel_rfl
    refine OUTN (NEXT (SEQ (SEQ (REGION [0, 1, 2, 3, 4, 5, 6, 7, 8] rfl (RUN0 1 [1, 2, 3, 4, 5, 6, 7, 8] [(0, .v (.string (bs line))), (2, .p 0 0), (10, .p 1 0), (98, .v (.agg #[vi 1, vi x29, vi x32, vi x35, vi x38, vi x41]))] ?_ rfl ?_)))))
    · as_aux_lemma => kernel_rfl
    refine OPC (CALL 21 #[.agg #[vi 1, vi x29, vi x32, vi x35, vi x38, vi x41]] (some 99) ?_ [] [] _ rfl (RV (.bool (reqOk (⟨1, x29, x32, x35, x38, x41⟩ : Req)))) (fun w hw => iReqOk_c w (⟨1, x29, x32, x35, x38, x41⟩ : Req)) (NO rfl) ?_)
    · as_aux_lemma => kernel_rfl
    rintro ⟨⟩
    refine RUN0 2 [4, 5, 6, 7, 8] [(0, .v (.string (bs line))), (2, .p 0 0), (10, .p 1 0), (101, B (!(reqOk (⟨1, x29, x32, x35, x38, x41⟩ : Req))))] ?_ rfl ?_
    · as_aux_lemma => kernel_rfl
    refine SPLIT (d := 101) (!(reqOk (⟨1, x29, x32, x35, x38, x41⟩ : Req))) ?_ (fun bh43 => ?_) (fun bh43 => ?_)
    · as_aux_lemma => kernel_rfl
    ·
     have h43 := bh43
     have h43 := notT h43
     refine RUN0 5 [] [(2, .p 0 0), (10, .p 1 0), (106, B true)] ?_ rfl ?_
     · as_aux_lemma => kernel_rfl
     refine ENDOPS (NEXT (IFT ?_ ?_))
     · as_aux_lemma => kernel_rfl
     refine SEQ (REGION [0, 1, 2] rfl (RUN0 3 [] [(2, .p 0 0), (3, B false)] ?_ rfl ?_))
     · as_aux_lemma => kernel_rfl
     refine ENDOPS (NEXT (RET (PASS trivial (FIN (.tuple #[.agg #[vi 0, vi 0, vi 0, vi 0, vi 0, vi 0], .bool false]) ?_ () ?_ [] ?_))))
     · as_aux_lemma => kernel_rfl
     · (have e0 := at5_pad hv2 (by omega) (by decide) (hv0 ▸ hx30); have e1 := at5_pad hv2 (by omega) (by decide) (hv0 ▸ hx33); have e2 := at5_pad hv2 (by omega) (by decide) (hv0 ▸ hx36); have e3 := at5_pad hv2 (by omega) (by decide) (hv0 ▸ hx39); have e4 := at5_pad hv2 (by omega) (by decide) (hv0 ▸ hx42); have hz := readI_of (line := line) (l := done) (w := x24) (q := (⟨1, x29, x32, x35, x38, x41⟩ : Req)) (by omega) (by rw [hv1]; simp [readArgs]) hx25 (by rw [iReq, if_pos h27]; rw [← e0, ← e1, ← e2, ← e3, ← e4]); simp only [RV]; rw [hz]; simp only [optReq]; first | (rw [if_pos ⟨by assumption, by assumption⟩]; rfl) | (rw [if_neg (fun e => (by first | exact absurd e.2 (by assumption) | (have h1 := e.1; exact absurd h1 (by simp only [Bool.not_eq_true]; assumption))))]; rfl))
     · rfl
    ·
     have h43 := bh43
     have h43 := notF h43
     refine RUN0 1 [5, 6, 7, 8] [(0, .v (.string (bs line))), (2, .p 0 0), (10, .p 1 0), (101, B false), (102, .v (.agg #[vi 1, vi x29, vi x32, vi x35, vi x38, vi x41]))] ?_ rfl ?_
     · as_aux_lemma => kernel_rfl
     refine OPC (CALL 11 #[.agg #[vi 1, vi x29, vi x32, vi x35, vi x38, vi x41]] (some 103) ?_ [] [] _ rfl (RV (.string (bs (reqLine (⟨1, x29, x32, x35, x38, x41⟩ : Req))))) (fun w hw => iReqLine_c w (⟨1, x29, x32, x35, x38, x41⟩ : Req) (htab.fr hw.fr)) (NO rfl) ?_)
     · as_aux_lemma => kernel_rfl
     rintro ⟨⟩
     have hr44 := reqLine_len (⟨1, x29, x32, x35, x38, x41⟩ : Req)
     refine RUN0 1 [7, 8] [(2, .p 0 0), (10, .p 1 0), (101, B false), (103, .v (.string (bs (reqLine (⟨1, x29, x32, x35, x38, x41⟩ : Req))))), (104, .v (.string (bs line)))] ?_ rfl ?_
     · as_aux_lemma => kernel_rfl
     refine OPC (RUNV (.binOp .neq 9 (.tmp 103) (.tmp 104) 9) 105 4 ?_ (NL rfl) (.bool (!((reqLine (⟨1, x29, x32, x35, x38, x41⟩ : Req)) == line))) (runs_sneq (a := reqLine (⟨1, x29, x32, x35, x38, x41⟩ : Req)) (b := line) ?_ ?_) ?_)
     iterate 3 (as_aux_lemma => kernel_rfl)
     refine RUN0 1 [] [(2, .p 0 0), (10, .p 1 0), (106, B (!((reqLine (⟨1, x29, x32, x35, x38, x41⟩ : Req)) == line)))] ?_ rfl ?_
     · as_aux_lemma => kernel_rfl
     refine ENDOPS (NEXT (IF (!((reqLine (⟨1, x29, x32, x35, x38, x41⟩ : Req)) == line)) ?_ (fun bh45 => ?_) (fun bh45 => ?_)))
     · as_aux_lemma => kernel_rfl
     ·
      have h45 := bh45
      have h45 := notT h45
      have h45 := ne_of_beq_false h45
      refine SEQ (REGION [0, 1, 2] rfl (RUN0 3 [] [(2, .p 0 0), (3, B false)] ?_ rfl ?_))
      · as_aux_lemma => kernel_rfl
      refine ENDOPS (NEXT (RET (PASS trivial (FIN (.tuple #[.agg #[vi 0, vi 0, vi 0, vi 0, vi 0, vi 0], .bool false]) ?_ () ?_ [] ?_))))
      · as_aux_lemma => kernel_rfl
      · (have e0 := at5_pad hv2 (by omega) (by decide) (hv0 ▸ hx30); have e1 := at5_pad hv2 (by omega) (by decide) (hv0 ▸ hx33); have e2 := at5_pad hv2 (by omega) (by decide) (hv0 ▸ hx36); have e3 := at5_pad hv2 (by omega) (by decide) (hv0 ▸ hx39); have e4 := at5_pad hv2 (by omega) (by decide) (hv0 ▸ hx42); have hz := readI_of (line := line) (l := done) (w := x24) (q := (⟨1, x29, x32, x35, x38, x41⟩ : Req)) (by omega) (by rw [hv1]; simp [readArgs]) hx25 (by rw [iReq, if_pos h27]; rw [← e0, ← e1, ← e2, ← e3, ← e4]); simp only [RV]; rw [hz]; simp only [optReq]; first | (rw [if_pos ⟨by assumption, by assumption⟩]; rfl) | (rw [if_neg (fun e => (by first | exact absurd e.2 (by assumption) | (have h1 := e.1; exact absurd h1 (by simp only [Bool.not_eq_true]; assumption))))]; rfl))
      · rfl
     ·
      have h45 := bh45
      have h45 := notF h45
      have h45 := eq_of_beq h45
      refine SKIP (NEXT (SEQ (REGION [0, 1, 2] rfl (RUN 3 [] [(2, .p 0 0), (3, B true)] [(30, [vi 1, vi x29, vi x32, vi x35, vi x38, vi x41]), (30, [vi 1, vi x29, vi x32, vi x35, vi x38, vi x41])] ?_ rfl ?_))))
      · as_aux_lemma => kernel_rfl
      refine ENDOPS (NEXT (RET (FIN (.tuple #[.agg #[vi 1, vi x29, vi x32, vi x35, vi x38, vi x41], .bool true]) ?_ () ?_ [] ?_)))
      · as_aux_lemma => kernel_rfl
      · (have e0 := at5_pad hv2 (by omega) (by decide) (hv0 ▸ hx30); have e1 := at5_pad hv2 (by omega) (by decide) (hv0 ▸ hx33); have e2 := at5_pad hv2 (by omega) (by decide) (hv0 ▸ hx36); have e3 := at5_pad hv2 (by omega) (by decide) (hv0 ▸ hx39); have e4 := at5_pad hv2 (by omega) (by decide) (hv0 ▸ hx42); have hz := readI_of (line := line) (l := done) (w := x24) (q := (⟨1, x29, x32, x35, x38, x41⟩ : Req)) (by omega) (by rw [hv1]; simp [readArgs]) hx25 (by rw [iReq, if_pos h27]; rw [← e0, ← e1, ← e2, ← e3, ← e4]); simp only [RV]; rw [hz]; simp only [optReq]; first | (rw [if_pos ⟨by assumption, by assumption⟩]; rfl) | (rw [if_neg (fun e => (by first | exact absurd e.2 (by assumption) | (have h1 := e.1; exact absurd h1 (by simp only [Bool.not_eq_true]; assumption))))]; rfl))
      · rfl
   ·
    have h27 := bh27
    have h27 := ne_of_beq_false h27
    refine SEQ (REGION [0, 1] rfl (OPC (RUNV (.binOp .eql 9 (.tmp 43) (.const (.string (bs ([99, 97, 110, 99, 101, 108])))) 9) 63 4 ?_ (NL rfl) (.bool (x24 == ([99, 97, 110, 99, 101, 108]))) (runs_seql (a := x24) (b := [99, 97, 110, 99, 101, 108]) ?_ ?_) ?_)))
    iterate 3 (as_aux_lemma => kernel_rfl)
    refine RUN0 1 [] [(0, .v (.string (bs line))), (2, .p 0 0), (5, .v (.slice a5 5 5)), (10, .p 1 0), (43, .v (.string (bs x24))), (62, B (x24 == ([99, 97, 110, 99, 101, 108])))] ?_ rfl ?_
    · as_aux_lemma => kernel_rfl
    refine ENDOPS (NEXT (IF (x24 == ([99, 97, 110, 99, 101, 108])) ?_ (fun bh46 => ?_) (fun bh46 => ?_)))
    · as_aux_lemma => kernel_rfl
    ·
     have h46 := bh46
     have h46 := eq_of_beq h46
     refine REGION [0, 1, 2, 3, 4] rfl (RUN0 1 [1, 2, 3, 4] [(0, .v (.string (bs line))), (2, .p 0 0), (10, .p 1 0), (64, .v (.slice a5 5 5))] ?_ rfl ?_)
     · as_aux_lemma => kernel_rfl
     refine FACT (5 = ar.length) (fun w hw => (SlO.lenE (hw.own 1 rfl)).1) (fun hln47 => ?_)
     obtain ⟨x48, hx49⟩ : ∃ y, ar[0]? = some y := ⟨_, List.getElem?_eq_getElem (by omega)⟩
     refine OPC (INDEX 42 (.tmp 64) (.const (vi 0)) 65 0 ?_ (NL rfl) a5 5 5 .i64 0 3 1 ?_ ?_ ?_ ?_ ha6 (by omega) (by omega) ?_)
     iterate 5 (as_aux_lemma => kernel_rfl)
     refine OPC (LOADE 3 (.tmp 65) 66 3 ?_ (NL rfl) a5 (0 * 1) 0 [vi x48] (vi x48) ?_ (fun w hw => (hw.rdO 1 rfl).flat hx49) ?_ ?_)
     iterate 3 (as_aux_lemma => kernel_rfl)
     refine RUN 2 [] [(0, .v (.string (bs line))), (2, .p 0 0), (10, .p 1 0)] [(30, [vi 0, vi 0, vi 0, vi 0, vi 0, vi 0]), (30, [vi 2, vi x48, vi 0, vi 0, vi 0, vi 0])] ?_ rfl ?_
     · as_aux_lemma => kernel_rfl
     refine ENDOPS (OUTN (NEXT (SEQ (SEQ (REGION [0, 1, 2, 3, 4, 5, 6, 7, 8] rfl (RUN0 1 [1, 2, 3, 4, 5, 6, 7, 8] [(0, .v (.string (bs line))), (2, .p 0 0), (10, .p 1 0), (98, .v (.agg #[vi 2, vi x48, vi 0, vi 0, vi 0, vi 0]))] ?_ rfl ?_))))))
     · as_aux_lemma => kernel_rfl
     refine OPC (CALL 21 #[.agg #[vi 2, vi x48, vi 0, vi 0, vi 0, vi 0]] (some 99) ?_ [] [] _ rfl (RV (.bool (reqOk (⟨2, x48, 0, 0, 0, 0⟩ : Req)))) (fun w hw => iReqOk_c w (⟨2, x48, 0, 0, 0, 0⟩ : Req)) (NO rfl) ?_)
     · as_aux_lemma => kernel_rfl
     rintro ⟨⟩
     refine RUN0 2 [4, 5, 6, 7, 8] [(0, .v (.string (bs line))), (2, .p 0 0), (10, .p 1 0), (101, B (!(reqOk (⟨2, x48, 0, 0, 0, 0⟩ : Req))))] ?_ rfl ?_
     · as_aux_lemma => kernel_rfl
     refine SPLIT (d := 101) (!(reqOk (⟨2, x48, 0, 0, 0, 0⟩ : Req))) ?_ (fun bh50 => ?_) (fun bh50 => ?_)
     · as_aux_lemma => kernel_rfl
     ·
      have h50 := bh50
      have h50 := notT h50
      refine RUN0 5 [] [(2, .p 0 0), (10, .p 1 0), (106, B true)] ?_ rfl ?_
      · as_aux_lemma => kernel_rfl
      refine ENDOPS (NEXT (IFT ?_ ?_))
      · as_aux_lemma => kernel_rfl
      refine SEQ (REGION [0, 1, 2] rfl (RUN0 3 [] [(2, .p 0 0), (3, B false)] ?_ rfl ?_))
      · as_aux_lemma => kernel_rfl
      refine ENDOPS (NEXT (RET (PASS trivial (FIN (.tuple #[.agg #[vi 0, vi 0, vi 0, vi 0, vi 0, vi 0], .bool false]) ?_ () ?_ [] ?_))))
      · as_aux_lemma => kernel_rfl
      · (have e0 := at5_pad hv2 (by omega) (by decide) (hv0 ▸ hx49); have hz := readI_of (line := line) (l := done) (w := x24) (q := (⟨2, x48, 0, 0, 0, 0⟩ : Req)) (by omega) (by rw [hv1]; simp [readArgs]) hx25 (by rw [iReq, if_neg h27, if_pos h46]; rw [← e0]); simp only [RV]; rw [hz]; simp only [optReq]; first | (rw [if_pos ⟨by assumption, by assumption⟩]; rfl) | (rw [if_neg (fun e => (by first | exact absurd e.2 (by assumption) | (have h1 := e.1; exact absurd h1 (by simp only [Bool.not_eq_true]; assumption))))]; rfl))
      · rfl
     ·
      have h50 := bh50
      have h50 := notF h50
      refine RUN0 1 [5, 6, 7, 8] [(0, .v (.string (bs line))), (2, .p 0 0), (10, .p 1 0), (101, B false), (102, .v (.agg #[vi 2, vi x48, vi 0, vi 0, vi 0, vi 0]))] ?_ rfl ?_
      · as_aux_lemma => kernel_rfl
      refine OPC (CALL 11 #[.agg #[vi 2, vi x48, vi 0, vi 0, vi 0, vi 0]] (some 103) ?_ [] [] _ rfl (RV (.string (bs (reqLine (⟨2, x48, 0, 0, 0, 0⟩ : Req))))) (fun w hw => iReqLine_c w (⟨2, x48, 0, 0, 0, 0⟩ : Req) (htab.fr hw.fr)) (NO rfl) ?_)
      · as_aux_lemma => kernel_rfl
      rintro ⟨⟩
      have hr51 := reqLine_len (⟨2, x48, 0, 0, 0, 0⟩ : Req)
      refine RUN0 1 [7, 8] [(2, .p 0 0), (10, .p 1 0), (101, B false), (103, .v (.string (bs (reqLine (⟨2, x48, 0, 0, 0, 0⟩ : Req))))), (104, .v (.string (bs line)))] ?_ rfl ?_
      · as_aux_lemma => kernel_rfl
      refine OPC (RUNV (.binOp .neq 9 (.tmp 103) (.tmp 104) 9) 105 4 ?_ (NL rfl) (.bool (!((reqLine (⟨2, x48, 0, 0, 0, 0⟩ : Req)) == line))) (runs_sneq (a := reqLine (⟨2, x48, 0, 0, 0, 0⟩ : Req)) (b := line) ?_ ?_) ?_)
      iterate 3 (as_aux_lemma => kernel_rfl)
      refine RUN0 1 [] [(2, .p 0 0), (10, .p 1 0), (106, B (!((reqLine (⟨2, x48, 0, 0, 0, 0⟩ : Req)) == line)))] ?_ rfl ?_
      · as_aux_lemma => kernel_rfl
      refine ENDOPS (NEXT (IF (!((reqLine (⟨2, x48, 0, 0, 0, 0⟩ : Req)) == line)) ?_ (fun bh52 => ?_) (fun bh52 => ?_)))
      · as_aux_lemma => kernel_rfl
      ·
       have h52 := bh52
       have h52 := notT h52
       have h52 := ne_of_beq_false h52
       refine SEQ (REGION [0, 1, 2] rfl (RUN0 3 [] [(2, .p 0 0), (3, B false)] ?_ rfl ?_))
       · as_aux_lemma => kernel_rfl
       refine ENDOPS (NEXT (RET (PASS trivial (FIN (.tuple #[.agg #[vi 0, vi 0, vi 0, vi 0, vi 0, vi 0], .bool false]) ?_ () ?_ [] ?_))))
       · as_aux_lemma => kernel_rfl
       · (have e0 := at5_pad hv2 (by omega) (by decide) (hv0 ▸ hx49); have hz := readI_of (line := line) (l := done) (w := x24) (q := (⟨2, x48, 0, 0, 0, 0⟩ : Req)) (by omega) (by rw [hv1]; simp [readArgs]) hx25 (by rw [iReq, if_neg h27, if_pos h46]; rw [← e0]); simp only [RV]; rw [hz]; simp only [optReq]; first | (rw [if_pos ⟨by assumption, by assumption⟩]; rfl) | (rw [if_neg (fun e => (by first | exact absurd e.2 (by assumption) | (have h1 := e.1; exact absurd h1 (by simp only [Bool.not_eq_true]; assumption))))]; rfl))
       · rfl
      ·
       have h52 := bh52
       have h52 := notF h52
       have h52 := eq_of_beq h52
       refine SKIP (NEXT (SEQ (REGION [0, 1, 2] rfl (RUN 3 [] [(2, .p 0 0), (3, B true)] [(30, [vi 2, vi x48, vi 0, vi 0, vi 0, vi 0]), (30, [vi 2, vi x48, vi 0, vi 0, vi 0, vi 0])] ?_ rfl ?_))))
       · as_aux_lemma => kernel_rfl
       refine ENDOPS (NEXT (RET (FIN (.tuple #[.agg #[vi 2, vi x48, vi 0, vi 0, vi 0, vi 0], .bool true]) ?_ () ?_ [] ?_)))
       · as_aux_lemma => kernel_rfl
       · (have e0 := at5_pad hv2 (by omega) (by decide) (hv0 ▸ hx49); have hz := readI_of (line := line) (l := done) (w := x24) (q := (⟨2, x48, 0, 0, 0, 0⟩ : Req)) (by omega) (by rw [hv1]; simp [readArgs]) hx25 (by rw [iReq, if_neg h27, if_pos h46]; rw [← e0]); simp only [RV]; rw [hz]; simp only [optReq]; first | (rw [if_pos ⟨by assumption, by assumption⟩]; rfl) | (rw [if_neg (fun e => (by first | exact absurd e.2 (by assumption) | (have h1 := e.1; exact absurd h1 (by simp only [Bool.not_eq_true]; assumption))))]; rfl))
       · rfl
    ·
     have h46 := bh46
     have h46 := ne_of_beq_false h46
     refine SEQ (REGION [0, 1] rfl (OPC (RUNV (.binOp .eql 9 (.tmp 43) (.const (.string (bs ([102, 114, 101, 101])))) 9) 69 4 ?_ (NL rfl) (.bool (x24 == ([102, 114, 101, 101]))) (runs_seql (a := x24) (b := [102, 114, 101, 101]) ?_ ?_) ?_)))
     iterate 3 (as_aux_lemma => kernel_rfl)
     refine RUN0 1 [] [(0, .v (.string (bs line))), (2, .p 0 0), (5, .v (.slice a5 5 5)), (10, .p 1 0), (43, .v (.string (bs x24))), (68, B (x24 == ([102, 114, 101, 101])))] ?_ rfl ?_
     · as_aux_lemma => kernel_rfl
     refine ENDOPS (NEXT (IF (x24 == ([102, 114, 101, 101])) ?_ (fun bh53 => ?_) (fun bh53 => ?_)))
     · as_aux_lemma => kernel_rfl
     ·
      have h53 := bh53
      have h53 := eq_of_beq h53
      refine REGIONH ?_ 8 rfl [slA 9 strL (.slice a1 (parts line 32).length c2) (parts line 32), slA 3 intL (.slice a5 5 5) ar] ?_
      · as_aux_lemma => kernel_rfl
      refine HPURE (js := [0, 0]) 0 [(0, .v (.string (bs line))), (2, .p 0 0), (5, .v (.slice a5 5 5)), (10, .p 1 0), (70, .v (.slice a5 5 5))] ?_ ?_ rfl ?_
      iterate 2 (as_aux_lemma => kernel_rfl)
      refine FACT (5 = ar.length) (fun w hw => (SlO.lenE (hw.own 1 rfl)).1) (fun hln54 => ?_)
      obtain ⟨x55, hx56⟩ : ∃ y, ar[0]? = some y := ⟨_, List.getElem?_eq_getElem (by omega)⟩
      refine HINDEX (i := 1) (js := [0, 0])  42 (.tmp 70) (.const (vi 0)) 71 0 ?_ (NL rfl) a5 5 5 .i64 0 3 1 ?_ ?_ ?_ ?_ ha6 (by omega) (by omega) ?_ rfl ?_
      iterate 6 (as_aux_lemma => kernel_rfl)
      refine HLOADE (i := 2) (js := [0, 0])  3 (.tmp 71) 72 3 ?_ (NL rfl) a5 (0 * 1) 0 [vi x55] (vi x55) ?_ (fun w hw => (hw.rdO 1 rfl).flat hx56) ?_ ?_ rfl ?_
      iterate 4 (as_aux_lemma => kernel_rfl)
      refine HPURE (js := [0, 0]) 3 [(0, .v (.string (bs line))), (2, .p 0 0), (10, .p 1 0), (72, I x55), (73, .v (.slice a5 5 5))] ?_ ?_ rfl ?_
      iterate 2 (as_aux_lemma => kernel_rfl)
      refine FACT (5 = ar.length) (fun w hw => (SlO.lenE (hw.own 1 rfl)).1) (fun hln57 => ?_)
      obtain ⟨x58, hx59⟩ : ∃ y, ar[1]? = some y := ⟨_, List.getElem?_eq_getElem (by omega)⟩
      refine HINDEX (i := 4) (js := [0, 0])  42 (.tmp 73) (.const (vi 1)) 74 0 ?_ (NL rfl) a5 5 5 .i64 1 3 1 ?_ ?_ ?_ ?_ ha6 (by omega) (by omega) ?_ rfl ?_
      iterate 6 (as_aux_lemma => kernel_rfl)
      refine HLOADE (i := 5) (js := [0, 0])  3 (.tmp 74) 75 3 ?_ (NL rfl) a5 (1 * 1) 0 [vi x58] (vi x58) ?_ (fun w hw => (hw.rdO 1 rfl).flat hx59) ?_ ?_ rfl ?_
      iterate 4 (as_aux_lemma => kernel_rfl)
      refine HPURE (js := [0, 0]) 6 [(0, .v (.string (bs line))), (2, .p 0 0), (10, .p 1 0), (76, .v (.agg #[vi 3, vi 0, vi x55, vi 0, vi x58, vi 0]))] ?_ ?_ rfl ?_
      iterate 2 (as_aux_lemma => kernel_rfl)
      refine HALL [7] ?_ (by decide) ?_
      · as_aux_lemma => kernel_rfl
      refine RUNO [(0, .v (.string (bs line))), (2, .p 0 0), (10, .p 1 0)] [(30, [vi 0, vi 0, vi 0, vi 0, vi 0, vi 0]), (30, [vi 3, vi 0, vi x55, vi 0, vi x58, vi 0])] ?_ ?_
      · as_aux_lemma => kernel_rfl
      refine HKEEP (js := [0, 0]) rfl (HEND ?_ ?_)
      · as_aux_lemma => kernel_rfl
      refine OUTN (NEXT (SEQ (SEQ (REGION [0, 1, 2, 3, 4, 5, 6, 7, 8] rfl (RUN0 1 [1, 2, 3, 4, 5, 6, 7, 8] [(0, .v (.string (bs line))), (2, .p 0 0), (10, .p 1 0), (98, .v (.agg #[vi 3, vi 0, vi x55, vi 0, vi x58, vi 0]))] ?_ rfl ?_)))))
      · as_aux_lemma => kernel_rfl
      refine OPC (CALL 21 #[.agg #[vi 3, vi 0, vi x55, vi 0, vi x58, vi 0]] (some 99) ?_ [] [] _ rfl (RV (.bool (reqOk (⟨3, 0, x55, 0, x58, 0⟩ : Req)))) (fun w hw => iReqOk_c w (⟨3, 0, x55, 0, x58, 0⟩ : Req)) (NO rfl) ?_)
      · as_aux_lemma => kernel_rfl
      rintro ⟨⟩
      refine RUN0 2 [4, 5, 6, 7, 8] [(0, .v (.string (bs line))), (2, .p 0 0), (10, .p 1 0), (101, B (!(reqOk (⟨3, 0, x55, 0, x58, 0⟩ : Req))))] ?_ rfl ?_
      · as_aux_lemma => kernel_rfl
      refine SPLIT (d := 101) (!(reqOk (⟨3, 0, x55, 0, x58, 0⟩ : Req))) ?_ (fun bh60 => ?_) (fun bh60 => ?_)
      · as_aux_lemma => kernel_rfl
      ·
       have h60 := bh60
       have h60 := notT h60
       refine RUN0 5 [] [(2, .p 0 0), (10, .p 1 0), (106, B true)] ?_ rfl ?_
       · as_aux_lemma => kernel_rfl
       refine ENDOPS (NEXT (IFT ?_ ?_))
       · as_aux_lemma => kernel_rfl
       refine SEQ (REGION [0, 1, 2] rfl (RUN0 3 [] [(2, .p 0 0), (3, B false)] ?_ rfl ?_))
       · as_aux_lemma => kernel_rfl
       refine ENDOPS (NEXT (RET (PASS trivial (FIN (.tuple #[.agg #[vi 0, vi 0, vi 0, vi 0, vi 0, vi 0], .bool false]) ?_ () ?_ [] ?_))))
       · as_aux_lemma => kernel_rfl
       · (have e0 := at5_pad hv2 (by omega) (by decide) (hv0 ▸ hx56); have e1 := at5_pad hv2 (by omega) (by decide) (hv0 ▸ hx59); have hz := readI_of (line := line) (l := done) (w := x24) (q := (⟨3, 0, x55, 0, x58, 0⟩ : Req)) (by omega) (by rw [hv1]; simp [readArgs]) hx25 (by rw [iReq, if_neg h27, if_neg h46, if_pos h53]; rw [← e0, ← e1]); simp only [RV]; rw [hz]; simp only [optReq]; first | (rw [if_pos ⟨by assumption, by assumption⟩]; rfl) | (rw [if_neg (fun e => (by first | exact absurd e.2 (by assumption) | (have h1 := e.1; exact absurd h1 (by simp only [Bool.not_eq_true]; assumption))))]; rfl))
       · rfl
      ·
       have h60 := bh60
       have h60 := notF h60
       refine RUN0 1 [5, 6, 7, 8] [(0, .v (.string (bs line))), (2, .p 0 0), (10, .p 1 0), (101, B false), (102, .v (.agg #[vi 3, vi 0, vi x55, vi 0, vi x58, vi 0]))] ?_ rfl ?_
       · as_aux_lemma => kernel_rfl
       refine OPC (CALL 11 #[.agg #[vi 3, vi 0, vi x55, vi 0, vi x58, vi 0]] (some 103) ?_ [] [] _ rfl (RV (.string (bs (reqLine (⟨3, 0, x55, 0, x58, 0⟩ : Req))))) (fun w hw => iReqLine_c w (⟨3, 0, x55, 0, x58, 0⟩ : Req) (htab.fr hw.fr)) (NO rfl) ?_)
       · as_aux_lemma => kernel_rfl
       rintro ⟨⟩
       have hr61 := reqLine_len (⟨3, 0, x55, 0, x58, 0⟩ : Req)
       refine RUN0 1 [7, 8] [(2, .p 0 0), (10, .p 1 0), (101, B false), (103, .v (.string (bs (reqLine (⟨3, 0, x55, 0, x58, 0⟩ : Req))))), (104, .v (.string (bs line)))] ?_ rfl ?_
       · as_aux_lemma => kernel_rfl
       refine OPC (RUNV (.binOp .neq 9 (.tmp 103) (.tmp 104) 9) 105 4 ?_ (NL rfl) (.bool (!((reqLine (⟨3, 0, x55, 0, x58, 0⟩ : Req)) == line))) (runs_sneq (a := reqLine (⟨3, 0, x55, 0, x58, 0⟩ : Req)) (b := line) ?_ ?_) ?_)
       iterate 3 (as_aux_lemma => kernel_rfl)
       refine RUN0 1 [] [(2, .p 0 0), (10, .p 1 0), (106, B (!((reqLine (⟨3, 0, x55, 0, x58, 0⟩ : Req)) == line)))] ?_ rfl ?_
       · as_aux_lemma => kernel_rfl
       refine ENDOPS (NEXT (IF (!((reqLine (⟨3, 0, x55, 0, x58, 0⟩ : Req)) == line)) ?_ (fun bh62 => ?_) (fun bh62 => ?_)))
       · as_aux_lemma => kernel_rfl
       ·
        have h62 := bh62
        have h62 := notT h62
        have h62 := ne_of_beq_false h62
        refine SEQ (REGION [0, 1, 2] rfl (RUN0 3 [] [(2, .p 0 0), (3, B false)] ?_ rfl ?_))
        · as_aux_lemma => kernel_rfl
        refine ENDOPS (NEXT (RET (PASS trivial (FIN (.tuple #[.agg #[vi 0, vi 0, vi 0, vi 0, vi 0, vi 0], .bool false]) ?_ () ?_ [] ?_))))
        · as_aux_lemma => kernel_rfl
        · (have e0 := at5_pad hv2 (by omega) (by decide) (hv0 ▸ hx56); have e1 := at5_pad hv2 (by omega) (by decide) (hv0 ▸ hx59); have hz := readI_of (line := line) (l := done) (w := x24) (q := (⟨3, 0, x55, 0, x58, 0⟩ : Req)) (by omega) (by rw [hv1]; simp [readArgs]) hx25 (by rw [iReq, if_neg h27, if_neg h46, if_pos h53]; rw [← e0, ← e1]); simp only [RV]; rw [hz]; simp only [optReq]; first | (rw [if_pos ⟨by assumption, by assumption⟩]; rfl) | (rw [if_neg (fun e => (by first | exact absurd e.2 (by assumption) | (have h1 := e.1; exact absurd h1 (by simp only [Bool.not_eq_true]; assumption))))]; rfl))
        · rfl
       ·
        have h62 := bh62
        have h62 := notF h62
        have h62 := eq_of_beq h62
        refine SKIP (NEXT (SEQ (REGION [0, 1, 2] rfl (RUN 3 [] [(2, .p 0 0), (3, B true)] [(30, [vi 3, vi 0, vi x55, vi 0, vi x58, vi 0]), (30, [vi 3, vi 0, vi x55, vi 0, vi x58, vi 0])] ?_ rfl ?_))))
        · as_aux_lemma => kernel_rfl
        refine ENDOPS (NEXT (RET (FIN (.tuple #[.agg #[vi 3, vi 0, vi x55, vi 0, vi x58, vi 0], .bool true]) ?_ () ?_ [] ?_)))
        · as_aux_lemma => kernel_rfl
        · (have e0 := at5_pad hv2 (by omega) (by decide) (hv0 ▸ hx56); have e1 := at5_pad hv2 (by omega) (by decide) (hv0 ▸ hx59); have hz := readI_of (line := line) (l := done) (w := x24) (q := (⟨3, 0, x55, 0, x58, 0⟩ : Req)) (by omega) (by rw [hv1]; simp [readArgs]) hx25 (by rw [iReq, if_neg h27, if_neg h46, if_pos h53]; rw [← e0, ← e1]); simp only [RV]; rw [hz]; simp only [optReq]; first | (rw [if_pos ⟨by assumption, by assumption⟩]; rfl) | (rw [if_neg (fun e => (by first | exact absurd e.2 (by assumption) | (have h1 := e.1; exact absurd h1 (by simp only [Bool.not_eq_true]; assumption))))]; rfl))
        · rfl
     ·
      have h53 := bh53
      have h53 := ne_of_beq_false h53
      refine SEQ (REGION [0, 1] rfl (OPC (RUNV (.binOp .eql 9 (.tmp 43) (.const (.string (bs ([97, 99, 99, 101, 112, 116])))) 9) 78 4 ?_ (NL rfl) (.bool (x24 == ([97, 99, 99, 101, 112, 116]))) (runs_seql (a := x24) (b := [97, 99, 99, 101, 112, 116]) ?_ ?_) ?_)))
      iterate 3 (as_aux_lemma => kernel_rfl)
      refine RUN0 1 [] [(0, .v (.string (bs line))), (2, .p 0 0), (5, .v (.slice a5 5 5)), (10, .p 1 0), (43, .v (.string (bs x24))), (77, B (x24 == ([97, 99, 99, 101, 112, 116])))] ?_ rfl ?_
      · as_aux_lemma => kernel_rfl
      refine ENDOPS (NEXT (IF (x24 == ([97, 99, 99, 101, 112, 116])) ?_ (fun bh63 => ?_) (fun bh63 => ?_)))
      · as_aux_lemma => kernel_rfl
      ·
       have h63 := bh63
       have h63 := eq_of_beq h63
       refine REGION [0, 1, 2, 3, 4] rfl (RUN0 1 [1, 2, 3, 4] [(0, .v (.string (bs line))), (2, .p 0 0), (10, .p 1 0), (79, .v (.slice a5 5 5))] ?_ rfl ?_)
       · as_aux_lemma => kernel_rfl
       refine FACT (5 = ar.length) (fun w hw => (SlO.lenE (hw.own 1 rfl)).1) (fun hln64 => ?_)
       obtain ⟨x65, hx66⟩ : ∃ y, ar[0]? = some y := ⟨_, List.getElem?_eq_getElem (by omega)⟩
       refine OPC (INDEX 42 (.tmp 79) (.const (vi 0)) 80 0 ?_ (NL rfl) a5 5 5 .i64 0 3 1 ?_ ?_ ?_ ?_ ha6 (by omega) (by omega) ?_)
       iterate 5 (as_aux_lemma => kernel_rfl)
       refine OPC (LOADE 3 (.tmp 80) 81 3 ?_ (NL rfl) a5 (0 * 1) 0 [vi x65] (vi x65) ?_ (fun w hw => (hw.rdO 1 rfl).flat hx66) ?_ ?_)
       iterate 3 (as_aux_lemma => kernel_rfl)
       refine RUN 2 [] [(0, .v (.string (bs line))), (2, .p 0 0), (10, .p 1 0)] [(30, [vi 0, vi 0, vi 0, vi 0, vi 0, vi 0]), (30, [vi 4, vi x65, vi 0, vi 0, vi 0, vi 0])] ?_ rfl ?_
       · as_aux_lemma => kernel_rfl
       refine ENDOPS (OUTN (NEXT (SEQ (SEQ (REGION [0, 1, 2, 3, 4, 5, 6, 7, 8] rfl (RUN0 1 [1, 2, 3, 4, 5, 6, 7, 8] [(0, .v (.string (bs line))), (2, .p 0 0), (10, .p 1 0), (98, .v (.agg #[vi 4, vi x65, vi 0, vi 0, vi 0, vi 0]))] ?_ rfl ?_))))))
       · as_aux_lemma => kernel_rfl
       refine OPC (CALL 21 #[.agg #[vi 4, vi x65, vi 0, vi 0, vi 0, vi 0]] (some 99) ?_ [] [] _ rfl (RV (.bool (reqOk (⟨4, x65, 0, 0, 0, 0⟩ : Req)))) (fun w hw => iReqOk_c w (⟨4, x65, 0, 0, 0, 0⟩ : Req)) (NO rfl) ?_)
       · as_aux_lemma => kernel_rfl
       rintro ⟨⟩
       refine RUN0 2 [4, 5, 6, 7, 8] [(0, .v (.string (bs line))), (2, .p 0 0), (10, .p 1 0), (101, B (!(reqOk (⟨4, x65, 0, 0, 0, 0⟩ : Req))))] ?_ rfl ?_
       · as_aux_lemma => kernel_rfl
       refine SPLIT (d := 101) (!(reqOk (⟨4, x65, 0, 0, 0, 0⟩ : Req))) ?_ (fun bh67 => ?_) (fun bh67 => ?_)
       · as_aux_lemma => kernel_rfl
       ·
        have h67 := bh67
        have h67 := notT h67
        refine RUN0 5 [] [(2, .p 0 0), (10, .p 1 0), (106, B true)] ?_ rfl ?_
        · as_aux_lemma => kernel_rfl
        refine ENDOPS (NEXT (IFT ?_ ?_))
        · as_aux_lemma => kernel_rfl
        refine SEQ (REGION [0, 1, 2] rfl (RUN0 3 [] [(2, .p 0 0), (3, B false)] ?_ rfl ?_))
        · as_aux_lemma => kernel_rfl
        refine ENDOPS (NEXT (RET (PASS trivial (FIN (.tuple #[.agg #[vi 0, vi 0, vi 0, vi 0, vi 0, vi 0], .bool false]) ?_ () ?_ [] ?_))))
        · as_aux_lemma => kernel_rfl
        · (have e0 := at5_pad hv2 (by omega) (by decide) (hv0 ▸ hx66); have hz := readI_of (line := line) (l := done) (w := x24) (q := (⟨4, x65, 0, 0, 0, 0⟩ : Req)) (by omega) (by rw [hv1]; simp [readArgs]) hx25 (by rw [iReq, if_neg h27, if_neg h46, if_neg h53, if_pos h63]; rw [← e0]); simp only [RV]; rw [hz]; simp only [optReq]; first | (rw [if_pos ⟨by assumption, by assumption⟩]; rfl) | (rw [if_neg (fun e => (by first | exact absurd e.2 (by assumption) | (have h1 := e.1; exact absurd h1 (by simp only [Bool.not_eq_true]; assumption))))]; rfl))
        · rfl
       ·
        have h67 := bh67
        have h67 := notF h67
        refine RUN0 1 [5, 6, 7, 8] [(0, .v (.string (bs line))), (2, .p 0 0), (10, .p 1 0), (101, B false), (102, .v (.agg #[vi 4, vi x65, vi 0, vi 0, vi 0, vi 0]))] ?_ rfl ?_
        · as_aux_lemma => kernel_rfl
        refine OPC (CALL 11 #[.agg #[vi 4, vi x65, vi 0, vi 0, vi 0, vi 0]] (some 103) ?_ [] [] _ rfl (RV (.string (bs (reqLine (⟨4, x65, 0, 0, 0, 0⟩ : Req))))) (fun w hw => iReqLine_c w (⟨4, x65, 0, 0, 0, 0⟩ : Req) (htab.fr hw.fr)) (NO rfl) ?_)
        · as_aux_lemma => kernel_rfl
        rintro ⟨⟩
        have hr68 := reqLine_len (⟨4, x65, 0, 0, 0, 0⟩ : Req)
        refine RUN0 1 [7, 8] [(2, .p 0 0), (10, .p 1 0), (101, B false), (103, .v (.string (bs (reqLine (⟨4, x65, 0, 0, 0, 0⟩ : Req))))), (104, .v (.string (bs line)))] ?_ rfl ?_
        · as_aux_lemma => kernel_rfl
        refine OPC (RUNV (.binOp .neq 9 (.tmp 103) (.tmp 104) 9) 105 4 ?_ (NL rfl) (.bool (!((reqLine (⟨4, x65, 0, 0, 0, 0⟩ : Req)) == line))) (runs_sneq (a := reqLine (⟨4, x65, 0, 0, 0, 0⟩ : Req)) (b := line) ?_ ?_) ?_)
        iterate 3 (as_aux_lemma => kernel_rfl)
        refine RUN0 1 [] [(2, .p 0 0), (10, .p 1 0), (106, B (!((reqLine (⟨4, x65, 0, 0, 0, 0⟩ : Req)) == line)))] ?_ rfl ?_
        · as_aux_lemma => kernel_rfl
        refine ENDOPS (NEXT (IF (!((reqLine (⟨4, x65, 0, 0, 0, 0⟩ : Req)) == line)) ?_ (fun bh69 => ?_) (fun bh69 => ?_)))
        · as_aux_lemma => kernel_rfl
        ·
         have h69 := bh69
         have h69 := notT h69
         have h69 := ne_of_beq_false h69
         refine SEQ (REGION [0, 1, 2] rfl (RUN0 3 [] [(2, .p 0 0), (3, B false)] ?_ rfl ?_))
         · as_aux_lemma => kernel_rfl
         refine ENDOPS (NEXT (RET (PASS trivial (FIN (.tuple #[.agg #[vi 0, vi 0, vi 0, vi 0, vi 0, vi 0], .bool false]) ?_ () ?_ [] ?_))))
         · as_aux_lemma => kernel_rfl
         · (have e0 := at5_pad hv2 (by omega) (by decide) (hv0 ▸ hx66); have hz := readI_of (line := line) (l := done) (w := x24) (q := (⟨4, x65, 0, 0, 0, 0⟩ : Req)) (by omega) (by rw [hv1]; simp [readArgs]) hx25 (by rw [iReq, if_neg h27, if_neg h46, if_neg h53, if_pos h63]; rw [← e0]); simp only [RV]; rw [hz]; simp only [optReq]; first | (rw [if_pos ⟨by assumption, by assumption⟩]; rfl) | (rw [if_neg (fun e => (by first | exact absurd e.2 (by assumption) | (have h1 := e.1; exact absurd h1 (by simp only [Bool.not_eq_true]; assumption))))]; rfl))
         · rfl
        ·
         have h69 := bh69
         have h69 := notF h69
         have h69 := eq_of_beq h69
         refine SKIP (NEXT (SEQ (REGION [0, 1, 2] rfl (RUN 3 [] [(2, .p 0 0), (3, B true)] [(30, [vi 4, vi x65, vi 0, vi 0, vi 0, vi 0]), (30, [vi 4, vi x65, vi 0, vi 0, vi 0, vi 0])] ?_ rfl ?_))))
         · as_aux_lemma => kernel_rfl
         refine ENDOPS (NEXT (RET (FIN (.tuple #[.agg #[vi 4, vi x65, vi 0, vi 0, vi 0, vi 0], .bool true]) ?_ () ?_ [] ?_)))
         · as_aux_lemma => kernel_rfl
         · (have e0 := at5_pad hv2 (by omega) (by decide) (hv0 ▸ hx66); have hz := readI_of (line := line) (l := done) (w := x24) (q := (⟨4, x65, 0, 0, 0, 0⟩ : Req)) (by omega) (by rw [hv1]; simp [readArgs]) hx25 (by rw [iReq, if_neg h27, if_neg h46, if_neg h53, if_pos h63]; rw [← e0]); simp only [RV]; rw [hz]; simp only [optReq]; first | (rw [if_pos ⟨by assumption, by assumption⟩]; rfl) | (rw [if_neg (fun e => (by first | exact absurd e.2 (by assumption) | (have h1 := e.1; exact absurd h1 (by simp only [Bool.not_eq_true]; assumption))))]; rfl))
         · rfl
      ·
       have h63 := bh63
       have h63 := ne_of_beq_false h63
       refine SEQ (REGION [0, 1] rfl (OPC (RUNV (.binOp .eql 9 (.tmp 43) (.const (.string (bs ([100, 101, 99, 108, 105, 110, 101])))) 9) 84 4 ?_ (NL rfl) (.bool (x24 == ([100, 101, 99, 108, 105, 110, 101]))) (runs_seql (a := x24) (b := [100, 101, 99, 108, 105, 110, 101]) ?_ ?_) ?_)))
       iterate 3 (as_aux_lemma => kernel_rfl)
       refine RUN0 1 [] [(0, .v (.string (bs line))), (2, .p 0 0), (5, .v (.slice a5 5 5)), (10, .p 1 0), (43, .v (.string (bs x24))), (83, B (x24 == ([100, 101, 99, 108, 105, 110, 101])))] ?_ rfl ?_
       · as_aux_lemma => kernel_rfl
       refine ENDOPS (NEXT (IF (x24 == ([100, 101, 99, 108, 105, 110, 101])) ?_ (fun bh70 => ?_) (fun bh70 => ?_)))
       · as_aux_lemma => kernel_rfl
       ·
        have h70 := bh70
        have h70 := eq_of_beq h70
        refine REGION [0, 1, 2, 3, 4] rfl (RUN0 1 [1, 2, 3, 4] [(0, .v (.string (bs line))), (2, .p 0 0), (10, .p 1 0), (85, .v (.slice a5 5 5))] ?_ rfl ?_)
        · as_aux_lemma => kernel_rfl
        refine FACT (5 = ar.length) (fun w hw => (SlO.lenE (hw.own 1 rfl)).1) (fun hln71 => ?_)
        obtain ⟨x72, hx73⟩ : ∃ y, ar[0]? = some y := ⟨_, List.getElem?_eq_getElem (by omega)⟩
        refine OPC (INDEX 42 (.tmp 85) (.const (vi 0)) 86 0 ?_ (NL rfl) a5 5 5 .i64 0 3 1 ?_ ?_ ?_ ?_ ha6 (by omega) (by omega) ?_)
        iterate 5 (as_aux_lemma => kernel_rfl)
        refine OPC (LOADE 3 (.tmp 86) 87 3 ?_ (NL rfl) a5 (0 * 1) 0 [vi x72] (vi x72) ?_ (fun w hw => (hw.rdO 1 rfl).flat hx73) ?_ ?_)
        iterate 3 (as_aux_lemma => kernel_rfl)
        refine RUN 2 [] [(0, .v (.string (bs line))), (2, .p 0 0), (10, .p 1 0)] [(30, [vi 0, vi 0, vi 0, vi 0, vi 0, vi 0]), (30, [vi 5, vi x72, vi 0, vi 0, vi 0, vi 0])] ?_ rfl ?_
        · as_aux_lemma => kernel_rfl
        refine ENDOPS (OUTN (NEXT (SEQ (SEQ (REGION [0, 1, 2, 3, 4, 5, 6, 7, 8] rfl (RUN0 1 [1, 2, 3, 4, 5, 6, 7, 8] [(0, .v (.string (bs line))), (2, .p 0 0), (10, .p 1 0), (98, .v (.agg #[vi 5, vi x72, vi 0, vi 0, vi 0, vi 0]))] ?_ rfl ?_))))))
        · as_aux_lemma => kernel_rfl
        refine OPC (CALL 21 #[.agg #[vi 5, vi x72, vi 0, vi 0, vi 0, vi 0]] (some 99) ?_ [] [] _ rfl (RV (.bool (reqOk (⟨5, x72, 0, 0, 0, 0⟩ : Req)))) (fun w hw => iReqOk_c w (⟨5, x72, 0, 0, 0, 0⟩ : Req)) (NO rfl) ?_)
        · as_aux_lemma => kernel_rfl
        rintro ⟨⟩
        refine RUN0 2 [4, 5, 6, 7, 8] [(0, .v (.string (bs line))), (2, .p 0 0), (10, .p 1 0), (101, B (!(reqOk (⟨5, x72, 0, 0, 0, 0⟩ : Req))))] ?_ rfl ?_
        · as_aux_lemma => kernel_rfl
        refine SPLIT (d := 101) (!(reqOk (⟨5, x72, 0, 0, 0, 0⟩ : Req))) ?_ (fun bh74 => ?_) (fun bh74 => ?_)
        · as_aux_lemma => kernel_rfl
        ·
         have h74 := bh74
         have h74 := notT h74
         refine RUN0 5 [] [(2, .p 0 0), (10, .p 1 0), (106, B true)] ?_ rfl ?_
         · as_aux_lemma => kernel_rfl
         refine ENDOPS (NEXT (IFT ?_ ?_))
         · as_aux_lemma => kernel_rfl
         refine SEQ (REGION [0, 1, 2] rfl (RUN0 3 [] [(2, .p 0 0), (3, B false)] ?_ rfl ?_))
         · as_aux_lemma => kernel_rfl
         refine ENDOPS (NEXT (RET (PASS trivial (FIN (.tuple #[.agg #[vi 0, vi 0, vi 0, vi 0, vi 0, vi 0], .bool false]) ?_ () ?_ [] ?_))))
         · as_aux_lemma => kernel_rfl
         · (have e0 := at5_pad hv2 (by omega) (by decide) (hv0 ▸ hx73); have hz := readI_of (line := line) (l := done) (w := x24) (q := (⟨5, x72, 0, 0, 0, 0⟩ : Req)) (by omega) (by rw [hv1]; simp [readArgs]) hx25 (by rw [iReq, if_neg h27, if_neg h46, if_neg h53, if_neg h63, if_pos h70]; rw [← e0]); simp only [RV]; rw [hz]; simp only [optReq]; first | (rw [if_pos ⟨by assumption, by assumption⟩]; rfl) | (rw [if_neg (fun e => (by first | exact absurd e.2 (by assumption) | (have h1 := e.1; exact absurd h1 (by simp only [Bool.not_eq_true]; assumption))))]; rfl))
         · rfl
        ·
         have h74 := bh74
         have h74 := notF h74
         refine RUN0 1 [5, 6, 7, 8] [(0, .v (.string (bs line))), (2, .p 0 0), (10, .p 1 0), (101, B false), (102, .v (.agg #[vi 5, vi x72, vi 0, vi 0, vi 0, vi 0]))] ?_ rfl ?_
         · as_aux_lemma => kernel_rfl
         refine OPC (CALL 11 #[.agg #[vi 5, vi x72, vi 0, vi 0, vi 0, vi 0]] (some 103) ?_ [] [] _ rfl (RV (.string (bs (reqLine (⟨5, x72, 0, 0, 0, 0⟩ : Req))))) (fun w hw => iReqLine_c w (⟨5, x72, 0, 0, 0, 0⟩ : Req) (htab.fr hw.fr)) (NO rfl) ?_)
         · as_aux_lemma => kernel_rfl
         rintro ⟨⟩
         have hr75 := reqLine_len (⟨5, x72, 0, 0, 0, 0⟩ : Req)
         refine RUN0 1 [7, 8] [(2, .p 0 0), (10, .p 1 0), (101, B false), (103, .v (.string (bs (reqLine (⟨5, x72, 0, 0, 0, 0⟩ : Req))))), (104, .v (.string (bs line)))] ?_ rfl ?_
         · as_aux_lemma => kernel_rfl
         refine OPC (RUNV (.binOp .neq 9 (.tmp 103) (.tmp 104) 9) 105 4 ?_ (NL rfl) (.bool (!((reqLine (⟨5, x72, 0, 0, 0, 0⟩ : Req)) == line))) (runs_sneq (a := reqLine (⟨5, x72, 0, 0, 0, 0⟩ : Req)) (b := line) ?_ ?_) ?_)
         iterate 3 (as_aux_lemma => kernel_rfl)
         refine RUN0 1 [] [(2, .p 0 0), (10, .p 1 0), (106, B (!((reqLine (⟨5, x72, 0, 0, 0, 0⟩ : Req)) == line)))] ?_ rfl ?_
         · as_aux_lemma => kernel_rfl
         refine ENDOPS (NEXT (IF (!((reqLine (⟨5, x72, 0, 0, 0, 0⟩ : Req)) == line)) ?_ (fun bh76 => ?_) (fun bh76 => ?_)))
         · as_aux_lemma => kernel_rfl
         ·
          have h76 := bh76
          have h76 := notT h76
          have h76 := ne_of_beq_false h76
          refine SEQ (REGION [0, 1, 2] rfl (RUN0 3 [] [(2, .p 0 0), (3, B false)] ?_ rfl ?_))
          · as_aux_lemma => kernel_rfl
          refine ENDOPS (NEXT (RET (PASS trivial (FIN (.tuple #[.agg #[vi 0, vi 0, vi 0, vi 0, vi 0, vi 0], .bool false]) ?_ () ?_ [] ?_))))
          · as_aux_lemma => kernel_rfl
          · (have e0 := at5_pad hv2 (by omega) (by decide) (hv0 ▸ hx73); have hz := readI_of (line := line) (l := done) (w := x24) (q := (⟨5, x72, 0, 0, 0, 0⟩ : Req)) (by omega) (by rw [hv1]; simp [readArgs]) hx25 (by rw [iReq, if_neg h27, if_neg h46, if_neg h53, if_neg h63, if_pos h70]; rw [← e0]); simp only [RV]; rw [hz]; simp only [optReq]; first | (rw [if_pos ⟨by assumption, by assumption⟩]; rfl) | (rw [if_neg (fun e => (by first | exact absurd e.2 (by assumption) | (have h1 := e.1; exact absurd h1 (by simp only [Bool.not_eq_true]; assumption))))]; rfl))
          · rfl
         ·
          have h76 := bh76
          have h76 := notF h76
          have h76 := eq_of_beq h76
          refine SKIP (NEXT (SEQ (REGION [0, 1, 2] rfl (RUN 3 [] [(2, .p 0 0), (3, B true)] [(30, [vi 5, vi x72, vi 0, vi 0, vi 0, vi 0]), (30, [vi 5, vi x72, vi 0, vi 0, vi 0, vi 0])] ?_ rfl ?_))))
          · as_aux_lemma => kernel_rfl
          refine ENDOPS (NEXT (RET (FIN (.tuple #[.agg #[vi 5, vi x72, vi 0, vi 0, vi 0, vi 0], .bool true]) ?_ () ?_ [] ?_)))
          · as_aux_lemma => kernel_rfl
          · (have e0 := at5_pad hv2 (by omega) (by decide) (hv0 ▸ hx73); have hz := readI_of (line := line) (l := done) (w := x24) (q := (⟨5, x72, 0, 0, 0, 0⟩ : Req)) (by omega) (by rw [hv1]; simp [readArgs]) hx25 (by rw [iReq, if_neg h27, if_neg h46, if_neg h53, if_neg h63, if_pos h70]; rw [← e0]); simp only [RV]; rw [hz]; simp only [optReq]; first | (rw [if_pos ⟨by assumption, by assumption⟩]; rfl) | (rw [if_neg (fun e => (by first | exact absurd e.2 (by assumption) | (have h1 := e.1; exact absurd h1 (by simp only [Bool.not_eq_true]; assumption))))]; rfl))
          · rfl
       ·
        have h70 := bh70
        have h70 := ne_of_beq_false h70
        refine SEQ (REGION [0, 1] rfl (OPC (RUNV (.binOp .eql 9 (.tmp 43) (.const (.string (bs ([116, 105, 99, 107])))) 9) 90 4 ?_ (NL rfl) (.bool (x24 == ([116, 105, 99, 107]))) (runs_seql (a := x24) (b := [116, 105, 99, 107]) ?_ ?_) ?_)))
        iterate 3 (as_aux_lemma => kernel_rfl)
        refine RUN0 1 [] [(0, .v (.string (bs line))), (2, .p 0 0), (5, .v (.slice a5 5 5)), (10, .p 1 0), (43, .v (.string (bs x24))), (89, B (x24 == ([116, 105, 99, 107])))] ?_ rfl ?_
        · as_aux_lemma => kernel_rfl
        refine ENDOPS (NEXT (IF (x24 == ([116, 105, 99, 107])) ?_ (fun bh77 => ?_) (fun bh77 => ?_)))
        · as_aux_lemma => kernel_rfl
        ·
         have h77 := bh77
         have h77 := eq_of_beq h77
         refine REGION [0, 1] rfl (RUN 2 [] [(0, .v (.string (bs line))), (2, .p 0 0), (10, .p 1 0)] [(30, [vi 0, vi 0, vi 0, vi 0, vi 0, vi 0]), (30, [vi 6, vi 0, vi 0, vi 0, vi 0, vi 0])] ?_ rfl ?_)
         · as_aux_lemma => kernel_rfl
         refine ENDOPS (OUTN (NEXT (SEQ (SEQ (REGION [0, 1, 2, 3, 4, 5, 6, 7, 8] rfl (RUN0 1 [1, 2, 3, 4, 5, 6, 7, 8] [(0, .v (.string (bs line))), (2, .p 0 0), (10, .p 1 0), (98, .v (.agg #[vi 6, vi 0, vi 0, vi 0, vi 0, vi 0]))] ?_ rfl ?_))))))
         · as_aux_lemma => kernel_rfl
         refine OPC (CALL 21 #[.agg #[vi 6, vi 0, vi 0, vi 0, vi 0, vi 0]] (some 99) ?_ [] [] _ rfl (RV (.bool (reqOk (⟨6, 0, 0, 0, 0, 0⟩ : Req)))) (fun w hw => iReqOk_c w (⟨6, 0, 0, 0, 0, 0⟩ : Req)) (NO rfl) ?_)
         · as_aux_lemma => kernel_rfl
         rintro ⟨⟩
         refine RUN0 2 [4, 5, 6, 7, 8] [(0, .v (.string (bs line))), (2, .p 0 0), (10, .p 1 0), (101, B (!(reqOk (⟨6, 0, 0, 0, 0, 0⟩ : Req))))] ?_ rfl ?_
         · as_aux_lemma => kernel_rfl
         refine SPLIT (d := 101) (!(reqOk (⟨6, 0, 0, 0, 0, 0⟩ : Req))) ?_ (fun bh78 => ?_) (fun bh78 => ?_)
         · as_aux_lemma => kernel_rfl
         ·
          have h78 := bh78
          have h78 := notT h78
          refine RUN0 5 [] [(2, .p 0 0), (10, .p 1 0), (106, B true)] ?_ rfl ?_
          · as_aux_lemma => kernel_rfl
          refine ENDOPS (NEXT (IFT ?_ ?_))
          · as_aux_lemma => kernel_rfl
          refine SEQ (REGION [0, 1, 2] rfl (RUN0 3 [] [(2, .p 0 0), (3, B false)] ?_ rfl ?_))
          · as_aux_lemma => kernel_rfl
          refine ENDOPS (NEXT (RET (PASS trivial (FIN (.tuple #[.agg #[vi 0, vi 0, vi 0, vi 0, vi 0, vi 0], .bool false]) ?_ () ?_ [] ?_))))
          · as_aux_lemma => kernel_rfl
          · (have hz := readI_of (line := line) (l := done) (w := x24) (q := (⟨6, 0, 0, 0, 0, 0⟩ : Req)) (by omega) (by rw [hv1]; simp [readArgs]) hx25 (by rw [iReq, if_neg h27, if_neg h46, if_neg h53, if_neg h63, if_neg h70, if_pos h77]); simp only [RV]; rw [hz]; simp only [optReq]; first | (rw [if_pos ⟨by assumption, by assumption⟩]; rfl) | (rw [if_neg (fun e => (by first | exact absurd e.2 (by assumption) | (have h1 := e.1; exact absurd h1 (by simp only [Bool.not_eq_true]; assumption))))]; rfl))
          · rfl
         ·
          have h78 := bh78
          have h78 := notF h78
          refine RUN0 1 [5, 6, 7, 8] [(0, .v (.string (bs line))), (2, .p 0 0), (10, .p 1 0), (101, B false), (102, .v (.agg #[vi 6, vi 0, vi 0, vi 0, vi 0, vi 0]))] ?_ rfl ?_
          · as_aux_lemma => kernel_rfl
          refine OPC (CALL 11 #[.agg #[vi 6, vi 0, vi 0, vi 0, vi 0, vi 0]] (some 103) ?_ [] [] _ rfl (RV (.string (bs (reqLine (⟨6, 0, 0, 0, 0, 0⟩ : Req))))) (fun w hw => iReqLine_c w (⟨6, 0, 0, 0, 0, 0⟩ : Req) (htab.fr hw.fr)) (NO rfl) ?_)
          · as_aux_lemma => kernel_rfl
          rintro ⟨⟩
          have hr79 := reqLine_len (⟨6, 0, 0, 0, 0, 0⟩ : Req)
          refine RUN0 1 [7, 8] [(2, .p 0 0), (10, .p 1 0), (101, B false), (103, .v (.string (bs (reqLine (⟨6, 0, 0, 0, 0, 0⟩ : Req))))), (104, .v (.string (bs line)))] ?_ rfl ?_
          · as_aux_lemma => kernel_rfl
          refine OPC (RUNV (.binOp .neq 9 (.tmp 103) (.tmp 104) 9) 105 4 ?_ (NL rfl) (.bool (!((reqLine (⟨6, 0, 0, 0, 0, 0⟩ : Req)) == line))) (runs_sneq (a := reqLine (⟨6, 0, 0, 0, 0, 0⟩ : Req)) (b := line) ?_ ?_) ?_)
          iterate 3 (as_aux_lemma => kernel_rfl)
          refine RUN0 1 [] [(2, .p 0 0), (10, .p 1 0), (106, B (!((reqLine (⟨6, 0, 0, 0, 0, 0⟩ : Req)) == line)))] ?_ rfl ?_
          · as_aux_lemma => kernel_rfl
          refine ENDOPS (NEXT (IF (!((reqLine (⟨6, 0, 0, 0, 0, 0⟩ : Req)) == line)) ?_ (fun bh80 => ?_) (fun bh80 => ?_)))
          · as_aux_lemma => kernel_rfl
          ·
           have h80 := bh80
           have h80 := notT h80
           have h80 := ne_of_beq_false h80
           refine SEQ (REGION [0, 1, 2] rfl (RUN0 3 [] [(2, .p 0 0), (3, B false)] ?_ rfl ?_))
           · as_aux_lemma => kernel_rfl
           refine ENDOPS (NEXT (RET (PASS trivial (FIN (.tuple #[.agg #[vi 0, vi 0, vi 0, vi 0, vi 0, vi 0], .bool false]) ?_ () ?_ [] ?_))))
           · as_aux_lemma => kernel_rfl
           · (have hz := readI_of (line := line) (l := done) (w := x24) (q := (⟨6, 0, 0, 0, 0, 0⟩ : Req)) (by omega) (by rw [hv1]; simp [readArgs]) hx25 (by rw [iReq, if_neg h27, if_neg h46, if_neg h53, if_neg h63, if_neg h70, if_pos h77]); simp only [RV]; rw [hz]; simp only [optReq]; first | (rw [if_pos ⟨by assumption, by assumption⟩]; rfl) | (rw [if_neg (fun e => (by first | exact absurd e.2 (by assumption) | (have h1 := e.1; exact absurd h1 (by simp only [Bool.not_eq_true]; assumption))))]; rfl))
           · rfl
          ·
           have h80 := bh80
           have h80 := notF h80
           have h80 := eq_of_beq h80
           refine SKIP (NEXT (SEQ (REGION [0, 1, 2] rfl (RUN 3 [] [(2, .p 0 0), (3, B true)] [(30, [vi 6, vi 0, vi 0, vi 0, vi 0, vi 0]), (30, [vi 6, vi 0, vi 0, vi 0, vi 0, vi 0])] ?_ rfl ?_))))
           · as_aux_lemma => kernel_rfl
           refine ENDOPS (NEXT (RET (FIN (.tuple #[.agg #[vi 6, vi 0, vi 0, vi 0, vi 0, vi 0], .bool true]) ?_ () ?_ [] ?_)))
           · as_aux_lemma => kernel_rfl
           · (have hz := readI_of (line := line) (l := done) (w := x24) (q := (⟨6, 0, 0, 0, 0, 0⟩ : Req)) (by omega) (by rw [hv1]; simp [readArgs]) hx25 (by rw [iReq, if_neg h27, if_neg h46, if_neg h53, if_neg h63, if_neg h70, if_pos h77]); simp only [RV]; rw [hz]; simp only [optReq]; first | (rw [if_pos ⟨by assumption, by assumption⟩]; rfl) | (rw [if_neg (fun e => (by first | exact absurd e.2 (by assumption) | (have h1 := e.1; exact absurd h1 (by simp only [Bool.not_eq_true]; assumption))))]; rfl))
           · rfl
        ·
         have h77 := bh77
         have h77 := ne_of_beq_false h77
         refine SEQ (REGION [0, 1] rfl (OPC (RUNV (.binOp .eql 9 (.tmp 43) (.const (.string (bs ([112, 105, 99, 107])))) 9) 93 4 ?_ (NL rfl) (.bool (x24 == ([112, 105, 99, 107]))) (runs_seql (a := x24) (b := [112, 105, 99, 107]) ?_ ?_) ?_)))
         iterate 3 (as_aux_lemma => kernel_rfl)
         refine RUN0 1 [] [(0, .v (.string (bs line))), (2, .p 0 0), (5, .v (.slice a5 5 5)), (10, .p 1 0), (92, B (x24 == ([112, 105, 99, 107])))] ?_ rfl ?_
         · as_aux_lemma => kernel_rfl
         refine ENDOPS (NEXT (IF (x24 == ([112, 105, 99, 107])) ?_ (fun bh81 => ?_) (fun bh81 => ?_)))
         · as_aux_lemma => kernel_rfl
         ·
          have h81 := bh81
          have h81 := eq_of_beq h81
          refine REGION [0, 1, 2, 3, 4] rfl (RUN0 1 [1, 2, 3, 4] [(0, .v (.string (bs line))), (2, .p 0 0), (10, .p 1 0), (94, .v (.slice a5 5 5))] ?_ rfl ?_)
          · as_aux_lemma => kernel_rfl
          refine FACT (5 = ar.length) (fun w hw => (SlO.lenE (hw.own 1 rfl)).1) (fun hln82 => ?_)
          obtain ⟨x83, hx84⟩ : ∃ y, ar[0]? = some y := ⟨_, List.getElem?_eq_getElem (by omega)⟩
          refine OPC (INDEX 42 (.tmp 94) (.const (vi 0)) 95 0 ?_ (NL rfl) a5 5 5 .i64 0 3 1 ?_ ?_ ?_ ?_ ha6 (by omega) (by omega) ?_)
          iterate 5 (as_aux_lemma => kernel_rfl)
          refine OPC (LOADE 3 (.tmp 95) 96 3 ?_ (NL rfl) a5 (0 * 1) 0 [vi x83] (vi x83) ?_ (fun w hw => (hw.rdO 1 rfl).flat hx84) ?_ ?_)
          iterate 3 (as_aux_lemma => kernel_rfl)
          refine RUN 2 [] [(0, .v (.string (bs line))), (2, .p 0 0), (10, .p 1 0)] [(30, [vi 0, vi 0, vi 0, vi 0, vi 0, vi 0]), (30, [vi 7, vi x83, vi 0, vi 0, vi 0, vi 0])] ?_ rfl ?_
          · as_aux_lemma => kernel_rfl
          refine ENDOPS (OUTN (NEXT (SEQ (SEQ (REGION [0, 1, 2, 3, 4, 5, 6, 7, 8] rfl (RUN0 1 [1, 2, 3, 4, 5, 6, 7, 8] [(0, .v (.string (bs line))), (2, .p 0 0), (10, .p 1 0), (98, .v (.agg #[vi 7, vi x83, vi 0, vi 0, vi 0, vi 0]))] ?_ rfl ?_))))))
          · as_aux_lemma => kernel_rfl
          refine OPC (CALL 21 #[.agg #[vi 7, vi x83, vi 0, vi 0, vi 0, vi 0]] (some 99) ?_ [] [] _ rfl (RV (.bool (reqOk (⟨7, x83, 0, 0, 0, 0⟩ : Req)))) (fun w hw => iReqOk_c w (⟨7, x83, 0, 0, 0, 0⟩ : Req)) (NO rfl) ?_)
          · as_aux_lemma => kernel_rfl
          rintro ⟨⟩
          refine RUN0 2 [4, 5, 6, 7, 8] [(0, .v (.string (bs line))), (2, .p 0 0), (10, .p 1 0), (101, B (!(reqOk (⟨7, x83, 0, 0, 0, 0⟩ : Req))))] ?_ rfl ?_
          · as_aux_lemma => kernel_rfl
          refine SPLIT (d := 101) (!(reqOk (⟨7, x83, 0, 0, 0, 0⟩ : Req))) ?_ (fun bh85 => ?_) (fun bh85 => ?_)
          · as_aux_lemma => kernel_rfl
          ·
           have h85 := bh85
           have h85 := notT h85
           refine RUN0 5 [] [(2, .p 0 0), (10, .p 1 0), (106, B true)] ?_ rfl ?_
           · as_aux_lemma => kernel_rfl
           refine ENDOPS (NEXT (IFT ?_ ?_))
           · as_aux_lemma => kernel_rfl
           refine SEQ (REGION [0, 1, 2] rfl (RUN0 3 [] [(2, .p 0 0), (3, B false)] ?_ rfl ?_))
           · as_aux_lemma => kernel_rfl
           refine ENDOPS (NEXT (RET (PASS trivial (FIN (.tuple #[.agg #[vi 0, vi 0, vi 0, vi 0, vi 0, vi 0], .bool false]) ?_ () ?_ [] ?_))))
           · as_aux_lemma => kernel_rfl
           · (have e0 := at5_pad hv2 (by omega) (by decide) (hv0 ▸ hx84); have hz := readI_of (line := line) (l := done) (w := x24) (q := (⟨7, x83, 0, 0, 0, 0⟩ : Req)) (by omega) (by rw [hv1]; simp [readArgs]) hx25 (by rw [iReq, if_neg h27, if_neg h46, if_neg h53, if_neg h63, if_neg h70, if_neg h77, if_pos h81]; rw [← e0]); simp only [RV]; rw [hz]; simp only [optReq]; first | (rw [if_pos ⟨by assumption, by assumption⟩]; rfl) | (rw [if_neg (fun e => (by first | exact absurd e.2 (by assumption) | (have h1 := e.1; exact absurd h1 (by simp only [Bool.not_eq_true]; assumption))))]; rfl))
           · rfl
          ·
           have h85 := bh85
           have h85 := notF h85
           refine RUN0 1 [5, 6, 7, 8] [(0, .v (.string (bs line))), (2, .p 0 0), (10, .p 1 0), (101, B false), (102, .v (.agg #[vi 7, vi x83, vi 0, vi 0, vi 0, vi 0]))] ?_ rfl ?_
           · as_aux_lemma => kernel_rfl
           refine OPC (CALL 11 #[.agg #[vi 7, vi x83, vi 0, vi 0, vi 0, vi 0]] (some 103) ?_ [] [] _ rfl (RV (.string (bs (reqLine (⟨7, x83, 0, 0, 0, 0⟩ : Req))))) (fun w hw => iReqLine_c w (⟨7, x83, 0, 0, 0, 0⟩ : Req) (htab.fr hw.fr)) (NO rfl) ?_)
           · as_aux_lemma => kernel_rfl
           rintro ⟨⟩
           have hr86 := reqLine_len (⟨7, x83, 0, 0, 0, 0⟩ : Req)
           refine RUN0 1 [7, 8] [(2, .p 0 0), (10, .p 1 0), (101, B false), (103, .v (.string (bs (reqLine (⟨7, x83, 0, 0, 0, 0⟩ : Req))))), (104, .v (.string (bs line)))] ?_ rfl ?_
           · as_aux_lemma => kernel_rfl
           refine OPC (RUNV (.binOp .neq 9 (.tmp 103) (.tmp 104) 9) 105 4 ?_ (NL rfl) (.bool (!((reqLine (⟨7, x83, 0, 0, 0, 0⟩ : Req)) == line))) (runs_sneq (a := reqLine (⟨7, x83, 0, 0, 0, 0⟩ : Req)) (b := line) ?_ ?_) ?_)
           iterate 3 (as_aux_lemma => kernel_rfl)
           refine RUN0 1 [] [(2, .p 0 0), (10, .p 1 0), (106, B (!((reqLine (⟨7, x83, 0, 0, 0, 0⟩ : Req)) == line)))] ?_ rfl ?_
           · as_aux_lemma => kernel_rfl
           refine ENDOPS (NEXT (IF (!((reqLine (⟨7, x83, 0, 0, 0, 0⟩ : Req)) == line)) ?_ (fun bh87 => ?_) (fun bh87 => ?_)))
           · as_aux_lemma => kernel_rfl
           ·
            have h87 := bh87
            have h87 := notT h87
            have h87 := ne_of_beq_false h87
            refine SEQ (REGION [0, 1, 2] rfl (RUN0 3 [] [(2, .p 0 0), (3, B false)] ?_ rfl ?_))
            · as_aux_lemma => kernel_rfl
            refine ENDOPS (NEXT (RET (PASS trivial (FIN (.tuple #[.agg #[vi 0, vi 0, vi 0, vi 0, vi 0, vi 0], .bool false]) ?_ () ?_ [] ?_))))
            · as_aux_lemma => kernel_rfl
            · (have e0 := at5_pad hv2 (by omega) (by decide) (hv0 ▸ hx84); have hz := readI_of (line := line) (l := done) (w := x24) (q := (⟨7, x83, 0, 0, 0, 0⟩ : Req)) (by omega) (by rw [hv1]; simp [readArgs]) hx25 (by rw [iReq, if_neg h27, if_neg h46, if_neg h53, if_neg h63, if_neg h70, if_neg h77, if_pos h81]; rw [← e0]); simp only [RV]; rw [hz]; simp only [optReq]; first | (rw [if_pos ⟨by assumption, by assumption⟩]; rfl) | (rw [if_neg (fun e => (by first | exact absurd e.2 (by assumption) | (have h1 := e.1; exact absurd h1 (by simp only [Bool.not_eq_true]; assumption))))]; rfl))
            · rfl
           ·
            have h87 := bh87
            have h87 := notF h87
            have h87 := eq_of_beq h87
            refine SKIP (NEXT (SEQ (REGION [0, 1, 2] rfl (RUN 3 [] [(2, .p 0 0), (3, B true)] [(30, [vi 7, vi x83, vi 0, vi 0, vi 0, vi 0]), (30, [vi 7, vi x83, vi 0, vi 0, vi 0, vi 0])] ?_ rfl ?_))))
            · as_aux_lemma => kernel_rfl
            refine ENDOPS (NEXT (RET (FIN (.tuple #[.agg #[vi 7, vi x83, vi 0, vi 0, vi 0, vi 0], .bool true]) ?_ () ?_ [] ?_)))
            · as_aux_lemma => kernel_rfl
            · (have e0 := at5_pad hv2 (by omega) (by decide) (hv0 ▸ hx84); have hz := readI_of (line := line) (l := done) (w := x24) (q := (⟨7, x83, 0, 0, 0, 0⟩ : Req)) (by omega) (by rw [hv1]; simp [readArgs]) hx25 (by rw [iReq, if_neg h27, if_neg h46, if_neg h53, if_neg h63, if_neg h70, if_neg h77, if_pos h81]; rw [← e0]); simp only [RV]; rw [hz]; simp only [optReq]; first | (rw [if_pos ⟨by assumption, by assumption⟩]; rfl) | (rw [if_neg (fun e => (by first | exact absurd e.2 (by assumption) | (have h1 := e.1; exact absurd h1 (by simp only [Bool.not_eq_true]; assumption))))]; rfl))
            · rfl
         ·
          have h81 := bh81
          have h81 := ne_of_beq_false h81
          refine SKIP (OUTN (NEXT (SEQ (SEQ (REGION [0, 1, 2, 3, 4, 5, 6, 7, 8] rfl (RUN0 1 [1, 2, 3, 4, 5, 6, 7, 8] [(0, .v (.string (bs line))), (2, .p 0 0), (10, .p 1 0), (98, .v (.agg #[vi 0, vi 0, vi 0, vi 0, vi 0, vi 0]))] ?_ rfl ?_))))))
          · as_aux_lemma => kernel_rfl
          refine OPC (CALL 21 #[.agg #[vi 0, vi 0, vi 0, vi 0, vi 0, vi 0]] (some 99) ?_ [] [] _ rfl (RV (.bool (reqOk (⟨0, 0, 0, 0, 0, 0⟩ : Req)))) (fun w hw => iReqOk_c w (⟨0, 0, 0, 0, 0, 0⟩ : Req)) (NO rfl) ?_)
          · as_aux_lemma => kernel_rfl
          rintro ⟨⟩
          refine RUN0 2 [4, 5, 6, 7, 8] [(0, .v (.string (bs line))), (2, .p 0 0), (10, .p 1 0), (101, B (!(reqOk (⟨0, 0, 0, 0, 0, 0⟩ : Req))))] ?_ rfl ?_
          · as_aux_lemma => kernel_rfl
          refine SPLIT (d := 101) (!(reqOk (⟨0, 0, 0, 0, 0, 0⟩ : Req))) ?_ (fun bh88 => ?_) (fun bh88 => ?_)
          · as_aux_lemma => kernel_rfl
          ·
           have h88 := bh88
           have h88 := notT h88
           refine RUN0 5 [] [(2, .p 0 0), (10, .p 1 0), (106, B true)] ?_ rfl ?_
           · as_aux_lemma => kernel_rfl
           refine ENDOPS (NEXT (IFT ?_ ?_))
           · as_aux_lemma => kernel_rfl
           refine SEQ (REGION [0, 1, 2] rfl (RUN0 3 [] [(2, .p 0 0), (3, B false)] ?_ rfl ?_))
           · as_aux_lemma => kernel_rfl
           refine ENDOPS (NEXT (RET (PASS trivial (FIN (.tuple #[.agg #[vi 0, vi 0, vi 0, vi 0, vi 0, vi 0], .bool false]) ?_ () ?_ [] ?_))))
           · as_aux_lemma => kernel_rfl
           · (have hz := readI_of (line := line) (l := done) (w := x24) (q := (⟨0, 0, 0, 0, 0, 0⟩ : Req)) (by omega) (by rw [hv1]; simp [readArgs]) hx25 (by rw [iReq, if_neg h27, if_neg h46, if_neg h53, if_neg h63, if_neg h70, if_neg h77, if_neg h81, noQ]); simp only [RV]; rw [hz]; simp only [optReq]; first | (rw [if_pos ⟨by assumption, by assumption⟩]; rfl) | (rw [if_neg (fun e => (by first | exact absurd e.2 (by assumption) | (have h1 := e.1; exact absurd h1 (by simp only [Bool.not_eq_true]; assumption))))]; rfl))
           · rfl
          ·
           have h88 := bh88
           have h88 := notF h88
           refine RUN0 1 [5, 6, 7, 8] [(0, .v (.string (bs line))), (2, .p 0 0), (10, .p 1 0), (101, B false), (102, .v (.agg #[vi 0, vi 0, vi 0, vi 0, vi 0, vi 0]))] ?_ rfl ?_
           · as_aux_lemma => kernel_rfl
           refine OPC (CALL 11 #[.agg #[vi 0, vi 0, vi 0, vi 0, vi 0, vi 0]] (some 103) ?_ [] [] _ rfl (RV (.string (bs (reqLine (⟨0, 0, 0, 0, 0, 0⟩ : Req))))) (fun w hw => iReqLine_c w (⟨0, 0, 0, 0, 0, 0⟩ : Req) (htab.fr hw.fr)) (NO rfl) ?_)
           · as_aux_lemma => kernel_rfl
           rintro ⟨⟩
           have hr89 := reqLine_len (⟨0, 0, 0, 0, 0, 0⟩ : Req)
           refine RUN0 1 [7, 8] [(2, .p 0 0), (10, .p 1 0), (101, B false), (103, .v (.string (bs (reqLine (⟨0, 0, 0, 0, 0, 0⟩ : Req))))), (104, .v (.string (bs line)))] ?_ rfl ?_
           · as_aux_lemma => kernel_rfl
           refine OPC (RUNV (.binOp .neq 9 (.tmp 103) (.tmp 104) 9) 105 4 ?_ (NL rfl) (.bool (!((reqLine (⟨0, 0, 0, 0, 0, 0⟩ : Req)) == line))) (runs_sneq (a := reqLine (⟨0, 0, 0, 0, 0, 0⟩ : Req)) (b := line) ?_ ?_) ?_)
           iterate 3 (as_aux_lemma => kernel_rfl)
           refine RUN0 1 [] [(2, .p 0 0), (10, .p 1 0), (106, B (!((reqLine (⟨0, 0, 0, 0, 0, 0⟩ : Req)) == line)))] ?_ rfl ?_
           · as_aux_lemma => kernel_rfl
           refine ENDOPS (NEXT (IF (!((reqLine (⟨0, 0, 0, 0, 0, 0⟩ : Req)) == line)) ?_ (fun bh90 => ?_) (fun bh90 => ?_)))
           · as_aux_lemma => kernel_rfl
           ·
            have h90 := bh90
            have h90 := notT h90
            have h90 := ne_of_beq_false h90
            refine SEQ (REGION [0, 1, 2] rfl (RUN0 3 [] [(2, .p 0 0), (3, B false)] ?_ rfl ?_))
            · as_aux_lemma => kernel_rfl
            refine ENDOPS (NEXT (RET (PASS trivial (FIN (.tuple #[.agg #[vi 0, vi 0, vi 0, vi 0, vi 0, vi 0], .bool false]) ?_ () ?_ [] ?_))))
            · as_aux_lemma => kernel_rfl
            · (have hz := readI_of (line := line) (l := done) (w := x24) (q := (⟨0, 0, 0, 0, 0, 0⟩ : Req)) (by omega) (by rw [hv1]; simp [readArgs]) hx25 (by rw [iReq, if_neg h27, if_neg h46, if_neg h53, if_neg h63, if_neg h70, if_neg h77, if_neg h81, noQ]); simp only [RV]; rw [hz]; simp only [optReq]; first | (rw [if_pos ⟨by assumption, by assumption⟩]; rfl) | (rw [if_neg (fun e => (by first | exact absurd e.2 (by assumption) | (have h1 := e.1; exact absurd h1 (by simp only [Bool.not_eq_true]; assumption))))]; rfl))
            · rfl
           ·
            have h90 := bh90
            have h90 := notF h90
            have h90 := eq_of_beq h90
            refine SKIP (NEXT (SEQ (REGION [0, 1, 2] rfl (RUN0 3 [] [(2, .p 0 0), (3, B true)] ?_ rfl ?_))))
            · as_aux_lemma => kernel_rfl
            refine ENDOPS (NEXT (RET (FIN (.tuple #[.agg #[vi 0, vi 0, vi 0, vi 0, vi 0, vi 0], .bool true]) ?_ () ?_ [] ?_)))
            · as_aux_lemma => kernel_rfl
            · (have hz := readI_of (line := line) (l := done) (w := x24) (q := (⟨0, 0, 0, 0, 0, 0⟩ : Req)) (by omega) (by rw [hv1]; simp [readArgs]) hx25 (by rw [iReq, if_neg h27, if_neg h46, if_neg h53, if_neg h63, if_neg h70, if_neg h77, if_neg h81, noQ]); simp only [RV]; rw [hz]; simp only [optReq]; first | (rw [if_pos ⟨by assumption, by assumption⟩]; rfl) | (rw [if_neg (fun e => (by first | exact absurd e.2 (by assumption) | (have h1 := e.1; exact absurd h1 (by simp only [Bool.not_eq_true]; assumption))))]; rfl))
            · rfl

theorem iReadScript_c (W : World) (s : List UInt8) (hl : s.length ≤ 1048576) (htab : Tab Tryz.prog W) (hmx : MaxL Tryz.prog W) : Spec Tryz.prog W [] 9 #[.string (bs s)] (⟨HH, fun p => .tuple #[.slice p.1 (((readScript s).1).length) p.2, vi ((readScript s).2)], fun p => [slA 30 reqL (.slice p.1 ((readScript s).1).length p.2) ((readScript s).1)]⟩) := by
 refine ENTER0 (N := 38) (vs := [.string (bs s)]) Tryz.func9 rfl rfl (NL rfl) ?_
 refine SEQ (REGION [0, 1] rfl (RUN0 2 [] [(0, .v (.string (bs s)))] ?_ rfl ?_))
 · as_aux_lemma => kernel_rfl
 refine ENDOPS (NEXT (SEQ (SEQ (REGION [0, 1] rfl (RUN0 1 [1] [(0, .v (.string (bs s))), (10, .v (.string (bs s)))] ?_ rfl ?_)))))
 · as_aux_lemma => kernel_rfl
 refine OPC (RUNV (.binOp .eql 9 (.tmp 10) (.const (.string (bs ([])))) 9) 11 4 ?_ (NL rfl) (.bool (s == ([]))) (runs_seql (a := s) (b := []) ?_ ?_) ?_)
 iterate 3 (as_aux_lemma => kernel_rfl)
 refine ENDOPS (NEXT (IF (s == ([])) ?_ (fun bh1 => ?_) (fun bh1 => ?_)))
 · as_aux_lemma => kernel_rfl
 ·
  have h1 := bh1
  have h1 := eq_of_beq h1
  refine SEQ (REGION [0, 1] rfl (RUN0 2 [] [(2, .v (.slice none 0 0)), (3, I (-1))] ?_ rfl ?_))
  · as_aux_lemma => kernel_rfl
  refine ENDOPS (NEXT (RET (PASS trivial (NIL 30 reqL ?_))))
  have efin : readScript s = ([], -1) := by first | exact readScript_nil (by assumption) | exact readScript_big (by assumption) (by omega) | (rw [readScript_of (by assumption) (by omega), hv0]; first | rfl | exact readGo_none (by assumption) | (rw [← read_eq] at *; exact readGo_none (by assumption)))
  refine FIN (.tuple #[.slice none 0 0, vi (-1)]) ?_ (none, 0) ?_ [0] ?_
  · as_aux_lemma => kernel_rfl
  · (rw [efin] <;> rfl)
  · (rw [efin] <;> rfl)
 ·
  have h1 := bh1
  have h1 := ne_of_beq_false h1
  refine SKIP (NEXT (SEQ (REGION [0, 1, 2] rfl (RUN0 1 [1, 2] [(12, .v (.string (bs s)))] ?_ rfl ?_))))
  · as_aux_lemma => kernel_rfl
  refine OPC (CALL 15 #[.string (bs s), .int .u8 10] (some 13) ?_ [] [] _ rfl (⟨HH, fun p => .slice p.1 ((parts s 10).length) p.2, fun p => [slA 9 strL (.slice p.1 (parts s 10).length p.2) (parts s 10)]⟩) (fun w hw => iParts_c w s 10 (by first | assumption | omega) (hmx.fr hw.fr)) (NO rfl) ?_)
  · as_aux_lemma => kernel_rfl
  rintro ⟨a2, c3⟩
  have hr4 := parts_len s 10
  refine RUN0 1 [] [(4, .v (.slice a2 ((parts s 10).length) c3))] ?_ rfl ?_
  · as_aux_lemma => kernel_rfl
  refine ENDOPS (NEXT (SEQ (SEQ (REGION [0, 1, 2] rfl (RUN0 3 [] [(4, .v (.slice a2 ((parts s 10).length) c3)), (16, B (decide ((((parts s 10).length : Nat) : Int) > 200)))] ?_ rfl ?_)))))
  · as_aux_lemma => kernel_rfl
  refine ENDOPS (NEXT (IF (decide ((((parts s 10).length : Nat) : Int) > 200)) ?_ (fun bh5 => ?_) (fun bh5 => ?_)))
  · as_aux_lemma => kernel_rfl
  ·
   have h5 := bh5
   have h5 := of_decide_eq_true h5
   refine SEQ (REGION [0, 1] rfl (RUN0 2 [] [(2, .v (.slice none 0 0)), (3, I 200)] ?_ rfl ?_))
   · as_aux_lemma => kernel_rfl
   refine ENDOPS (NEXT (RET (PASS trivial (NIL 30 reqL ?_))))
   have efin : readScript s = ([], 200) := by first | exact readScript_nil (by assumption) | exact readScript_big (by assumption) (by omega) | (rw [readScript_of (by assumption) (by omega), hv0]; first | rfl | exact readGo_none (by assumption) | (rw [← read_eq] at *; exact readGo_none (by assumption)))
   refine FIN (.tuple #[.slice none 0 0, vi 200]) ?_ (none, 0) ?_ [1] ?_
   · as_aux_lemma => kernel_rfl
   · (rw [efin] <;> rfl)
   · (rw [efin] <;> rfl)
  ·
   have h5 := bh5
   have h5 := of_decide_eq_false h5
   refine SKIP (NEXT (SEQ (REGION [0] rfl (RUN0 1 [] [(4, .v (.slice a2 ((parts s 10).length) c3)), (5, .v (.slice none 0 0))] ?_ rfl ?_))))
   · as_aux_lemma => kernel_rfl
   refine ENDOPS (NEXT (SEQ (SEQ (REGION [0, 1, 2] rfl (RUN0 3 [] [(5, .v (.slice none 0 0)), (17, .v (.slice a2 ((parts s 10).length) c3)), (18, I (((parts s 10).length : Nat) : Int)), (19, I 0)] ?_ rfl ?_)))))
   · as_aux_lemma => kernel_rfl
   refine ENDOPS (NEXT (BLOCK (NIL 30 reqL ?_)))
   refine LOOP (ι := Nat × (List (List UInt8)) × (Option Addr) × Nat × (List Req)) (fun j => [(5, .v (.slice j.2.2.1 j.2.2.2.2.length j.2.2.2.1)), (17, .v (.slice a2 ((parts s 10).length) c3)), (18, I (((parts s 10).length : Nat) : Int)), (19, I (j.1 : Int))]) (fun j => []) (fun j => [slA 9 strL (.slice a2 (parts s 10).length c3) (parts s 10), slA 30 reqL (.slice j.2.2.1 j.2.2.2.2.length j.2.2.2.1) j.2.2.2.2]) (fun j => j.1 + j.2.1.length = (parts s 10).length ∧ (parts s 10).drop j.1 = j.2.1 ∧ readGo 0 [] (parts s 10) = readGo j.1 j.2.2.2.2 j.2.1 ∧ j.2.2.2.2.length = j.1) (fun j => j.2.1.length) (0, (parts s 10), none, 0, []) [5, 17, 18, 19] ⟨by simp, rfl, rfl, rfl⟩ ?_ rfl rfl ?_
   · as_aux_lemma => kernel_rfl
   rintro ⟨k, ys, oa, oc, out⟩ ⟨hk, hd, hv0, hv1⟩
   try dsimp only at hk hd hv0 hv1
   refine SEQ (REGION [0] rfl (RUN0 1 [] [(5, .v (.slice oa out.length oc)), (17, .v (.slice a2 ((parts s 10).length) c3)), (18, I (((parts s 10).length : Nat) : Int)), (19, I (k : Int)), (20, B (decide ((k : Int) < (((parts s 10).length : Nat) : Int))))] ?_ rfl ?_))
   · as_aux_lemma => kernel_rfl
   refine ENDOPS (NEXT (SEQ (IF (decide ((k : Int) < (((parts s 10).length : Nat) : Int))) ?_ (fun bh6 => ?_) (fun bh6 => ?_))))
   · as_aux_lemma => kernel_rfl
   ·
    have h6 := bh6
    have h6 := of_decide_eq_true h6
    obtain ⟨y7, ys8, rfl, hx_y7, hd_y7, hl_y7⟩ := drop_cons hd hk (by omega)
    have hm_y7 := parts_mem (List.mem_of_getElem? hx_y7)
    refine SKIP (NEXT (SEQ (BLOCK (SEQ (REGION [0, 1, 2, 3, 4] rfl (RUN0 1 [1, 2, 3, 4] [(5, .v (.slice oa out.length oc)), (17, .v (.slice a2 ((parts s 10).length) c3)), (18, I (((parts s 10).length : Nat) : Int)), (19, I (k : Int)), (21, I (k : Int))] ?_ rfl ?_))))))
    · as_aux_lemma => kernel_rfl
    refine FACT (a2.isSome = true) (fun w hw => SlO.isS (hw.own 0 rfl) (by omega)) (fun hs9 => ?_)
    refine OPC (INDEX 36 (.tmp 17) (.tmp 19) 22 0 ?_ (NL rfl) a2 ((parts s 10).length) c3 .i64 (k : Int) 9 1 ?_ ?_ ?_ ?_ hs9 (by omega) (by omega) ?_)
    iterate 5 (as_aux_lemma => kernel_rfl)
    refine OPC (LOADE 9 (.tmp 22) 23 9 ?_ (NL rfl) a2 (k * 1) 0 [.string (bs y7)] (.string (bs y7)) ?_ (fun w hw => (hw.rdO 0 rfl).flat hx_y7) ?_ ?_)
    iterate 3 (as_aux_lemma => kernel_rfl)
    refine RUN0 2 [] [(5, .v (.slice oa out.length oc)), (6, I (k : Int)), (7, .v (.string (bs y7))), (17, .v (.slice a2 ((parts s 10).length) c3)), (18, I (((parts s 10).length : Nat) : Int)), (19, I (k : Int))] ?_ rfl ?_
    · as_aux_lemma => kernel_rfl
    refine ENDOPS (NEXT (SEQ (REGION [0, 1, 2, 3, 4, 5, 6, 7] rfl (RUN0 1 [1, 2, 3, 4, 5, 6, 7] [(5, .v (.slice oa out.length oc)), (6, I (k : Int)), (17, .v (.slice a2 ((parts s 10).length) c3)), (18, I (((parts s 10).length : Nat) : Int)), (19, I (k : Int)), (25, .v (.string (bs y7)))] ?_ rfl ?_))))
    · as_aux_lemma => kernel_rfl
    refine OPC (CALL 10 #[.string (bs y7)] (some 26) ?_ [] [] _ rfl (RV (.tuple #[.agg #[vi ((optReq (readI y7)).kind), vi ((optReq (readI y7)).id), vi ((optReq (readI y7)).cabin), vi ((optReq (readI y7)).from'), vi ((optReq (readI y7)).size), vi ((optReq (readI y7)).tier)], .bool ((readI y7).isSome)])) (fun w hw => iReadReq_c w y7 (by first | assumption | omega) (htab.fr hw.fr) (hmx.fr hw.fr)) (NO rfl) ?_)
    · as_aux_lemma => kernel_rfl
    rintro ⟨⟩
    refine RUN 6 [] [(5, .v (.slice oa out.length oc)), (6, I (k : Int)), (8, .p 0 0), (9, B ((readI y7).isSome)), (17, .v (.slice a2 ((parts s 10).length) c3)), (18, I (((parts s 10).length : Nat) : Int)), (19, I (k : Int))] [(30, [vi ((optReq (readI y7)).kind), vi ((optReq (readI y7)).id), vi ((optReq (readI y7)).cabin), vi ((optReq (readI y7)).from'), vi ((optReq (readI y7)).size), vi ((optReq (readI y7)).tier)])] ?_ rfl ?_
    · as_aux_lemma => kernel_rfl
    refine ENDOPS (NEXT (SEQ (SEQ (REGION [0, 1] rfl (RUN0 2 [] [(5, .v (.slice oa out.length oc)), (6, I (k : Int)), (8, .p 0 0), (17, .v (.slice a2 ((parts s 10).length) c3)), (18, I (((parts s 10).length : Nat) : Int)), (19, I (k : Int)), (30, B (!((readI y7).isSome)))] ?_ rfl ?_)))))
    · as_aux_lemma => kernel_rfl
    refine ENDOPS (NEXT (IF (!((readI y7).isSome)) ?_ (fun bh10 => ?_) (fun bh10 => ?_)))
    · as_aux_lemma => kernel_rfl
    ·
     have h10 := bh10
     have h10 := notT h10
     refine SEQ (REGION [0, 1, 2] rfl (RUN0 3 [] [(2, .v (.slice none 0 0)), (3, I (k : Int))] ?_ rfl ?_))
     · as_aux_lemma => kernel_rfl
     refine ENDOPS (NEXT (RET (PASS trivial (OUTR (PASS trivial (PASS trivial (OUTR (PASS trivial (NIL 30 reqL ?_)))))))))
     have efin : readScript s = ([], (k : Int)) := by first | exact readScript_nil (by assumption) | exact readScript_big (by assumption) (by omega) | (rw [readScript_of (by assumption) (by omega), hv0]; first | rfl | exact readGo_none (by assumption) | (rw [← read_eq] at *; exact readGo_none (by assumption)))
     refine FIN (.tuple #[.slice none 0 0, vi (k : Int)]) ?_ (none, 0) ?_ [2] ?_
     · as_aux_lemma => kernel_rfl
     · (rw [efin] <;> rfl)
     · (rw [efin] <;> rfl)
    ·
     have h10 := bh10
     have h10 := notF h10
     refine SKIP (NEXT (REGION [0, 1, 2, 3, 4] rfl (RUN0 2 [2, 3, 4] [(17, .v (.slice a2 ((parts s 10).length) c3)), (18, I (((parts s 10).length : Nat) : Int)), (19, I (k : Int)), (32, .v (.slice oa out.length oc)), (33, .v (.agg #[vi ((optReq (readI y7)).kind), vi ((optReq (readI y7)).id), vi ((optReq (readI y7)).cabin), vi ((optReq (readI y7)).from'), vi ((optReq (readI y7)).size), vi ((optReq (readI y7)).tier)]))] ?_ rfl ?_)))
     · as_aux_lemma => kernel_rfl
     refine OPC (BUILDS 24 1 #[(0, .tmp 33)] 34 24 ?_ (NL rfl) 30 [vi ((optReq (readI y7)).kind), vi ((optReq (readI y7)).id), vi ((optReq (readI y7)).cabin), vi ((optReq (readI y7)).from'), vi ((optReq (readI y7)).size), vi ((optReq (readI y7)).tier)] ?_ reqL [(optReq (readI y7))] rfl (by simp only [maxLen]; omega) [] [] _ rfl (flatRep rfl) (fun a11 ha12 => ?_))
     iterate 2 (as_aux_lemma => kernel_rfl)
     refine OPC (APPENDO 24 (.tmp 32) (.tmp 34) 35 24 ?_ (NL rfl) (.slice oa out.length oc) a11 1 1 ?_ ?_ ha12 30 ?_ reqL (.agg #[vi 0, vi 0, vi 0, vi 0, vi 0, vi 0]) 48 ?_ rfl (by decide) 1 1 out ([(optReq (readI y7))]) _ rfl rfl (by first | omega | (simp only [List.length_append, List.length_cons, List.length_nil, List.length_take, List.length_drop] at *; omega)) (by simp only [maxLen]; first | omega | (simp only [List.length_append, List.length_cons, List.length_nil, List.length_take, List.length_drop] at *; omega)) (fun a13 c14 hn15 => ?_))
     iterate 5 (as_aux_lemma => kernel_rfl)
     refine RUN0 1 [] [(5, .v (.slice a13 ((out ++ ([(optReq (readI y7))])).length) c14)), (17, .v (.slice a2 ((parts s 10).length) c3)), (18, I (((parts s 10).length : Nat) : Int)), (19, I (k : Int))] ?_ rfl ?_
     · as_aux_lemma => kernel_rfl
     refine ENDOPS (OUTN (NEXT (REGION [0, 1] rfl (RUN0 1 [1] [(5, .v (.slice a13 ((out ++ ([(optReq (readI y7))])).length) c14)), (17, .v (.slice a2 ((parts s 10).length) c3)), (18, I (((parts s 10).length : Nat) : Int)), (36, I (wr ((k : Int) + 1)))] ?_ rfl ?_))))
     · as_aux_lemma => kernel_rfl
     refine CAST (d := 36) (vi (wr ((k : Int) + 1))) (vi ((k + 1 : Nat) : Int)) ?_ (vi_cast (by omega) (by omega)) ?_
     · as_aux_lemma => kernel_rfl
     refine RUN0 1 [] [(5, .v (.slice a13 ((out ++ ([(optReq (readI y7))])).length) c14)), (17, .v (.slice a2 ((parts s 10).length) c3)), (18, I (((parts s 10).length : Nat) : Int)), (19, I ((k + 1 : Nat) : Int))] ?_ rfl ?_
     · as_aux_lemma => kernel_rfl
     refine ENDOPS (BACK (k + 1, ys8, a13, c14, out ++ ([(optReq (readI y7))])) [5, 17, 18, 19] 0 [0, 0] _ ⟨hl_y7, hd_y7, hv0.trans (by first | exact readGo_some (by assumption) | (have h9 : (readS y7).isSome = true := (by assumption); rw [← read_eq] at h9 ⊢; exact readGo_some h9)), (by simp only [List.length_append, List.length_cons, List.length_nil]; omega)⟩ (by simp) ?_ rfl rfl rfl)
     · as_aux_lemma => kernel_rfl
   ·
    have h6 := bh6
    have h6 := of_decide_eq_false h6
    obtain rfl := drop_nil hk (by omega)
    refine EXIT (PASS trivial (PASS trivial (OUT (NEXT (SEQ (REGION [0, 1, 2] rfl (RUN0 3 [] [(2, .v (.slice oa out.length oc)), (3, I (-1))] ?_ rfl ?_)))))))
    · as_aux_lemma => kernel_rfl
    refine ENDOPS (NEXT (RET ?_))
    have efin : readScript s = (out, -1) := by first | exact readScript_nil (by assumption) | exact readScript_big (by assumption) (by omega) | (rw [readScript_of (by assumption) (by omega), hv0]; first | rfl | exact readGo_none (by assumption) | (rw [← read_eq] at *; exact readGo_none (by assumption)))
    refine FIN (.tuple #[.slice oa out.length oc, vi (-1)]) ?_ (oa, oc) ?_ [1] ?_
    · as_aux_lemma => kernel_rfl
    · (rw [efin] <;> rfl)
    · (rw [efin] <;> rfl)

end SX
end Go.Proofs.YtpdijcbgdalphabGreatDoor
