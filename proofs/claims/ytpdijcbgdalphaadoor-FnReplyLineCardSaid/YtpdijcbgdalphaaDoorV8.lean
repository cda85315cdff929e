/- Walks, printed by program. -/
import Derived.Test.YtpdijcbgdalphaaDoorV7
namespace Go.Proofs.YtpdijcbgdalphaaDoor
namespace SX
open Go Go.RowKit
set_option linter.unusedVariables false
set_option linter.unusedSimpArgs false
set_option maxRecDepth 10000
theorem markReqS_c (W : World) (a : List Req) (a_a : Option Addr) (a_n a_c : Nat) (z : Int) : Spec Tryd.prog W [slA 47 reqL (.slice a_a a_n a_c) a] 28 #[.slice a_a a_n a_c, vi z] (⟨Unit, fun _ => vi ((markReqs a z).2), fun _ => [slA 47 reqL (.slice a_a a_n a_c) ((markReqs a z).1)]⟩) := by
  refine ENTER (N := 55) (vs := [.slice a_a a_n a_c, vi z]) Tryd.func28 rfl rfl (Nat.le_of_ble_eq_true rfl) (fun S0 => ?_)
  refine FACT (a_n = a.length ∧ a.length ≤ 9223372036854775807) (fun w hw => SlO.lenE (hw.own 0 rfl)) (fun ha_len => ?_)
  refine SEQ (REGION [0] rfl (RUN0 1 [] [(0, .v (.slice a_a a_n a_c)), (1, I z)] ?_ rfl ?_))
  · as_aux_lemma => kernel_rfl
  refine ENDOPS (NEXT (SEQ (SEQ (REGION [0] rfl (RUN0 1 [] [(0, .v (.slice a_a a_n a_c)), (1, I z), (5, I 0)] ?_ rfl ?_)))))
  · as_aux_lemma => kernel_rfl
  refine ENDOPS (NEXT (BLOCK (LOOP (ι := Nat × (List Req) × (List Req) × (List Req) × Int) (fun j => [(0, .v (.slice a_a a_n a_c)), (1, I j.2.2.2.2), (5, I (j.1 : Int))]) (fun j => []) (fun j => [slA 47 reqL (.slice a_a a_n a_c) j.2.2.2.1]) (fun j => j.1 + j.2.1.length = a.length ∧ a.drop j.1 = j.2.1 ∧ j.2.2.2.1 = j.2.2.1 ++ j.2.1 ∧ j.2.2.1.length = j.1 ∧ ((markReqs a z).1 = j.2.2.1 ++ (markReqs j.2.1 j.2.2.2.2).1 ∧ (markReqs a z).2 = (markReqs j.2.1 j.2.2.2.2).2)) (fun j => j.2.1.length) (0, a, [], a, z) [0, 1, 5] ⟨by simp, rfl, rfl, rfl, rfl, rfl⟩ ?_ rfl rfl ?_)))
  · as_aux_lemma => kernel_rfl
  rintro ⟨k, ys, done, out, kk⟩ ⟨hk, hd, hv0, hv1, hv2⟩
  dsimp only at hk hd hv0 hv1 hv2
  refine SEQ (SEQ (REGION [0, 1, 2, 3] rfl (RUN0 4 [] [(0, .v (.slice a_a a_n a_c)), (1, I kk), (5, I (k : Int)), (9, B (decide ((k : Int) < (a_n : Int))))] ?_ rfl ?_)))
  · as_aux_lemma => kernel_rfl
  refine ENDOPS (NEXT (IF (decide ((k : Int) < (a_n : Int))) ?_ (fun bh1 => ?_) (fun bh1 => ?_)))
  · as_aux_lemma => kernel_rfl
  · -- decide ((k : Int) < (a_n : Int)) = true
    have h1 := bh1
    have h1 := of_decide_eq_true h1
    obtain ⟨y2, ys3, rfl, hx_y2, hd_y2, hl_y2⟩ := drop_cons hd hk (by omega)
    refine SKIP (NEXT (SEQ (BLOCK (SEQ (REGION [0, 1, 2, 3, 4, 5] rfl (RUN0 3 [3, 4, 5] [(0, .v (.slice a_a a_n a_c)), (1, I kk), (5, I (k : Int)), (12, .v (.slice a_a a_n a_c)), (13, I (k : Int)), (14, I kk)] ?_ rfl ?_))))))
    · as_aux_lemma => kernel_rfl
    refine FACT (a_n = out.length) (fun w hw => (SlO.lenE (hw.own 0 rfl)).1) (fun hln4 => ?_)
    obtain ⟨x5, hx6⟩ : ∃ y, out[k]? = some y := ⟨_, List.getElem?_eq_getElem (by omega)⟩
    refine FACT (a_a.isSome = true) (fun w hw => SlO.isS (hw.own 0 rfl) (by omega)) (fun hs7 => ?_)
    refine OPC (INDEX 34 (.tmp 12) (.tmp 13) 15 0 ?_ (Nat.le_of_ble_eq_true rfl) a_a a_n a_c .i64 (k : Int) 47 6 ?_ ?_ ?_ ?_ hs7 (by omega) (by omega) ?_)
    · as_aux_lemma => kernel_rfl
    · as_aux_lemma => kernel_rfl
    · as_aux_lemma => kernel_rfl
    · as_aux_lemma => kernel_rfl
    · as_aux_lemma => kernel_rfl
    refine RUN0 1 [5] [(0, .v (.slice a_a a_n a_c)), (1, I kk), (5, I (k : Int)), (14, I kk), (16, .e a_a (k * 6) 0)] ?_ rfl ?_
    · as_aux_lemma => kernel_rfl
    refine OPC (STOREF 3 (.tmp 16) (.tmp 14) 0 ?_ 0 _ 47 a_a a_n a_c k 0 out rfl x5 (⟨kk, x5.id, x5.cabin, x5.from', x5.size, x5.tier⟩ : Req) hx6 (vi kk) ?_ ?_ ?_ ?_)
    · as_aux_lemma => kernel_rfl
    · as_aux_lemma => kernel_rfl
    · as_aux_lemma => kernel_rfl
    · as_aux_lemma => kernel_rfl
    refine ENDOPS (NEXT (SEQ (REGION [0, 1, 2] rfl (RUN0 3 [] [(0, .v (.slice a_a a_n a_c)), (1, I (wr (kk + 1))), (5, I (k : Int))] ?_ rfl ?_))))
    · as_aux_lemma => kernel_rfl
    refine ENDOPS (NEXT (SEQ (REGION [0, 1, 2, 3, 4, 5] rfl (RUN0 3 [3, 4, 5] [(0, .v (.slice a_a a_n a_c)), (1, I (wr (kk + 1))), (5, I (k : Int)), (19, .v (.slice a_a a_n a_c)), (20, I (k : Int)), (21, I (wr (kk + 1)))] ?_ rfl ?_))))
    · as_aux_lemma => kernel_rfl
    refine FACT (a_a.isSome = true) (fun w hw => SlO.isS (hw.own 0 rfl) (by omega)) (fun hs8 => ?_)
    refine OPC (INDEX 34 (.tmp 19) (.tmp 20) 22 0 ?_ (Nat.le_of_ble_eq_true rfl) a_a a_n a_c .i64 (k : Int) 47 6 ?_ ?_ ?_ ?_ hs8 (by omega) (by omega) ?_)
    · as_aux_lemma => kernel_rfl
    · as_aux_lemma => kernel_rfl
    · as_aux_lemma => kernel_rfl
    · as_aux_lemma => kernel_rfl
    · as_aux_lemma => kernel_rfl
    refine RUN0 1 [5] [(0, .v (.slice a_a a_n a_c)), (1, I (wr (kk + 1))), (5, I (k : Int)), (21, I (wr (kk + 1))), (23, .e a_a (k * 6) 1)] ?_ rfl ?_
    · as_aux_lemma => kernel_rfl
    refine OPC (STOREF 3 (.tmp 23) (.tmp 21) 0 ?_ 0 _ 47 a_a a_n a_c k 1 (out.set k (⟨kk, x5.id, x5.cabin, x5.from', x5.size, x5.tier⟩ : Req)) rfl (⟨kk, x5.id, x5.cabin, x5.from', x5.size, x5.tier⟩ : Req) (⟨kk, wr (kk + 1), x5.cabin, x5.from', x5.size, x5.tier⟩ : Req) (set_get hx6) (vi (wr (kk + 1))) ?_ ?_ ?_ ?_)
    · as_aux_lemma => kernel_rfl
    · as_aux_lemma => kernel_rfl
    · as_aux_lemma => kernel_rfl
    · as_aux_lemma => kernel_rfl
    refine ENDOPS (NEXT (SEQ (REGION [0, 1, 2] rfl (RUN0 3 [] [(0, .v (.slice a_a a_n a_c)), (1, I (wr ((wr (kk + 1)) + 1))), (5, I (k : Int))] ?_ rfl ?_))))
    · as_aux_lemma => kernel_rfl
    refine ENDOPS (NEXT (SEQ (REGION [0, 1, 2, 3, 4, 5] rfl (RUN0 3 [3, 4, 5] [(0, .v (.slice a_a a_n a_c)), (1, I (wr ((wr (kk + 1)) + 1))), (5, I (k : Int)), (26, .v (.slice a_a a_n a_c)), (27, I (k : Int)), (28, I (wr ((wr (kk + 1)) + 1)))] ?_ rfl ?_))))
    · as_aux_lemma => kernel_rfl
    refine FACT (a_a.isSome = true) (fun w hw => SlO.isS (hw.own 0 rfl) (by omega)) (fun hs9 => ?_)
    refine OPC (INDEX 34 (.tmp 26) (.tmp 27) 29 0 ?_ (Nat.le_of_ble_eq_true rfl) a_a a_n a_c .i64 (k : Int) 47 6 ?_ ?_ ?_ ?_ hs9 (by omega) (by omega) ?_)
    · as_aux_lemma => kernel_rfl
    · as_aux_lemma => kernel_rfl
    · as_aux_lemma => kernel_rfl
    · as_aux_lemma => kernel_rfl
    · as_aux_lemma => kernel_rfl
    refine RUN0 1 [5] [(0, .v (.slice a_a a_n a_c)), (1, I (wr ((wr (kk + 1)) + 1))), (5, I (k : Int)), (28, I (wr ((wr (kk + 1)) + 1))), (30, .e a_a (k * 6) 2)] ?_ rfl ?_
    · as_aux_lemma => kernel_rfl
    refine OPC (STOREF 3 (.tmp 30) (.tmp 28) 0 ?_ 0 _ 47 a_a a_n a_c k 2 ((out.set k (⟨kk, x5.id, x5.cabin, x5.from', x5.size, x5.tier⟩ : Req)).set k (⟨kk, wr (kk + 1), x5.cabin, x5.from', x5.size, x5.tier⟩ : Req)) rfl (⟨kk, wr (kk + 1), x5.cabin, x5.from', x5.size, x5.tier⟩ : Req) (⟨kk, wr (kk + 1), wr ((wr (kk + 1)) + 1), x5.from', x5.size, x5.tier⟩ : Req) (set_get (set_get hx6)) (vi (wr ((wr (kk + 1)) + 1))) ?_ ?_ ?_ ?_)
    · as_aux_lemma => kernel_rfl
    · as_aux_lemma => kernel_rfl
    · as_aux_lemma => kernel_rfl
    · as_aux_lemma => kernel_rfl
    refine ENDOPS (NEXT (SEQ (REGION [0, 1, 2] rfl (RUN0 3 [] [(0, .v (.slice a_a a_n a_c)), (1, I (wr ((wr ((wr (kk + 1)) + 1)) + 1))), (5, I (k : Int))] ?_ rfl ?_))))
    · as_aux_lemma => kernel_rfl
    refine ENDOPS (NEXT (SEQ (REGION [0, 1, 2, 3, 4, 5] rfl (RUN0 3 [3, 4, 5] [(0, .v (.slice a_a a_n a_c)), (1, I (wr ((wr ((wr (kk + 1)) + 1)) + 1))), (5, I (k : Int)), (33, .v (.slice a_a a_n a_c)), (34, I (k : Int)), (35, I (wr ((wr ((wr (kk + 1)) + 1)) + 1)))] ?_ rfl ?_))))
    · as_aux_lemma => kernel_rfl
    refine FACT (a_a.isSome = true) (fun w hw => SlO.isS (hw.own 0 rfl) (by omega)) (fun hs10 => ?_)
    refine OPC (INDEX 34 (.tmp 33) (.tmp 34) 36 0 ?_ (Nat.le_of_ble_eq_true rfl) a_a a_n a_c .i64 (k : Int) 47 6 ?_ ?_ ?_ ?_ hs10 (by omega) (by omega) ?_)
    · as_aux_lemma => kernel_rfl
    · as_aux_lemma => kernel_rfl
    · as_aux_lemma => kernel_rfl
    · as_aux_lemma => kernel_rfl
    · as_aux_lemma => kernel_rfl
    refine RUN0 1 [5] [(0, .v (.slice a_a a_n a_c)), (1, I (wr ((wr ((wr (kk + 1)) + 1)) + 1))), (5, I (k : Int)), (35, I (wr ((wr ((wr (kk + 1)) + 1)) + 1))), (37, .e a_a (k * 6) 3)] ?_ rfl ?_
    · as_aux_lemma => kernel_rfl
    refine OPC (STOREF 3 (.tmp 37) (.tmp 35) 0 ?_ 0 _ 47 a_a a_n a_c k 3 (((out.set k (⟨kk, x5.id, x5.cabin, x5.from', x5.size, x5.tier⟩ : Req)).set k (⟨kk, wr (kk + 1), x5.cabin, x5.from', x5.size, x5.tier⟩ : Req)).set k (⟨kk, wr (kk + 1), wr ((wr (kk + 1)) + 1), x5.from', x5.size, x5.tier⟩ : Req)) rfl (⟨kk, wr (kk + 1), wr ((wr (kk + 1)) + 1), x5.from', x5.size, x5.tier⟩ : Req) (⟨kk, wr (kk + 1), wr ((wr (kk + 1)) + 1), wr ((wr ((wr (kk + 1)) + 1)) + 1), x5.size, x5.tier⟩ : Req) (set_get (set_get (set_get hx6))) (vi (wr ((wr ((wr (kk + 1)) + 1)) + 1))) ?_ ?_ ?_ ?_)
    · as_aux_lemma => kernel_rfl
    · as_aux_lemma => kernel_rfl
    · as_aux_lemma => kernel_rfl
    · as_aux_lemma => kernel_rfl
    refine ENDOPS (NEXT (SEQ (REGION [0, 1, 2] rfl (RUN0 3 [] [(0, .v (.slice a_a a_n a_c)), (1, I (wr ((wr ((wr ((wr (kk + 1)) + 1)) + 1)) + 1))), (5, I (k : Int))] ?_ rfl ?_))))
    · as_aux_lemma => kernel_rfl
    refine ENDOPS (NEXT (SEQ (REGION [0, 1, 2, 3, 4, 5] rfl (RUN0 3 [3, 4, 5] [(0, .v (.slice a_a a_n a_c)), (1, I (wr ((wr ((wr ((wr (kk + 1)) + 1)) + 1)) + 1))), (5, I (k : Int)), (40, .v (.slice a_a a_n a_c)), (41, I (k : Int)), (42, I (wr ((wr ((wr ((wr (kk + 1)) + 1)) + 1)) + 1)))] ?_ rfl ?_))))
    · as_aux_lemma => kernel_rfl
    refine FACT (a_a.isSome = true) (fun w hw => SlO.isS (hw.own 0 rfl) (by omega)) (fun hs11 => ?_)
    refine OPC (INDEX 34 (.tmp 40) (.tmp 41) 43 0 ?_ (Nat.le_of_ble_eq_true rfl) a_a a_n a_c .i64 (k : Int) 47 6 ?_ ?_ ?_ ?_ hs11 (by omega) (by omega) ?_)
    · as_aux_lemma => kernel_rfl
    · as_aux_lemma => kernel_rfl
    · as_aux_lemma => kernel_rfl
    · as_aux_lemma => kernel_rfl
    · as_aux_lemma => kernel_rfl
    refine RUN0 1 [5] [(0, .v (.slice a_a a_n a_c)), (1, I (wr ((wr ((wr ((wr (kk + 1)) + 1)) + 1)) + 1))), (5, I (k : Int)), (42, I (wr ((wr ((wr ((wr (kk + 1)) + 1)) + 1)) + 1))), (44, .e a_a (k * 6) 4)] ?_ rfl ?_
    · as_aux_lemma => kernel_rfl
    refine OPC (STOREF 3 (.tmp 44) (.tmp 42) 0 ?_ 0 _ 47 a_a a_n a_c k 4 ((((out.set k (⟨kk, x5.id, x5.cabin, x5.from', x5.size, x5.tier⟩ : Req)).set k (⟨kk, wr (kk + 1), x5.cabin, x5.from', x5.size, x5.tier⟩ : Req)).set k (⟨kk, wr (kk + 1), wr ((wr (kk + 1)) + 1), x5.from', x5.size, x5.tier⟩ : Req)).set k (⟨kk, wr (kk + 1), wr ((wr (kk + 1)) + 1), wr ((wr ((wr (kk + 1)) + 1)) + 1), x5.size, x5.tier⟩ : Req)) rfl (⟨kk, wr (kk + 1), wr ((wr (kk + 1)) + 1), wr ((wr ((wr (kk + 1)) + 1)) + 1), x5.size, x5.tier⟩ : Req) (⟨kk, wr (kk + 1), wr ((wr (kk + 1)) + 1), wr ((wr ((wr (kk + 1)) + 1)) + 1), wr ((wr ((wr ((wr (kk + 1)) + 1)) + 1)) + 1), x5.tier⟩ : Req) (set_get (set_get (set_get (set_get hx6)))) (vi (wr ((wr ((wr ((wr (kk + 1)) + 1)) + 1)) + 1))) ?_ ?_ ?_ ?_)
    · as_aux_lemma => kernel_rfl
    · as_aux_lemma => kernel_rfl
    · as_aux_lemma => kernel_rfl
    · as_aux_lemma => kernel_rfl
    refine ENDOPS (NEXT (SEQ (REGION [0, 1, 2] rfl (RUN0 3 [] [(0, .v (.slice a_a a_n a_c)), (1, I (wr ((wr ((wr ((wr ((wr (kk + 1)) + 1)) + 1)) + 1)) + 1))), (5, I (k : Int))] ?_ rfl ?_))))
    · as_aux_lemma => kernel_rfl
    refine ENDOPS (NEXT (SEQ (REGION [0, 1, 2, 3, 4, 5] rfl (RUN0 3 [3, 4, 5] [(0, .v (.slice a_a a_n a_c)), (1, I (wr ((wr ((wr ((wr ((wr (kk + 1)) + 1)) + 1)) + 1)) + 1))), (5, I (k : Int)), (47, .v (.slice a_a a_n a_c)), (48, I (k : Int)), (49, I (wr ((wr ((wr ((wr ((wr (kk + 1)) + 1)) + 1)) + 1)) + 1)))] ?_ rfl ?_))))
    · as_aux_lemma => kernel_rfl
    refine FACT (a_a.isSome = true) (fun w hw => SlO.isS (hw.own 0 rfl) (by omega)) (fun hs12 => ?_)
    refine OPC (INDEX 34 (.tmp 47) (.tmp 48) 50 0 ?_ (Nat.le_of_ble_eq_true rfl) a_a a_n a_c .i64 (k : Int) 47 6 ?_ ?_ ?_ ?_ hs12 (by omega) (by omega) ?_)
    · as_aux_lemma => kernel_rfl
    · as_aux_lemma => kernel_rfl
    · as_aux_lemma => kernel_rfl
    · as_aux_lemma => kernel_rfl
    · as_aux_lemma => kernel_rfl
    refine RUN0 1 [5] [(0, .v (.slice a_a a_n a_c)), (1, I (wr ((wr ((wr ((wr ((wr (kk + 1)) + 1)) + 1)) + 1)) + 1))), (5, I (k : Int)), (49, I (wr ((wr ((wr ((wr ((wr (kk + 1)) + 1)) + 1)) + 1)) + 1))), (51, .e a_a (k * 6) 5)] ?_ rfl ?_
    · as_aux_lemma => kernel_rfl
    refine OPC (STOREF 3 (.tmp 51) (.tmp 49) 0 ?_ 0 _ 47 a_a a_n a_c k 5 (((((out.set k (⟨kk, x5.id, x5.cabin, x5.from', x5.size, x5.tier⟩ : Req)).set k (⟨kk, wr (kk + 1), x5.cabin, x5.from', x5.size, x5.tier⟩ : Req)).set k (⟨kk, wr (kk + 1), wr ((wr (kk + 1)) + 1), x5.from', x5.size, x5.tier⟩ : Req)).set k (⟨kk, wr (kk + 1), wr ((wr (kk + 1)) + 1), wr ((wr ((wr (kk + 1)) + 1)) + 1), x5.size, x5.tier⟩ : Req)).set k (⟨kk, wr (kk + 1), wr ((wr (kk + 1)) + 1), wr ((wr ((wr (kk + 1)) + 1)) + 1), wr ((wr ((wr ((wr (kk + 1)) + 1)) + 1)) + 1), x5.tier⟩ : Req)) rfl (⟨kk, wr (kk + 1), wr ((wr (kk + 1)) + 1), wr ((wr ((wr (kk + 1)) + 1)) + 1), wr ((wr ((wr ((wr (kk + 1)) + 1)) + 1)) + 1), x5.tier⟩ : Req) (⟨kk, wr (kk + 1), wr ((wr (kk + 1)) + 1), wr ((wr ((wr (kk + 1)) + 1)) + 1), wr ((wr ((wr ((wr (kk + 1)) + 1)) + 1)) + 1), wr ((wr ((wr ((wr ((wr (kk + 1)) + 1)) + 1)) + 1)) + 1)⟩ : Req) (set_get (set_get (set_get (set_get (set_get hx6))))) (vi (wr ((wr ((wr ((wr ((wr (kk + 1)) + 1)) + 1)) + 1)) + 1))) ?_ ?_ ?_ ?_)
    · as_aux_lemma => kernel_rfl
    · as_aux_lemma => kernel_rfl
    · as_aux_lemma => kernel_rfl
    · as_aux_lemma => kernel_rfl
    refine ENDOPS (NEXT (REGION [0, 1, 2] rfl (RUN0 3 [] [(0, .v (.slice a_a a_n a_c)), (1, I (wr ((wr ((wr ((wr ((wr ((wr (kk + 1)) + 1)) + 1)) + 1)) + 1)) + 1))), (5, I (k : Int))] ?_ rfl ?_)))
    · as_aux_lemma => kernel_rfl
    refine ENDOPS (OUTN (NEXT (REGION [0, 1, 2] rfl (RUN0 2 [2] [(0, .v (.slice a_a a_n a_c)), (1, I (wr ((wr ((wr ((wr ((wr ((wr (kk + 1)) + 1)) + 1)) + 1)) + 1)) + 1))), (11, I (wr ((k : Int) + 1)))] ?_ rfl ?_))))
    · as_aux_lemma => kernel_rfl
    refine CAST (d := 11) (vi (wr ((k : Int) + 1))) (vi ((k + 1 : Nat) : Int)) ?_ (vi_cast (by omega) (by omega)) ?_
    · as_aux_lemma => kernel_rfl
    refine RUN0 1 [] [(0, .v (.slice a_a a_n a_c)), (1, I (wr ((wr ((wr ((wr ((wr ((wr (kk + 1)) + 1)) + 1)) + 1)) + 1)) + 1))), (5, I ((k + 1 : Nat) : Int))] ?_ rfl ?_
    · as_aux_lemma => kernel_rfl
    refine ENDOPS (BACK (k + 1, ys3, done ++ [⟨kk, wr (kk + 1), wr (wr (kk + 1) + 1), wr (wr (wr (kk + 1) + 1) + 1), wr (wr (wr (wr (kk + 1) + 1) + 1) + 1), wr (wr (wr (wr (wr (kk + 1) + 1) + 1) + 1) + 1)⟩], (((((out.set k (⟨kk, x5.id, x5.cabin, x5.from', x5.size, x5.tier⟩ : Req)).set k (⟨kk, wr (kk + 1), x5.cabin, x5.from', x5.size, x5.tier⟩ : Req)).set k (⟨kk, wr (kk + 1), wr ((wr (kk + 1)) + 1), x5.from', x5.size, x5.tier⟩ : Req)).set k (⟨kk, wr (kk + 1), wr ((wr (kk + 1)) + 1), wr ((wr ((wr (kk + 1)) + 1)) + 1), x5.size, x5.tier⟩ : Req)).set k (⟨kk, wr (kk + 1), wr ((wr (kk + 1)) + 1), wr ((wr ((wr (kk + 1)) + 1)) + 1), wr ((wr ((wr ((wr (kk + 1)) + 1)) + 1)) + 1), x5.tier⟩ : Req)).set k (⟨kk, wr (kk + 1), wr ((wr (kk + 1)) + 1), wr ((wr ((wr (kk + 1)) + 1)) + 1), wr ((wr ((wr ((wr (kk + 1)) + 1)) + 1)) + 1), wr ((wr ((wr ((wr ((wr (kk + 1)) + 1)) + 1)) + 1)) + 1)⟩ : Req), wr ((wr ((wr ((wr ((wr ((wr (kk + 1)) + 1)) + 1)) + 1)) + 1)) + 1)) [0, 1, 5] 0 [0] _ ⟨hl_y2, hd_y2, (by rw [hv0]; simp only [List.set_set]; exact set_mid hv1), (by simp only [List.length_append, List.length_cons, List.length_nil]; omega), ⟨hv2.1.trans (by simp [markReqs]), hv2.2.trans (by simp [markReqs])⟩⟩ (by simp) ?_ rfl rfl rfl)
    · as_aux_lemma => kernel_rfl
  · -- decide ((k : Int) < (a_n : Int)) = false
    have h1 := bh1
    have h1 := of_decide_eq_false h1
    obtain rfl := drop_nil hk (by omega)
    refine EXIT (PASS trivial (PASS trivial (OUT (NEXT (SEQ (REGION [0, 1] rfl (RUN0 2 [] [(4, I kk)] ?_ rfl ?_)))))))
    · as_aux_lemma => kernel_rfl
    refine ENDOPS (NEXT (RET (FIN (vi kk) ?_ () ?_ [0] ?_)))
    · as_aux_lemma => kernel_rfl
    · (show vi kk = vi (markReqs a z).2; rw [hv2.2]; rfl)
    · (rw [show (markReqs a z).1 = out by rw [hv2.1, hv0]; rfl]; rfl)

theorem heldReqS_c (W : World) (a : List Req) (a_a : Option Addr) (a_c : Nat) (ha : Rd reqL W a_a a) (z : Int) : Spec Tryd.prog W [] 29 #[.slice a_a a.length a_c, vi z] (RV (vi (heldReqs a z))) := by
  refine ENTER0 (N := 67) (vs := [.slice a_a a.length a_c, vi z]) Tryd.func29 rfl rfl (Nat.le_of_ble_eq_true rfl) ?_
  have ha_len := ha.len
  refine SEQ (REGION [0] rfl (RUN0 1 [] [(0, .v (.slice a_a a.length a_c)), (1, I z)] ?_ rfl ?_))
  · as_aux_lemma => kernel_rfl
  refine ENDOPS (NEXT (SEQ (SEQ (REGION [0] rfl (RUN0 1 [] [(0, .v (.slice a_a a.length a_c)), (1, I z), (5, I 0)] ?_ rfl ?_)))))
  · as_aux_lemma => kernel_rfl
  refine ENDOPS (NEXT (BLOCK (LOOP (ι := Nat × (List Req) × Int) (fun j => [(0, .v (.slice a_a a.length a_c)), (1, I j.2.2), (5, I (j.1 : Int))]) (fun j => []) (fun j => []) (fun j => j.1 + j.2.1.length = a.length ∧ a.drop j.1 = j.2.1 ∧ heldReqs a z = heldReqs j.2.1 j.2.2) (fun j => j.2.1.length) (0, a, z) [0, 1, 5] ⟨by simp, rfl, rfl⟩ ?_ rfl rfl ?_)))
  · as_aux_lemma => kernel_rfl
  rintro ⟨k, ys, kk⟩ ⟨hk, hd, hv0⟩
  dsimp only at hk hd hv0
  refine SEQ (SEQ (REGION [0, 1, 2, 3] rfl (RUN0 4 [] [(0, .v (.slice a_a a.length a_c)), (1, I kk), (5, I (k : Int)), (9, B (decide ((k : Int) < (a.length : Int))))] ?_ rfl ?_)))
  · as_aux_lemma => kernel_rfl
  refine ENDOPS (NEXT (IF (decide ((k : Int) < (a.length : Int))) ?_ (fun bh1 => ?_) (fun bh1 => ?_)))
  · as_aux_lemma => kernel_rfl
  · -- decide ((k : Int) < (a.length : Int)) = true
    have h1 := bh1
    have h1 := of_decide_eq_true h1
    obtain ⟨y2, ys3, rfl, hx_y2, hd_y2, hl_y2⟩ := drop_cons hd hk (by omega)
    refine SKIP (NEXT (SEQ (BLOCK (SEQ (SEQ (REGION [0, 1, 2, 3, 4, 5, 6] rfl (RUN0 2 [2, 3, 4, 5, 6] [(0, .v (.slice a_a a.length a_c)), (1, I kk), (5, I (k : Int)), (12, .v (.slice a_a a.length a_c)), (13, I (k : Int))] ?_ rfl ?_)))))))
    · as_aux_lemma => kernel_rfl
    refine OPC (INDEX 34 (.tmp 12) (.tmp 13) 14 0 ?_ (Nat.le_of_ble_eq_true rfl) a_a a.length a_c .i64 (k : Int) 47 6 ?_ ?_ ?_ ?_ (Rd.some ha (by omega)) (by omega) (by omega) ?_)
    · as_aux_lemma => kernel_rfl
    · as_aux_lemma => kernel_rfl
    · as_aux_lemma => kernel_rfl
    · as_aux_lemma => kernel_rfl
    · as_aux_lemma => kernel_rfl
    refine RUN0 1 [4, 5, 6] [(0, .v (.slice a_a a.length a_c)), (1, I kk), (5, I (k : Int)), (15, .e a_a (k * 6) 0)] ?_ rfl ?_
    · as_aux_lemma => kernel_rfl
    refine OPC (LOADE 3 (.tmp 15) 16 3 ?_ (Nat.le_of_ble_eq_true rfl) a_a (k * 6) 0 [vi y2.kind, vi y2.id, vi y2.cabin, vi y2.from', vi y2.size, vi y2.tier] (vi y2.kind) ?_ (fun w hw => (ha.fr hw.fr).flat hx_y2) ?_ ?_)
    · as_aux_lemma => kernel_rfl
    · as_aux_lemma => kernel_rfl
    · as_aux_lemma => kernel_rfl
    refine RUN0 2 [] [(0, .v (.slice a_a a.length a_c)), (1, I kk), (5, I (k : Int)), (18, B (y2.kind != kk))] ?_ rfl ?_
    · as_aux_lemma => kernel_rfl
    refine ENDOPS (NEXT (IF (y2.kind != kk) ?_ (fun bh4 => ?_) (fun bh4 => ?_)))
    · as_aux_lemma => kernel_rfl
    · -- y2.kind != kk = true
      have h4 := bh4
      have h4 := bne_iff_ne.1 h4
      refine SEQ (REGION [0] rfl (RUN0 1 [] [(4, I (-1))] ?_ rfl ?_))
      · as_aux_lemma => kernel_rfl
      refine ENDOPS (NEXT (RET (PASS trivial (OUTR (PASS trivial (PASS trivial (OUTR (PASS trivial (FIN (vi (-1)) ?_ () ?_ [] ?_)))))))))
      · as_aux_lemma => kernel_rfl
      · (simp only [RV]; rw [hv0]; simp [heldReqs, reqFs, heldInts, *])
      · rfl
    · -- y2.kind != kk = false
      have h4 := bh4
      have h4 := bneF h4
      refine SKIP (NEXT (SEQ (REGION [0, 1, 2] rfl (RUN0 3 [] [(0, .v (.slice a_a a.length a_c)), (1, I (wr (kk + 1))), (5, I (k : Int))] ?_ rfl ?_))))
      · as_aux_lemma => kernel_rfl
      refine ENDOPS (NEXT (SEQ (SEQ (REGION [0, 1, 2, 3, 4, 5, 6] rfl (RUN0 2 [2, 3, 4, 5, 6] [(0, .v (.slice a_a a.length a_c)), (1, I (wr (kk + 1))), (5, I (k : Int)), (21, .v (.slice a_a a.length a_c)), (22, I (k : Int))] ?_ rfl ?_)))))
      · as_aux_lemma => kernel_rfl
      refine OPC (INDEX 34 (.tmp 21) (.tmp 22) 23 0 ?_ (Nat.le_of_ble_eq_true rfl) a_a a.length a_c .i64 (k : Int) 47 6 ?_ ?_ ?_ ?_ (Rd.some ha (by omega)) (by omega) (by omega) ?_)
      · as_aux_lemma => kernel_rfl
      · as_aux_lemma => kernel_rfl
      · as_aux_lemma => kernel_rfl
      · as_aux_lemma => kernel_rfl
      · as_aux_lemma => kernel_rfl
      refine RUN0 1 [4, 5, 6] [(0, .v (.slice a_a a.length a_c)), (1, I (wr (kk + 1))), (5, I (k : Int)), (24, .e a_a (k * 6) 1)] ?_ rfl ?_
      · as_aux_lemma => kernel_rfl
      refine OPC (LOADE 3 (.tmp 24) 25 3 ?_ (Nat.le_of_ble_eq_true rfl) a_a (k * 6) 1 [vi y2.kind, vi y2.id, vi y2.cabin, vi y2.from', vi y2.size, vi y2.tier] (vi y2.id) ?_ (fun w hw => (ha.fr hw.fr).flat hx_y2) ?_ ?_)
      · as_aux_lemma => kernel_rfl
      · as_aux_lemma => kernel_rfl
      · as_aux_lemma => kernel_rfl
      refine RUN0 2 [] [(0, .v (.slice a_a a.length a_c)), (1, I (wr (kk + 1))), (5, I (k : Int)), (27, B (y2.id != (wr (kk + 1))))] ?_ rfl ?_
      · as_aux_lemma => kernel_rfl
      refine ENDOPS (NEXT (IF (y2.id != (wr (kk + 1))) ?_ (fun bh5 => ?_) (fun bh5 => ?_)))
      · as_aux_lemma => kernel_rfl
      · -- y2.id != (wr (kk + 1)) = true
        have h5 := bh5
        have h5 := bne_iff_ne.1 h5
        refine SEQ (REGION [0] rfl (RUN0 1 [] [(4, I (-1))] ?_ rfl ?_))
        · as_aux_lemma => kernel_rfl
        refine ENDOPS (NEXT (RET (PASS trivial (OUTR (PASS trivial (PASS trivial (OUTR (PASS trivial (FIN (vi (-1)) ?_ () ?_ [] ?_)))))))))
        · as_aux_lemma => kernel_rfl
        · (simp only [RV]; rw [hv0]; simp [heldReqs, reqFs, heldInts, *])
        · rfl
      · -- y2.id != (wr (kk + 1)) = false
        have h5 := bh5
        have h5 := bneF h5
        refine SKIP (NEXT (SEQ (REGION [0, 1, 2] rfl (RUN0 3 [] [(0, .v (.slice a_a a.length a_c)), (1, I (wr ((wr (kk + 1)) + 1))), (5, I (k : Int))] ?_ rfl ?_))))
        · as_aux_lemma => kernel_rfl
        refine ENDOPS (NEXT (SEQ (SEQ (REGION [0, 1, 2, 3, 4, 5, 6] rfl (RUN0 2 [2, 3, 4, 5, 6] [(0, .v (.slice a_a a.length a_c)), (1, I (wr ((wr (kk + 1)) + 1))), (5, I (k : Int)), (30, .v (.slice a_a a.length a_c)), (31, I (k : Int))] ?_ rfl ?_)))))
        · as_aux_lemma => kernel_rfl
        refine OPC (INDEX 34 (.tmp 30) (.tmp 31) 32 0 ?_ (Nat.le_of_ble_eq_true rfl) a_a a.length a_c .i64 (k : Int) 47 6 ?_ ?_ ?_ ?_ (Rd.some ha (by omega)) (by omega) (by omega) ?_)
        · as_aux_lemma => kernel_rfl
        · as_aux_lemma => kernel_rfl
        · as_aux_lemma => kernel_rfl
        · as_aux_lemma => kernel_rfl
        · as_aux_lemma => kernel_rfl
        refine RUN0 1 [4, 5, 6] [(0, .v (.slice a_a a.length a_c)), (1, I (wr ((wr (kk + 1)) + 1))), (5, I (k : Int)), (33, .e a_a (k * 6) 2)] ?_ rfl ?_
        · as_aux_lemma => kernel_rfl
        refine OPC (LOADE 3 (.tmp 33) 34 3 ?_ (Nat.le_of_ble_eq_true rfl) a_a (k * 6) 2 [vi y2.kind, vi y2.id, vi y2.cabin, vi y2.from', vi y2.size, vi y2.tier] (vi y2.cabin) ?_ (fun w hw => (ha.fr hw.fr).flat hx_y2) ?_ ?_)
        · as_aux_lemma => kernel_rfl
        · as_aux_lemma => kernel_rfl
        · as_aux_lemma => kernel_rfl
        refine RUN0 2 [] [(0, .v (.slice a_a a.length a_c)), (1, I (wr ((wr (kk + 1)) + 1))), (5, I (k : Int)), (36, B (y2.cabin != (wr ((wr (kk + 1)) + 1))))] ?_ rfl ?_
        · as_aux_lemma => kernel_rfl
        refine ENDOPS (NEXT (IF (y2.cabin != (wr ((wr (kk + 1)) + 1))) ?_ (fun bh6 => ?_) (fun bh6 => ?_)))
        · as_aux_lemma => kernel_rfl
        · -- y2.cabin != (wr ((wr (kk + 1)) + 1)) = true
          have h6 := bh6
          have h6 := bne_iff_ne.1 h6
          refine SEQ (REGION [0] rfl (RUN0 1 [] [(4, I (-1))] ?_ rfl ?_))
          · as_aux_lemma => kernel_rfl
          refine ENDOPS (NEXT (RET (PASS trivial (OUTR (PASS trivial (PASS trivial (OUTR (PASS trivial (FIN (vi (-1)) ?_ () ?_ [] ?_)))))))))
          · as_aux_lemma => kernel_rfl
          · (simp only [RV]; rw [hv0]; simp [heldReqs, reqFs, heldInts, *])
          · rfl
        · -- y2.cabin != (wr ((wr (kk + 1)) + 1)) = false
          have h6 := bh6
          have h6 := bneF h6
          refine SKIP (NEXT (SEQ (REGION [0, 1, 2] rfl (RUN0 3 [] [(0, .v (.slice a_a a.length a_c)), (1, I (wr ((wr ((wr (kk + 1)) + 1)) + 1))), (5, I (k : Int))] ?_ rfl ?_))))
          · as_aux_lemma => kernel_rfl
          refine ENDOPS (NEXT (SEQ (SEQ (REGION [0, 1, 2, 3, 4, 5, 6] rfl (RUN0 2 [2, 3, 4, 5, 6] [(0, .v (.slice a_a a.length a_c)), (1, I (wr ((wr ((wr (kk + 1)) + 1)) + 1))), (5, I (k : Int)), (39, .v (.slice a_a a.length a_c)), (40, I (k : Int))] ?_ rfl ?_)))))
          · as_aux_lemma => kernel_rfl
          refine OPC (INDEX 34 (.tmp 39) (.tmp 40) 41 0 ?_ (Nat.le_of_ble_eq_true rfl) a_a a.length a_c .i64 (k : Int) 47 6 ?_ ?_ ?_ ?_ (Rd.some ha (by omega)) (by omega) (by omega) ?_)
          · as_aux_lemma => kernel_rfl
          · as_aux_lemma => kernel_rfl
          · as_aux_lemma => kernel_rfl
          · as_aux_lemma => kernel_rfl
          · as_aux_lemma => kernel_rfl
          refine RUN0 1 [4, 5, 6] [(0, .v (.slice a_a a.length a_c)), (1, I (wr ((wr ((wr (kk + 1)) + 1)) + 1))), (5, I (k : Int)), (42, .e a_a (k * 6) 3)] ?_ rfl ?_
          · as_aux_lemma => kernel_rfl
          refine OPC (LOADE 3 (.tmp 42) 43 3 ?_ (Nat.le_of_ble_eq_true rfl) a_a (k * 6) 3 [vi y2.kind, vi y2.id, vi y2.cabin, vi y2.from', vi y2.size, vi y2.tier] (vi y2.from') ?_ (fun w hw => (ha.fr hw.fr).flat hx_y2) ?_ ?_)
          · as_aux_lemma => kernel_rfl
          · as_aux_lemma => kernel_rfl
          · as_aux_lemma => kernel_rfl
          refine RUN0 2 [] [(0, .v (.slice a_a a.length a_c)), (1, I (wr ((wr ((wr (kk + 1)) + 1)) + 1))), (5, I (k : Int)), (45, B (y2.from' != (wr ((wr ((wr (kk + 1)) + 1)) + 1))))] ?_ rfl ?_
          · as_aux_lemma => kernel_rfl
          refine ENDOPS (NEXT (IF (y2.from' != (wr ((wr ((wr (kk + 1)) + 1)) + 1))) ?_ (fun bh7 => ?_) (fun bh7 => ?_)))
          · as_aux_lemma => kernel_rfl
          · -- y2.from' != (wr ((wr ((wr (kk + 1)) + 1)) + 1)) = true
            have h7 := bh7
            have h7 := bne_iff_ne.1 h7
            refine SEQ (REGION [0] rfl (RUN0 1 [] [(4, I (-1))] ?_ rfl ?_))
            · as_aux_lemma => kernel_rfl
            refine ENDOPS (NEXT (RET (PASS trivial (OUTR (PASS trivial (PASS trivial (OUTR (PASS trivial (FIN (vi (-1)) ?_ () ?_ [] ?_)))))))))
            · as_aux_lemma => kernel_rfl
            · (simp only [RV]; rw [hv0]; simp [heldReqs, reqFs, heldInts, *])
            · rfl
          · -- y2.from' != (wr ((wr ((wr (kk + 1)) + 1)) + 1)) = false
            have h7 := bh7
            have h7 := bneF h7
            refine SKIP (NEXT (SEQ (REGION [0, 1, 2] rfl (RUN0 3 [] [(0, .v (.slice a_a a.length a_c)), (1, I (wr ((wr ((wr ((wr (kk + 1)) + 1)) + 1)) + 1))), (5, I (k : Int))] ?_ rfl ?_))))
            · as_aux_lemma => kernel_rfl
            refine ENDOPS (NEXT (SEQ (SEQ (REGION [0, 1, 2, 3, 4, 5, 6] rfl (RUN0 2 [2, 3, 4, 5, 6] [(0, .v (.slice a_a a.length a_c)), (1, I (wr ((wr ((wr ((wr (kk + 1)) + 1)) + 1)) + 1))), (5, I (k : Int)), (48, .v (.slice a_a a.length a_c)), (49, I (k : Int))] ?_ rfl ?_)))))
            · as_aux_lemma => kernel_rfl
            refine OPC (INDEX 34 (.tmp 48) (.tmp 49) 50 0 ?_ (Nat.le_of_ble_eq_true rfl) a_a a.length a_c .i64 (k : Int) 47 6 ?_ ?_ ?_ ?_ (Rd.some ha (by omega)) (by omega) (by omega) ?_)
            · as_aux_lemma => kernel_rfl
            · as_aux_lemma => kernel_rfl
            · as_aux_lemma => kernel_rfl
            · as_aux_lemma => kernel_rfl
            · as_aux_lemma => kernel_rfl
            refine RUN0 1 [4, 5, 6] [(0, .v (.slice a_a a.length a_c)), (1, I (wr ((wr ((wr ((wr (kk + 1)) + 1)) + 1)) + 1))), (5, I (k : Int)), (51, .e a_a (k * 6) 4)] ?_ rfl ?_
            · as_aux_lemma => kernel_rfl
            refine OPC (LOADE 3 (.tmp 51) 52 3 ?_ (Nat.le_of_ble_eq_true rfl) a_a (k * 6) 4 [vi y2.kind, vi y2.id, vi y2.cabin, vi y2.from', vi y2.size, vi y2.tier] (vi y2.size) ?_ (fun w hw => (ha.fr hw.fr).flat hx_y2) ?_ ?_)
            · as_aux_lemma => kernel_rfl
            · as_aux_lemma => kernel_rfl
            · as_aux_lemma => kernel_rfl
            refine RUN0 2 [] [(0, .v (.slice a_a a.length a_c)), (1, I (wr ((wr ((wr ((wr (kk + 1)) + 1)) + 1)) + 1))), (5, I (k : Int)), (54, B (y2.size != (wr ((wr ((wr ((wr (kk + 1)) + 1)) + 1)) + 1))))] ?_ rfl ?_
            · as_aux_lemma => kernel_rfl
            refine ENDOPS (NEXT (IF (y2.size != (wr ((wr ((wr ((wr (kk + 1)) + 1)) + 1)) + 1))) ?_ (fun bh8 => ?_) (fun bh8 => ?_)))
            · as_aux_lemma => kernel_rfl
            · -- y2.size != (wr ((wr ((wr ((wr (kk + 1)) + 1)) + 1)) + 1)) = true
              have h8 := bh8
              have h8 := bne_iff_ne.1 h8
              refine SEQ (REGION [0] rfl (RUN0 1 [] [(4, I (-1))] ?_ rfl ?_))
              · as_aux_lemma => kernel_rfl
              refine ENDOPS (NEXT (RET (PASS trivial (OUTR (PASS trivial (PASS trivial (OUTR (PASS trivial (FIN (vi (-1)) ?_ () ?_ [] ?_)))))))))
              · as_aux_lemma => kernel_rfl
              · (simp only [RV]; rw [hv0]; simp [heldReqs, reqFs, heldInts, *])
              · rfl
            · -- y2.size != (wr ((wr ((wr ((wr (kk + 1)) + 1)) + 1)) + 1)) = false
              have h8 := bh8
              have h8 := bneF h8
              refine SKIP (NEXT (SEQ (REGION [0, 1, 2] rfl (RUN0 3 [] [(0, .v (.slice a_a a.length a_c)), (1, I (wr ((wr ((wr ((wr ((wr (kk + 1)) + 1)) + 1)) + 1)) + 1))), (5, I (k : Int))] ?_ rfl ?_))))
              · as_aux_lemma => kernel_rfl
              refine ENDOPS (NEXT (SEQ (SEQ (REGION [0, 1, 2, 3, 4, 5, 6] rfl (RUN0 2 [2, 3, 4, 5, 6] [(0, .v (.slice a_a a.length a_c)), (1, I (wr ((wr ((wr ((wr ((wr (kk + 1)) + 1)) + 1)) + 1)) + 1))), (5, I (k : Int)), (57, .v (.slice a_a a.length a_c)), (58, I (k : Int))] ?_ rfl ?_)))))
              · as_aux_lemma => kernel_rfl
              refine OPC (INDEX 34 (.tmp 57) (.tmp 58) 59 0 ?_ (Nat.le_of_ble_eq_true rfl) a_a a.length a_c .i64 (k : Int) 47 6 ?_ ?_ ?_ ?_ (Rd.some ha (by omega)) (by omega) (by omega) ?_)
              · as_aux_lemma => kernel_rfl
              · as_aux_lemma => kernel_rfl
              · as_aux_lemma => kernel_rfl
              · as_aux_lemma => kernel_rfl
              · as_aux_lemma => kernel_rfl
              refine RUN0 1 [4, 5, 6] [(0, .v (.slice a_a a.length a_c)), (1, I (wr ((wr ((wr ((wr ((wr (kk + 1)) + 1)) + 1)) + 1)) + 1))), (5, I (k : Int)), (60, .e a_a (k * 6) 5)] ?_ rfl ?_
              · as_aux_lemma => kernel_rfl
              refine OPC (LOADE 3 (.tmp 60) 61 3 ?_ (Nat.le_of_ble_eq_true rfl) a_a (k * 6) 5 [vi y2.kind, vi y2.id, vi y2.cabin, vi y2.from', vi y2.size, vi y2.tier] (vi y2.tier) ?_ (fun w hw => (ha.fr hw.fr).flat hx_y2) ?_ ?_)
              · as_aux_lemma => kernel_rfl
              · as_aux_lemma => kernel_rfl
              · as_aux_lemma => kernel_rfl
              refine RUN0 2 [] [(0, .v (.slice a_a a.length a_c)), (1, I (wr ((wr ((wr ((wr ((wr (kk + 1)) + 1)) + 1)) + 1)) + 1))), (5, I (k : Int)), (63, B (y2.tier != (wr ((wr ((wr ((wr ((wr (kk + 1)) + 1)) + 1)) + 1)) + 1))))] ?_ rfl ?_
              · as_aux_lemma => kernel_rfl
              refine ENDOPS (NEXT (IF (y2.tier != (wr ((wr ((wr ((wr ((wr (kk + 1)) + 1)) + 1)) + 1)) + 1))) ?_ (fun bh9 => ?_) (fun bh9 => ?_)))
              · as_aux_lemma => kernel_rfl
              · -- y2.tier != (wr ((wr ((wr ((wr ((wr (kk + 1)) + 1)) + 1)) + 1)) + 1)) = true
                have h9 := bh9
                have h9 := bne_iff_ne.1 h9
                refine SEQ (REGION [0] rfl (RUN0 1 [] [(4, I (-1))] ?_ rfl ?_))
                · as_aux_lemma => kernel_rfl
                refine ENDOPS (NEXT (RET (PASS trivial (OUTR (PASS trivial (PASS trivial (OUTR (PASS trivial (FIN (vi (-1)) ?_ () ?_ [] ?_)))))))))
                · as_aux_lemma => kernel_rfl
                · (simp only [RV]; rw [hv0]; simp [heldReqs, reqFs, heldInts, *])
                · rfl
              · -- y2.tier != (wr ((wr ((wr ((wr ((wr (kk + 1)) + 1)) + 1)) + 1)) + 1)) = false
                have h9 := bh9
                have h9 := bneF h9
                refine SKIP (NEXT (REGION [0, 1, 2] rfl (RUN0 3 [] [(0, .v (.slice a_a a.length a_c)), (1, I (wr ((wr ((wr ((wr ((wr ((wr (kk + 1)) + 1)) + 1)) + 1)) + 1)) + 1))), (5, I (k : Int))] ?_ rfl ?_)))
                · as_aux_lemma => kernel_rfl
                refine ENDOPS (OUTN (NEXT (REGION [0, 1, 2] rfl (RUN0 2 [2] [(0, .v (.slice a_a a.length a_c)), (1, I (wr ((wr ((wr ((wr ((wr ((wr (kk + 1)) + 1)) + 1)) + 1)) + 1)) + 1))), (11, I (wr ((k : Int) + 1)))] ?_ rfl ?_))))
                · as_aux_lemma => kernel_rfl
                refine CAST (d := 11) (vi (wr ((k : Int) + 1))) (vi ((k + 1 : Nat) : Int)) ?_ (vi_cast (by omega) (by omega)) ?_
                · as_aux_lemma => kernel_rfl
                refine RUN0 1 [] [(0, .v (.slice a_a a.length a_c)), (1, I (wr ((wr ((wr ((wr ((wr ((wr (kk + 1)) + 1)) + 1)) + 1)) + 1)) + 1))), (5, I ((k + 1 : Nat) : Int))] ?_ rfl ?_
                · as_aux_lemma => kernel_rfl
                refine ENDOPS (BACK (k + 1, ys3, wr ((wr ((wr ((wr ((wr ((wr (kk + 1)) + 1)) + 1)) + 1)) + 1)) + 1)) [0, 1, 5] 0 [] _ ⟨hl_y2, hd_y2, hv0.trans (by simp [heldReqs, reqFs, heldInts, *])⟩ (by simp) ?_ rfl rfl rfl)
                · as_aux_lemma => kernel_rfl
  · -- decide ((k : Int) < (a.length : Int)) = false
    have h1 := bh1
    have h1 := of_decide_eq_false h1
    obtain rfl := drop_nil hk (by omega)
    refine EXIT (PASS trivial (PASS trivial (OUT (NEXT (SEQ (REGION [0, 1] rfl (RUN0 2 [] [(4, I kk)] ?_ rfl ?_)))))))
    · as_aux_lemma => kernel_rfl
    refine ENDOPS (NEXT (RET (FIN (vi kk) ?_ () ?_ [] ?_)))
    · as_aux_lemma => kernel_rfl
    · (simp only [RV]; rw [hv0]; simp [heldReqs, reqFs, heldInts, *])
    · rfl

theorem sReadScript_c (W : World) (s : List UInt8) (hl : s.length ≤ 1048576) : Spec Tryd.prog W [] 26 #[.string (bs s)] (⟨HH, fun p => .tuple #[.slice p.1 (((readScript s).1).length) p.2, vi ((readScript s).2)], fun p => [slA 47 reqL (.slice p.1 ((readScript s).1).length p.2) ((readScript s).1)]⟩) := by
  refine ENTER0 (N := 42) (vs := [.string (bs s)]) Tryd.func26 rfl rfl (Nat.le_of_ble_eq_true rfl) ?_
  refine SEQ (REGION [0, 1] rfl (RUN0 2 [] [(0, .v (.string (bs s)))] ?_ rfl ?_))
  · as_aux_lemma => kernel_rfl
  refine ENDOPS (NEXT (SEQ (REGION [0, 1] rfl (OPC (BUILDS 34 0 #[] 9 34 ?_ (Nat.le_of_ble_eq_true rfl) 47 [] ?_ reqL [] rfl (by simp only [maxLen]; omega) [] [] _ rfl (flatRep rfl) (fun a1 ha2 => ?_))))))
  · as_aux_lemma => kernel_rfl
  · as_aux_lemma => kernel_rfl
  refine RUN0 1 [] [(0, .v (.string (bs s))), (4, .v (.slice a1 0 0))] ?_ rfl ?_
  · as_aux_lemma => kernel_rfl
  refine ENDOPS (NEXT (SEQ (SEQ (REGION [0, 1] rfl (RUN0 1 [1] [(0, .v (.string (bs s))), (4, .v (.slice a1 0 0)), (10, .v (.string (bs s)))] ?_ rfl ?_)))))
  · as_aux_lemma => kernel_rfl
  refine OPC (RUNV (.binOp .eql 9 (.tmp 10) (.const (.string (bs ([])))) 9) 11 4 ?_ (Nat.le_of_ble_eq_true rfl) (.bool (s == ([]))) (runs_seql (a := s) (b := []) ?_ ?_) ?_)
  · as_aux_lemma => kernel_rfl
  · as_aux_lemma => kernel_rfl
  · as_aux_lemma => kernel_rfl
  refine ENDOPS (NEXT (IF (s == ([])) ?_ (fun bh3 => ?_) (fun bh3 => ?_)))
  · as_aux_lemma => kernel_rfl
  · -- s == ([]) = true
    have h3 := bh3
    have h3 := eq_of_beq h3
    refine SEQ (REGION [0, 1, 2] rfl (RUN0 3 [] [(2, .v (.slice a1 0 0)), (3, I (-1))] ?_ rfl ?_))
    · as_aux_lemma => kernel_rfl
    refine ENDOPS (NEXT (RET (PASS trivial ?_)))
    have efin : readScript s = ([], -1) := by first | exact readScript_nil (by assumption) | exact readScript_big (by assumption) (by omega) | (rw [readScript_of (by assumption) (by omega), hv0]; first | rfl | exact readGo_none (by assumption) | (rw [← read_eq] at *; exact readGo_none (by assumption)))
    refine FIN (.tuple #[.slice a1 0 0, vi (-1)]) ?_ (a1, 0) ?_ [0] ?_
    · as_aux_lemma => kernel_rfl
    · (rw [efin] <;> rfl)
    · (rw [efin] <;> rfl)
  · -- s == ([]) = false
    have h3 := bh3
    have h3 := ne_of_beq_false h3
    refine SKIP (NEXT (SEQ (REGION [0, 1, 2] rfl (RUN0 1 [1, 2] [(4, .v (.slice a1 0 0)), (13, .v (.string (bs s)))] ?_ rfl ?_))))
    · as_aux_lemma => kernel_rfl
    refine OPC (CALL 46 #[.string (bs s), .int .u8 10] (some 14) ?_ [] [] _ rfl (⟨HH, fun p => .slice p.1 ((parts s 10).length) p.2, fun p => [slA 9 strL (.slice p.1 (parts s 10).length p.2) (parts s 10)]⟩) (fun w hw => sParts_c w s 10 (by first | assumption | omega)) (by rintro _ ⟨⟩; exact Nat.le_of_ble_eq_true rfl) ?_)
    · as_aux_lemma => kernel_rfl
    rintro ⟨a4, c5⟩
    have hr6 := parts_len s 10
    refine RUN0 1 [] [(4, .v (.slice a1 0 0)), (5, .v (.slice a4 ((parts s 10).length) c5))] ?_ rfl ?_
    · as_aux_lemma => kernel_rfl
    refine ENDOPS (NEXT (SEQ (SEQ (REGION [0, 1, 2] rfl (RUN0 3 [] [(4, .v (.slice a1 0 0)), (5, .v (.slice a4 ((parts s 10).length) c5)), (17, B (decide ((((parts s 10).length : Nat) : Int) > 200)))] ?_ rfl ?_)))))
    · as_aux_lemma => kernel_rfl
    refine ENDOPS (NEXT (IF (decide ((((parts s 10).length : Nat) : Int) > 200)) ?_ (fun bh7 => ?_) (fun bh7 => ?_)))
    · as_aux_lemma => kernel_rfl
    · -- decide ((((parts s 10).length : Nat) : Int) > 200) = true
      have h7 := bh7
      have h7 := of_decide_eq_true h7
      refine SEQ (REGION [0, 1, 2] rfl (RUN0 3 [] [(2, .v (.slice a1 0 0)), (3, I 200)] ?_ rfl ?_))
      · as_aux_lemma => kernel_rfl
      refine ENDOPS (NEXT (RET (PASS trivial ?_)))
      have efin : readScript s = ([], 200) := by first | exact readScript_nil (by assumption) | exact readScript_big (by assumption) (by omega) | (rw [readScript_of (by assumption) (by omega), hv0]; first | rfl | exact readGo_none (by assumption) | (rw [← read_eq] at *; exact readGo_none (by assumption)))
      refine FIN (.tuple #[.slice a1 0 0, vi 200]) ?_ (a1, 0) ?_ [0] ?_
      · as_aux_lemma => kernel_rfl
      · (rw [efin] <;> rfl)
      · (rw [efin] <;> rfl)
    · -- decide ((((parts s 10).length : Nat) : Int) > 200) = false
      have h7 := bh7
      have h7 := of_decide_eq_false h7
      refine SKIP (NEXT (SEQ (SEQ (REGION [0] rfl (RUN0 1 [] [(4, .v (.slice a1 0 0)), (5, .v (.slice a4 ((parts s 10).length) c5)), (6, I 0)] ?_ rfl ?_)))))
      · as_aux_lemma => kernel_rfl
      refine ENDOPS (NEXT (BLOCK (LOOP (ι := Nat × (List (List UInt8)) × (Option Addr) × Nat × (List Req)) (fun j => [(4, .v (.slice j.2.2.1 j.2.2.2.2.length j.2.2.2.1)), (5, .v (.slice a4 ((parts s 10).length) c5)), (6, I (j.1 : Int))]) (fun j => []) (fun j => [slA 47 reqL (.slice j.2.2.1 j.2.2.2.2.length j.2.2.2.1) j.2.2.2.2, slA 9 strL (.slice a4 (parts s 10).length c5) (parts s 10)]) (fun j => j.1 + j.2.1.length = (parts s 10).length ∧ (parts s 10).drop j.1 = j.2.1 ∧ readGo 0 [] (parts s 10) = readGo j.1 j.2.2.2.2 j.2.1 ∧ j.2.2.2.2.length = j.1) (fun j => j.2.1.length) (0, (parts s 10), a1, 0, []) [4, 5, 6] ⟨by simp, rfl, rfl, rfl⟩ ?_ rfl rfl ?_)))
      · as_aux_lemma => kernel_rfl
      rintro ⟨k, ys, oa, oc, out⟩ ⟨hk, hd, hv0, hv1⟩
      dsimp only at hk hd hv0 hv1
      refine SEQ (SEQ (REGION [0, 1, 2, 3] rfl (RUN0 4 [] [(4, .v (.slice oa out.length oc)), (5, .v (.slice a4 ((parts s 10).length) c5)), (6, I (k : Int)), (22, B (decide ((k : Int) < (((parts s 10).length : Nat) : Int))))] ?_ rfl ?_)))
      · as_aux_lemma => kernel_rfl
      refine ENDOPS (NEXT (IF (decide ((k : Int) < (((parts s 10).length : Nat) : Int))) ?_ (fun bh8 => ?_) (fun bh8 => ?_)))
      · as_aux_lemma => kernel_rfl
      · -- decide ((k : Int) < (((parts s 10).length : Nat) : Int)) = true
        have h8 := bh8
        have h8 := of_decide_eq_true h8
        obtain ⟨y9, ys10, rfl, hx_y9, hd_y9, hl_y9⟩ := drop_cons hd hk (by omega)
        have hm_y9 := parts_mem (List.mem_of_getElem? hx_y9)
        refine SKIP (NEXT (SEQ (BLOCK (SEQ (REGION [0, 1, 2, 3, 4, 5, 6, 7, 8, 9, 10] rfl (RUN0 2 [2, 3, 4, 5, 6, 7, 8, 9, 10] [(4, .v (.slice oa out.length oc)), (5, .v (.slice a4 ((parts s 10).length) c5)), (6, I (k : Int)), (26, .v (.slice a4 ((parts s 10).length) c5)), (27, I (k : Int))] ?_ rfl ?_))))))
        · as_aux_lemma => kernel_rfl
        refine FACT (a4.isSome = true) (fun w hw => SlO.isS (hw.own 1 rfl) (by omega)) (fun hs11 => ?_)
        refine OPC (INDEX 41 (.tmp 26) (.tmp 27) 28 0 ?_ (Nat.le_of_ble_eq_true rfl) a4 ((parts s 10).length) c5 .i64 (k : Int) 9 1 ?_ ?_ ?_ ?_ hs11 (by omega) (by omega) ?_)
        · as_aux_lemma => kernel_rfl
        · as_aux_lemma => kernel_rfl
        · as_aux_lemma => kernel_rfl
        · as_aux_lemma => kernel_rfl
        · as_aux_lemma => kernel_rfl
        refine OPC (LOADE 9 (.tmp 28) 29 9 ?_ (Nat.le_of_ble_eq_true rfl) a4 (k * 1) 0 [.string (bs y9)] (.string (bs y9)) ?_ (fun w hw => (Rd.own (hw.own 1 rfl)).flat hx_y9) ?_ ?_)
        · as_aux_lemma => kernel_rfl
        · as_aux_lemma => kernel_rfl
        · as_aux_lemma => kernel_rfl
        refine OPC (CALL 23 #[.string (bs y9)] (some 30) ?_ [] [] _ rfl (RV (.tuple #[.agg #[vi ((optReq (readS y9)).kind), vi ((optReq (readS y9)).id), vi ((optReq (readS y9)).cabin), vi ((optReq (readS y9)).from'), vi ((optReq (readS y9)).size), vi ((optReq (readS y9)).tier)], .bool ((readS y9).isSome)])) (fun w hw => sReadReq_c w y9 (by first | assumption | omega)) (by rintro _ ⟨⟩; exact Nat.le_of_ble_eq_true rfl) ?_)
        · as_aux_lemma => kernel_rfl
        rintro ⟨⟩
        refine RUN 6 [] [(4, .v (.slice oa out.length oc)), (5, .v (.slice a4 ((parts s 10).length) c5)), (6, I (k : Int)), (7, .p 0 0), (8, B ((readS y9).isSome))] [(47, [vi ((optReq (readS y9)).kind), vi ((optReq (readS y9)).id), vi ((optReq (readS y9)).cabin), vi ((optReq (readS y9)).from'), vi ((optReq (readS y9)).size), vi ((optReq (readS y9)).tier)])] ?_ rfl ?_
        · as_aux_lemma => kernel_rfl
        refine ENDOPS (NEXT (SEQ (SEQ (REGION [0, 1] rfl (RUN0 2 [] [(4, .v (.slice oa out.length oc)), (5, .v (.slice a4 ((parts s 10).length) c5)), (6, I (k : Int)), (7, .p 0 0), (34, B (!((readS y9).isSome)))] ?_ rfl ?_)))))
        · as_aux_lemma => kernel_rfl
        refine ENDOPS (NEXT (IF (!((readS y9).isSome)) ?_ (fun bh12 => ?_) (fun bh12 => ?_)))
        · as_aux_lemma => kernel_rfl
        · -- !((readS y9).isSome) = true
          have h12 := bh12
          have h12 := notT h12
          refine SEQ (REGION [0, 1, 2, 3] rfl (OPC (BUILDS 34 0 #[] 35 34 ?_ (Nat.le_of_ble_eq_true rfl) 47 [] ?_ reqL [] rfl (by simp only [maxLen]; omega) [] [] _ rfl (flatRep rfl) (fun a13 ha14 => ?_))))
          · as_aux_lemma => kernel_rfl
          · as_aux_lemma => kernel_rfl
          refine RUN0 3 [] [(2, .v (.slice a13 0 0)), (3, I (k : Int))] ?_ rfl ?_
          · as_aux_lemma => kernel_rfl
          refine ENDOPS (NEXT (RET (PASS trivial (OUTR (PASS trivial (PASS trivial (OUTR (PASS trivial ?_))))))))
          have efin : readScript s = ([], (k : Int)) := by first | exact readScript_nil (by assumption) | exact readScript_big (by assumption) (by omega) | (rw [readScript_of (by assumption) (by omega), hv0]; first | rfl | exact readGo_none (by assumption) | (rw [← read_eq] at *; exact readGo_none (by assumption)))
          refine FIN (.tuple #[.slice a13 0 0, vi (k : Int)]) ?_ (a13, 0) ?_ [2] ?_
          · as_aux_lemma => kernel_rfl
          · (rw [efin] <;> rfl)
          · (rw [efin] <;> rfl)
        · -- !((readS y9).isSome) = false
          have h12 := bh12
          have h12 := notF h12
          refine SKIP (NEXT (REGION [0, 1, 2, 3, 4] rfl (RUN0 2 [2, 3, 4] [(5, .v (.slice a4 ((parts s 10).length) c5)), (6, I (k : Int)), (37, .v (.slice oa out.length oc)), (38, .v (.agg #[vi ((optReq (readS y9)).kind), vi ((optReq (readS y9)).id), vi ((optReq (readS y9)).cabin), vi ((optReq (readS y9)).from'), vi ((optReq (readS y9)).size), vi ((optReq (readS y9)).tier)]))] ?_ rfl ?_)))
          · as_aux_lemma => kernel_rfl
          refine OPC (BUILDS 34 1 #[(0, .tmp 38)] 39 34 ?_ (Nat.le_of_ble_eq_true rfl) 47 [vi ((optReq (readS y9)).kind), vi ((optReq (readS y9)).id), vi ((optReq (readS y9)).cabin), vi ((optReq (readS y9)).from'), vi ((optReq (readS y9)).size), vi ((optReq (readS y9)).tier)] ?_ reqL [(optReq (readS y9))] rfl (by simp only [maxLen]; omega) [] [] _ rfl (flatRep rfl) (fun a15 ha16 => ?_))
          · as_aux_lemma => kernel_rfl
          · as_aux_lemma => kernel_rfl
          refine OPC (APPENDO 34 (.tmp 37) (.tmp 39) 40 34 ?_ (Nat.le_of_ble_eq_true rfl) (.slice oa out.length oc) a15 1 1 ?_ ?_ ha16 47 ?_ reqL (.agg #[vi 0, vi 0, vi 0, vi 0, vi 0, vi 0]) 48 ?_ rfl (by decide) 0 1 out ([(optReq (readS y9))]) _ rfl rfl (by first | omega | (simp only [List.length_append, List.length_cons, List.length_nil, List.length_take, List.length_drop] at *; omega)) (by simp only [maxLen]; first | omega | (simp only [List.length_append, List.length_cons, List.length_nil, List.length_take, List.length_drop] at *; omega)) (fun a17 c18 hn19 => ?_))
          · as_aux_lemma => kernel_rfl
          · as_aux_lemma => kernel_rfl
          · as_aux_lemma => kernel_rfl
          · as_aux_lemma => kernel_rfl
          · as_aux_lemma => kernel_rfl
          refine RUN0 1 [] [(4, .v (.slice a17 ((out ++ ([(optReq (readS y9))])).length) c18)), (5, .v (.slice a4 ((parts s 10).length) c5)), (6, I (k : Int))] ?_ rfl ?_
          · as_aux_lemma => kernel_rfl
          refine ENDOPS (OUTN (NEXT (REGION [0, 1, 2] rfl (RUN0 2 [2] [(4, .v (.slice a17 ((out ++ ([(optReq (readS y9))])).length) c18)), (5, .v (.slice a4 ((parts s 10).length) c5)), (24, I (wr ((k : Int) + 1)))] ?_ rfl ?_))))
          · as_aux_lemma => kernel_rfl
          refine CAST (d := 24) (vi (wr ((k : Int) + 1))) (vi ((k + 1 : Nat) : Int)) ?_ (vi_cast (by omega) (by omega)) ?_
          · as_aux_lemma => kernel_rfl
          refine RUN0 1 [] [(4, .v (.slice a17 ((out ++ ([(optReq (readS y9))])).length) c18)), (5, .v (.slice a4 ((parts s 10).length) c5)), (6, I ((k + 1 : Nat) : Int))] ?_ rfl ?_
          · as_aux_lemma => kernel_rfl
          refine ENDOPS (BACK (k + 1, ys10, a17, c18, out ++ ([(optReq (readS y9))])) [4, 5, 6] 0 [1, 0] _ ⟨hl_y9, hd_y9, hv0.trans (by first | exact readGo_some (by assumption) | (have h9 : (readS y9).isSome = true := (by assumption); rw [← read_eq] at h9 ⊢; exact readGo_some h9)), (by simp only [List.length_append, List.length_cons, List.length_nil]; omega)⟩ (by simp) ?_ rfl rfl rfl)
          · as_aux_lemma => kernel_rfl
      · -- decide ((k : Int) < (((parts s 10).length : Nat) : Int)) = false
        have h8 := bh8
        have h8 := of_decide_eq_false h8
        obtain rfl := drop_nil hk (by omega)
        refine EXIT (PASS trivial (PASS trivial (OUT (NEXT (SEQ (REGION [0, 1, 2] rfl (RUN0 3 [] [(2, .v (.slice oa out.length oc)), (3, I (-1))] ?_ rfl ?_)))))))
        · as_aux_lemma => kernel_rfl
        refine ENDOPS (NEXT (RET ?_))
        have efin : readScript s = (out, -1) := by first | exact readScript_nil (by assumption) | exact readScript_big (by assumption) (by omega) | (rw [readScript_of (by assumption) (by omega), hv0]; first | rfl | exact readGo_none (by assumption) | (rw [← read_eq] at *; exact readGo_none (by assumption)))
        refine FIN (.tuple #[.slice oa out.length oc, vi (-1)]) ?_ (oa, oc) ?_ [0] ?_
        · as_aux_lemma => kernel_rfl
        · (rw [efin] <;> rfl)
        · (rw [efin] <;> rfl)

theorem iReadScript_c (W : World) (s : List UInt8) (hl : s.length ≤ 1048576) (htab : Tab Tryd.prog W) (hmx : MaxL Tryd.prog W) : Spec Tryd.prog W [] 27 #[.string (bs s)] (⟨HH, fun p => .tuple #[.slice p.1 (((readScript s).1).length) p.2, vi ((readScript s).2)], fun p => [slA 47 reqL (.slice p.1 ((readScript s).1).length p.2) ((readScript s).1)]⟩) := by
  refine ENTER0 (N := 38) (vs := [.string (bs s)]) Tryd.func27 rfl rfl (Nat.le_of_ble_eq_true rfl) ?_
  refine SEQ (REGION [0, 1] rfl (RUN0 2 [] [(0, .v (.string (bs s)))] ?_ rfl ?_))
  · as_aux_lemma => kernel_rfl
  refine ENDOPS (NEXT (SEQ (SEQ (REGION [0, 1] rfl (RUN0 1 [1] [(0, .v (.string (bs s))), (10, .v (.string (bs s)))] ?_ rfl ?_)))))
  · as_aux_lemma => kernel_rfl
  refine OPC (RUNV (.binOp .eql 9 (.tmp 10) (.const (.string (bs ([])))) 9) 11 4 ?_ (Nat.le_of_ble_eq_true rfl) (.bool (s == ([]))) (runs_seql (a := s) (b := []) ?_ ?_) ?_)
  · as_aux_lemma => kernel_rfl
  · as_aux_lemma => kernel_rfl
  · as_aux_lemma => kernel_rfl
  refine ENDOPS (NEXT (IF (s == ([])) ?_ (fun bh1 => ?_) (fun bh1 => ?_)))
  · as_aux_lemma => kernel_rfl
  · -- s == ([]) = true
    have h1 := bh1
    have h1 := eq_of_beq h1
    refine SEQ (REGION [0, 1] rfl (RUN0 2 [] [(2, .v (.slice none 0 0)), (3, I (-1))] ?_ rfl ?_))
    · as_aux_lemma => kernel_rfl
    refine ENDOPS (NEXT (RET (PASS trivial (NIL 47 reqL ?_))))
    have efin : readScript s = ([], -1) := by first | exact readScript_nil (by assumption) | exact readScript_big (by assumption) (by omega) | (rw [readScript_of (by assumption) (by omega), hv0]; first | rfl | exact readGo_none (by assumption) | (rw [← read_eq] at *; exact readGo_none (by assumption)))
    refine FIN (.tuple #[.slice none 0 0, vi (-1)]) ?_ (none, 0) ?_ [0] ?_
    · as_aux_lemma => kernel_rfl
    · (rw [efin] <;> rfl)
    · (rw [efin] <;> rfl)
  · -- s == ([]) = false
    have h1 := bh1
    have h1 := ne_of_beq_false h1
    refine SKIP (NEXT (SEQ (REGION [0, 1, 2] rfl (RUN0 1 [1, 2] [(12, .v (.string (bs s)))] ?_ rfl ?_))))
    · as_aux_lemma => kernel_rfl
    refine OPC (CALL 20 #[.string (bs s), .int .u8 10] (some 13) ?_ [] [] _ rfl (⟨HH, fun p => .slice p.1 ((parts s 10).length) p.2, fun p => [slA 9 strL (.slice p.1 (parts s 10).length p.2) (parts s 10)]⟩) (fun w hw => iParts_c w s 10 (by first | assumption | omega) (hmx.fr hw.fr)) (by rintro _ ⟨⟩; exact Nat.le_of_ble_eq_true rfl) ?_)
    · as_aux_lemma => kernel_rfl
    rintro ⟨a2, c3⟩
    have hr4 := parts_len s 10
    refine RUN0 1 [] [(4, .v (.slice a2 ((parts s 10).length) c3))] ?_ rfl ?_
    · as_aux_lemma => kernel_rfl
    refine ENDOPS (NEXT (SEQ (SEQ (REGION [0, 1, 2] rfl (RUN0 3 [] [(4, .v (.slice a2 ((parts s 10).length) c3)), (16, B (decide ((((parts s 10).length : Nat) : Int) > 200)))] ?_ rfl ?_)))))
    · as_aux_lemma => kernel_rfl
    refine ENDOPS (NEXT (IF (decide ((((parts s 10).length : Nat) : Int) > 200)) ?_ (fun bh5 => ?_) (fun bh5 => ?_)))
    · as_aux_lemma => kernel_rfl
    · -- decide ((((parts s 10).length : Nat) : Int) > 200) = true
      have h5 := bh5
      have h5 := of_decide_eq_true h5
      refine SEQ (REGION [0, 1] rfl (RUN0 2 [] [(2, .v (.slice none 0 0)), (3, I 200)] ?_ rfl ?_))
      · as_aux_lemma => kernel_rfl
      refine ENDOPS (NEXT (RET (PASS trivial (NIL 47 reqL ?_))))
      have efin : readScript s = ([], 200) := by first | exact readScript_nil (by assumption) | exact readScript_big (by assumption) (by omega) | (rw [readScript_of (by assumption) (by omega), hv0]; first | rfl | exact readGo_none (by assumption) | (rw [← read_eq] at *; exact readGo_none (by assumption)))
      refine FIN (.tuple #[.slice none 0 0, vi 200]) ?_ (none, 0) ?_ [1] ?_
      · as_aux_lemma => kernel_rfl
      · (rw [efin] <;> rfl)
      · (rw [efin] <;> rfl)
    · -- decide ((((parts s 10).length : Nat) : Int) > 200) = false
      have h5 := bh5
      have h5 := of_decide_eq_false h5
      refine SKIP (NEXT (SEQ (REGION [0] rfl (RUN0 1 [] [(4, .v (.slice a2 ((parts s 10).length) c3)), (5, .v (.slice none 0 0))] ?_ rfl ?_))))
      · as_aux_lemma => kernel_rfl
      refine ENDOPS (NEXT (SEQ (SEQ (REGION [0, 1, 2] rfl (RUN0 3 [] [(5, .v (.slice none 0 0)), (17, .v (.slice a2 ((parts s 10).length) c3)), (18, I (((parts s 10).length : Nat) : Int)), (19, I 0)] ?_ rfl ?_)))))
      · as_aux_lemma => kernel_rfl
      refine ENDOPS (NEXT (BLOCK (NIL 47 reqL ?_)))
      refine LOOP (ι := Nat × (List (List UInt8)) × (Option Addr) × Nat × (List Req)) (fun j => [(5, .v (.slice j.2.2.1 j.2.2.2.2.length j.2.2.2.1)), (17, .v (.slice a2 ((parts s 10).length) c3)), (18, I (((parts s 10).length : Nat) : Int)), (19, I (j.1 : Int))]) (fun j => []) (fun j => [slA 9 strL (.slice a2 (parts s 10).length c3) (parts s 10), slA 47 reqL (.slice j.2.2.1 j.2.2.2.2.length j.2.2.2.1) j.2.2.2.2]) (fun j => j.1 + j.2.1.length = (parts s 10).length ∧ (parts s 10).drop j.1 = j.2.1 ∧ readGo 0 [] (parts s 10) = readGo j.1 j.2.2.2.2 j.2.1 ∧ j.2.2.2.2.length = j.1) (fun j => j.2.1.length) (0, (parts s 10), none, 0, []) [5, 17, 18, 19] ⟨by simp, rfl, rfl, rfl⟩ ?_ rfl rfl ?_
      · as_aux_lemma => kernel_rfl
      rintro ⟨k, ys, oa, oc, out⟩ ⟨hk, hd, hv0, hv1⟩
      dsimp only at hk hd hv0 hv1
      refine SEQ (REGION [0] rfl (RUN0 1 [] [(5, .v (.slice oa out.length oc)), (17, .v (.slice a2 ((parts s 10).length) c3)), (18, I (((parts s 10).length : Nat) : Int)), (19, I (k : Int)), (20, B (decide ((k : Int) < (((parts s 10).length : Nat) : Int))))] ?_ rfl ?_))
      · as_aux_lemma => kernel_rfl
      refine ENDOPS (NEXT (SEQ (IF (decide ((k : Int) < (((parts s 10).length : Nat) : Int))) ?_ (fun bh6 => ?_) (fun bh6 => ?_))))
      · as_aux_lemma => kernel_rfl
      · -- decide ((k : Int) < (((parts s 10).length : Nat) : Int)) = true
        have h6 := bh6
        have h6 := of_decide_eq_true h6
        obtain ⟨y7, ys8, rfl, hx_y7, hd_y7, hl_y7⟩ := drop_cons hd hk (by omega)
        have hm_y7 := parts_mem (List.mem_of_getElem? hx_y7)
        refine SKIP (NEXT (SEQ (BLOCK (SEQ (REGION [0, 1, 2, 3, 4] rfl (RUN0 1 [1, 2, 3, 4] [(5, .v (.slice oa out.length oc)), (17, .v (.slice a2 ((parts s 10).length) c3)), (18, I (((parts s 10).length : Nat) : Int)), (19, I (k : Int)), (21, I (k : Int))] ?_ rfl ?_))))))
        · as_aux_lemma => kernel_rfl
        refine FACT (a2.isSome = true) (fun w hw => SlO.isS (hw.own 0 rfl) (by omega)) (fun hs9 => ?_)
        refine OPC (INDEX 41 (.tmp 17) (.tmp 19) 22 0 ?_ (Nat.le_of_ble_eq_true rfl) a2 ((parts s 10).length) c3 .i64 (k : Int) 9 1 ?_ ?_ ?_ ?_ hs9 (by omega) (by omega) ?_)
        · as_aux_lemma => kernel_rfl
        · as_aux_lemma => kernel_rfl
        · as_aux_lemma => kernel_rfl
        · as_aux_lemma => kernel_rfl
        · as_aux_lemma => kernel_rfl
        refine OPC (LOADE 9 (.tmp 22) 23 9 ?_ (Nat.le_of_ble_eq_true rfl) a2 (k * 1) 0 [.string (bs y7)] (.string (bs y7)) ?_ (fun w hw => (Rd.own (hw.own 0 rfl)).flat hx_y7) ?_ ?_)
        · as_aux_lemma => kernel_rfl
        · as_aux_lemma => kernel_rfl
        · as_aux_lemma => kernel_rfl
        refine RUN0 2 [] [(5, .v (.slice oa out.length oc)), (6, I (k : Int)), (7, .v (.string (bs y7))), (17, .v (.slice a2 ((parts s 10).length) c3)), (18, I (((parts s 10).length : Nat) : Int)), (19, I (k : Int))] ?_ rfl ?_
        · as_aux_lemma => kernel_rfl
        refine ENDOPS (NEXT (SEQ (REGION [0, 1, 2, 3, 4, 5, 6, 7] rfl (RUN0 1 [1, 2, 3, 4, 5, 6, 7] [(5, .v (.slice oa out.length oc)), (6, I (k : Int)), (17, .v (.slice a2 ((parts s 10).length) c3)), (18, I (((parts s 10).length : Nat) : Int)), (19, I (k : Int)), (25, .v (.string (bs y7)))] ?_ rfl ?_))))
        · as_aux_lemma => kernel_rfl
        refine OPC (CALL 24 #[.string (bs y7)] (some 26) ?_ [] [] _ rfl (RV (.tuple #[.agg #[vi ((optReq (readI y7)).kind), vi ((optReq (readI y7)).id), vi ((optReq (readI y7)).cabin), vi ((optReq (readI y7)).from'), vi ((optReq (readI y7)).size), vi ((optReq (readI y7)).tier)], .bool ((readI y7).isSome)])) (fun w hw => iReadReq_c w y7 (by first | assumption | omega) (htab.fr hw.fr) (hmx.fr hw.fr)) (by rintro _ ⟨⟩; exact Nat.le_of_ble_eq_true rfl) ?_)
        · as_aux_lemma => kernel_rfl
        rintro ⟨⟩
        refine RUN 6 [] [(5, .v (.slice oa out.length oc)), (6, I (k : Int)), (8, .p 0 0), (9, B ((readI y7).isSome)), (17, .v (.slice a2 ((parts s 10).length) c3)), (18, I (((parts s 10).length : Nat) : Int)), (19, I (k : Int))] [(47, [vi ((optReq (readI y7)).kind), vi ((optReq (readI y7)).id), vi ((optReq (readI y7)).cabin), vi ((optReq (readI y7)).from'), vi ((optReq (readI y7)).size), vi ((optReq (readI y7)).tier)])] ?_ rfl ?_
        · as_aux_lemma => kernel_rfl
        refine ENDOPS (NEXT (SEQ (SEQ (REGION [0, 1] rfl (RUN0 2 [] [(5, .v (.slice oa out.length oc)), (6, I (k : Int)), (8, .p 0 0), (17, .v (.slice a2 ((parts s 10).length) c3)), (18, I (((parts s 10).length : Nat) : Int)), (19, I (k : Int)), (30, B (!((readI y7).isSome)))] ?_ rfl ?_)))))
        · as_aux_lemma => kernel_rfl
        refine ENDOPS (NEXT (IF (!((readI y7).isSome)) ?_ (fun bh10 => ?_) (fun bh10 => ?_)))
        · as_aux_lemma => kernel_rfl
        · -- !((readI y7).isSome) = true
          have h10 := bh10
          have h10 := notT h10
          refine SEQ (REGION [0, 1, 2] rfl (RUN0 3 [] [(2, .v (.slice none 0 0)), (3, I (k : Int))] ?_ rfl ?_))
          · as_aux_lemma => kernel_rfl
          refine ENDOPS (NEXT (RET (PASS trivial (OUTR (PASS trivial (PASS trivial (OUTR (PASS trivial (NIL 47 reqL ?_)))))))))
          have efin : readScript s = ([], (k : Int)) := by first | exact readScript_nil (by assumption) | exact readScript_big (by assumption) (by omega) | (rw [readScript_of (by assumption) (by omega), hv0]; first | rfl | exact readGo_none (by assumption) | (rw [← read_eq] at *; exact readGo_none (by assumption)))
          refine FIN (.tuple #[.slice none 0 0, vi (k : Int)]) ?_ (none, 0) ?_ [2] ?_
          · as_aux_lemma => kernel_rfl
          · (rw [efin] <;> rfl)
          · (rw [efin] <;> rfl)
        · -- !((readI y7).isSome) = false
          have h10 := bh10
          have h10 := notF h10
          refine SKIP (NEXT (REGION [0, 1, 2, 3, 4] rfl (RUN0 2 [2, 3, 4] [(17, .v (.slice a2 ((parts s 10).length) c3)), (18, I (((parts s 10).length : Nat) : Int)), (19, I (k : Int)), (32, .v (.slice oa out.length oc)), (33, .v (.agg #[vi ((optReq (readI y7)).kind), vi ((optReq (readI y7)).id), vi ((optReq (readI y7)).cabin), vi ((optReq (readI y7)).from'), vi ((optReq (readI y7)).size), vi ((optReq (readI y7)).tier)]))] ?_ rfl ?_)))
          · as_aux_lemma => kernel_rfl
          refine OPC (BUILDS 34 1 #[(0, .tmp 33)] 34 34 ?_ (Nat.le_of_ble_eq_true rfl) 47 [vi ((optReq (readI y7)).kind), vi ((optReq (readI y7)).id), vi ((optReq (readI y7)).cabin), vi ((optReq (readI y7)).from'), vi ((optReq (readI y7)).size), vi ((optReq (readI y7)).tier)] ?_ reqL [(optReq (readI y7))] rfl (by simp only [maxLen]; omega) [] [] _ rfl (flatRep rfl) (fun a11 ha12 => ?_))
          · as_aux_lemma => kernel_rfl
          · as_aux_lemma => kernel_rfl
          refine OPC (APPENDO 34 (.tmp 32) (.tmp 34) 35 34 ?_ (Nat.le_of_ble_eq_true rfl) (.slice oa out.length oc) a11 1 1 ?_ ?_ ha12 47 ?_ reqL (.agg #[vi 0, vi 0, vi 0, vi 0, vi 0, vi 0]) 48 ?_ rfl (by decide) 1 1 out ([(optReq (readI y7))]) _ rfl rfl (by first | omega | (simp only [List.length_append, List.length_cons, List.length_nil, List.length_take, List.length_drop] at *; omega)) (by simp only [maxLen]; first | omega | (simp only [List.length_append, List.length_cons, List.length_nil, List.length_take, List.length_drop] at *; omega)) (fun a13 c14 hn15 => ?_))
          · as_aux_lemma => kernel_rfl
          · as_aux_lemma => kernel_rfl
          · as_aux_lemma => kernel_rfl
          · as_aux_lemma => kernel_rfl
          · as_aux_lemma => kernel_rfl
          refine RUN0 1 [] [(5, .v (.slice a13 ((out ++ ([(optReq (readI y7))])).length) c14)), (17, .v (.slice a2 ((parts s 10).length) c3)), (18, I (((parts s 10).length : Nat) : Int)), (19, I (k : Int))] ?_ rfl ?_
          · as_aux_lemma => kernel_rfl
          refine ENDOPS (OUTN (NEXT (REGION [0, 1] rfl (RUN0 1 [1] [(5, .v (.slice a13 ((out ++ ([(optReq (readI y7))])).length) c14)), (17, .v (.slice a2 ((parts s 10).length) c3)), (18, I (((parts s 10).length : Nat) : Int)), (36, I (wr ((k : Int) + 1)))] ?_ rfl ?_))))
          · as_aux_lemma => kernel_rfl
          refine CAST (d := 36) (vi (wr ((k : Int) + 1))) (vi ((k + 1 : Nat) : Int)) ?_ (vi_cast (by omega) (by omega)) ?_
          · as_aux_lemma => kernel_rfl
          refine RUN0 1 [] [(5, .v (.slice a13 ((out ++ ([(optReq (readI y7))])).length) c14)), (17, .v (.slice a2 ((parts s 10).length) c3)), (18, I (((parts s 10).length : Nat) : Int)), (19, I ((k + 1 : Nat) : Int))] ?_ rfl ?_
          · as_aux_lemma => kernel_rfl
          refine ENDOPS (BACK (k + 1, ys8, a13, c14, out ++ ([(optReq (readI y7))])) [5, 17, 18, 19] 0 [0, 0] _ ⟨hl_y7, hd_y7, hv0.trans (by first | exact readGo_some (by assumption) | (have h9 : (readS y7).isSome = true := (by assumption); rw [← read_eq] at h9 ⊢; exact readGo_some h9)), (by simp only [List.length_append, List.length_cons, List.length_nil]; omega)⟩ (by simp) ?_ rfl rfl rfl)
          · as_aux_lemma => kernel_rfl
      · -- decide ((k : Int) < (((parts s 10).length : Nat) : Int)) = false
        have h6 := bh6
        have h6 := of_decide_eq_false h6
        obtain rfl := drop_nil hk (by omega)
        refine EXIT (PASS trivial (PASS trivial (OUT (NEXT (SEQ (REGION [0, 1, 2] rfl (RUN0 3 [] [(2, .v (.slice oa out.length oc)), (3, I (-1))] ?_ rfl ?_)))))))
        · as_aux_lemma => kernel_rfl
        refine ENDOPS (NEXT (RET ?_))
        have efin : readScript s = (out, -1) := by first | exact readScript_nil (by assumption) | exact readScript_big (by assumption) (by omega) | (rw [readScript_of (by assumption) (by omega), hv0]; first | rfl | exact readGo_none (by assumption) | (rw [← read_eq] at *; exact readGo_none (by assumption)))
        refine FIN (.tuple #[.slice oa out.length oc, vi (-1)]) ?_ (oa, oc) ?_ [1] ?_
        · as_aux_lemma => kernel_rfl
        · (rw [efin] <;> rfl)
        · (rw [efin] <;> rfl)

end SX
end Go.Proofs.YtpdijcbgdalphaaDoor
