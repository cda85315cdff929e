/- Walks, printed by program. -/
import Derived.Test.YtpdijcbgdalphaaDoorMdl7
import Derived.Test.YtpdijcbgdalphaaDoorSxa
import Derived.Test.YtpdijcbgdalphaaDoorSxj
import Derived.Test.YtpdijcbgdalphaaDoorProg
namespace Go.Proofs.YtpdijcbgdalphaaDoor
namespace SX
open Go Go.RowKit
set_option linter.unusedVariables false
set_option linter.unusedSimpArgs false
set_option maxRecDepth 10000
theorem l1In_c (W : World) (x : Int) (lo : Int) (hi : Int) : Spec Tryd.prog W [] 44 #[vi x, vi lo, vi hi] (RV (.bool (inB x lo hi))) := by
  refine ENTER0 (N := 15) (vs := [vi x, vi lo, vi hi]) Tryd.func44 rfl rfl (Nat.le_of_ble_eq_true rfl) ?_
  refine SEQ (REGION [0] rfl (RUN0 1 [] [(0, I x), (1, I lo), (2, I hi)] ?_ rfl ?_))
  · as_aux_lemma => kernel_rfl
  refine ENDOPS (NEXT (SEQ (REGION [0, 1, 2, 3, 4, 5, 6, 7, 8] rfl (RUN0 4 [4, 5, 6, 7, 8] [(0, I x), (2, I hi), (10, B (decide (x ≥ lo)))] ?_ rfl ?_))))
  · as_aux_lemma => kernel_rfl
  refine SPLIT (d := 10) (decide (x ≥ lo)) ?_ (fun bh1 => ?_) (fun bh1 => ?_)
  · as_aux_lemma => kernel_rfl
  · -- decide (x ≥ lo) = true
    have h1 := bh1
    have h1 := of_decide_eq_true h1
    refine RUN0 5 [] [(6, B (decide (x ≤ hi)))] ?_ rfl ?_
    · as_aux_lemma => kernel_rfl
    refine ENDOPS (NEXT (RET (FIN (.bool (decide (x ≤ hi))) ?_ () ?_ [] ?_)))
    · as_aux_lemma => kernel_rfl
    · simp [RV, inB, *]
    · rfl
  · -- decide (x ≥ lo) = false
    have h1 := bh1
    have h1 := of_decide_eq_false h1
    refine RUN0 5 [] [(6, B false)] ?_ rfl ?_
    · as_aux_lemma => kernel_rfl
    refine ENDOPS (NEXT (RET (FIN (.bool false) ?_ () ?_ [] ?_)))
    · as_aux_lemma => kernel_rfl
    · simp [RV, inB, *]
    · rfl

theorem within_c (W : World) (n : Int) (lo : Int) (hi : Int) : Spec Tryd.prog W [] 60 #[vi n, vi lo, vi hi] (RV (.bool (inB n lo hi))) := by
  refine ENTER0 (N := 15) (vs := [vi n, vi lo, vi hi]) Tryd.func60 rfl rfl (Nat.le_of_ble_eq_true rfl) ?_
  refine SEQ (REGION [0] rfl (RUN0 1 [] [(0, I n), (1, I lo), (2, I hi)] ?_ rfl ?_))
  · as_aux_lemma => kernel_rfl
  refine ENDOPS (NEXT (SEQ (REGION [0, 1, 2, 3, 4, 5, 6, 7, 8] rfl (RUN0 4 [4, 5, 6, 7, 8] [(0, I n), (2, I hi), (10, B (decide (n ≥ lo)))] ?_ rfl ?_))))
  · as_aux_lemma => kernel_rfl
  refine SPLIT (d := 10) (decide (n ≥ lo)) ?_ (fun bh1 => ?_) (fun bh1 => ?_)
  · as_aux_lemma => kernel_rfl
  · -- decide (n ≥ lo) = true
    have h1 := bh1
    have h1 := of_decide_eq_true h1
    refine RUN0 5 [] [(6, B (decide (n ≤ hi)))] ?_ rfl ?_
    · as_aux_lemma => kernel_rfl
    refine ENDOPS (NEXT (RET (FIN (.bool (decide (n ≤ hi))) ?_ () ?_ [] ?_)))
    · as_aux_lemma => kernel_rfl
    · simp [RV, inB, *]
    · rfl
  · -- decide (n ≥ lo) = false
    have h1 := bh1
    have h1 := of_decide_eq_false h1
    refine RUN0 5 [] [(6, B false)] ?_ rfl ?_
    · as_aux_lemma => kernel_rfl
    refine ENDOPS (NEXT (RET (FIN (.bool false) ?_ () ?_ [] ?_)))
    · as_aux_lemma => kernel_rfl
    · simp [RV, inB, *]
    · rfl

theorem szIntS_c (W : World) (a : List Int) (a_a : Option Addr) (a_c : Nat) (ha : Rd intL W a_a a) (left : Int) : Spec Tryd.prog W [] 30 #[.slice a_a a.length a_c, vi left] (RV (vi (szInts a left))) := by
  refine ENTER0 (N := 12) (vs := [.slice a_a a.length a_c, vi left]) Tryd.func30 rfl rfl (Nat.le_of_ble_eq_true rfl) ?_
  have ha_len := ha.len
  refine SEQ (REGION [0] rfl (RUN0 1 [] [(0, .v (.slice a_a a.length a_c)), (1, I left)] ?_ rfl ?_))
  · as_aux_lemma => kernel_rfl
  refine ENDOPS (NEXT (SEQ (REGION [0, 1, 2, 3, 4] rfl (RUN0 5 [] [(1, I (wr (left - (a.length : Int))))] ?_ rfl ?_))))
  · as_aux_lemma => kernel_rfl
  refine ENDOPS (NEXT (SEQ (SEQ (REGION [0, 1] rfl (RUN0 2 [] [(1, I (wr (left - (a.length : Int)))), (10, B (decide ((wr (left - (a.length : Int))) < 0)))] ?_ rfl ?_)))))
  · as_aux_lemma => kernel_rfl
  refine ENDOPS (NEXT (IF (decide ((wr (left - (a.length : Int))) < 0)) ?_ (fun bh1 => ?_) (fun bh1 => ?_)))
  · as_aux_lemma => kernel_rfl
  · -- decide ((wr (left - (a.length : Int))) < 0) = true
    have h1 := bh1
    have h1 := of_decide_eq_true h1
    refine SEQ (REGION [0] rfl (RUN0 1 [] [(4, I (-1))] ?_ rfl ?_))
    · as_aux_lemma => kernel_rfl
    refine ENDOPS (NEXT (RET (PASS trivial (FIN (vi (-1)) ?_ () ?_ [] ?_))))
    · as_aux_lemma => kernel_rfl
    · simp [RV, szInts, *]
    · rfl
  · -- decide ((wr (left - (a.length : Int))) < 0) = false
    have h1 := bh1
    have h1 := of_decide_eq_false h1
    refine SKIP (NEXT (SEQ (REGION [0, 1] rfl (RUN0 2 [] [(4, I (wr (left - (a.length : Int))))] ?_ rfl ?_))))
    · as_aux_lemma => kernel_rfl
    refine ENDOPS (NEXT (RET (FIN (vi (wr (left - (a.length : Int)))) ?_ () ?_ [] ?_)))
    · as_aux_lemma => kernel_rfl
    · simp [RV, szInts, *]
    · rfl

theorem toIntS_c (W : World) (a : List Int) (a_a : Option Addr) (a_c : Nat) (ha : Rd intL W a_a a) (hb : a.length ≤ 1048576) : Spec Tryd.prog W [] 32 #[.slice a_a a.length a_c] (⟨HH, fun p => .slice p.1 a.length p.2, fun p => [slA 3 intL (.slice p.1 a.length p.2) a]⟩) := by
  refine ENTER0 (N := 22) (vs := [.slice a_a a.length a_c]) Tryd.func32 rfl rfl (Nat.le_of_ble_eq_true rfl) ?_
  have ha_len := ha.len
  refine SEQ (REGION [0] rfl (RUN0 1 [] [(0, .v (.slice a_a a.length a_c))] ?_ rfl ?_))
  · as_aux_lemma => kernel_rfl
  refine ENDOPS (NEXT (SEQ (REGION [0, 1, 2, 3] rfl (RUN0 2 [2, 3] [(0, .v (.slice a_a a.length a_c)), (6, I (a.length : Int))] ?_ rfl ?_))))
  · as_aux_lemma => kernel_rfl
  refine OPC (MAKE 22 (.tmp 6) (.tmp 6) 7 22 ?_ (Nat.le_of_ble_eq_true rfl) a.length ?_ ?_ 3 ?_ (fun z => [.int .i64 z]) (fun z => ⟨rfl, by simp [isCell]⟩) 0 (vi 0) 8 rfl ?_ (by decide) (by omega) (by simp only [maxLen]; omega) (fun a1 ha2 => ?_))
  · as_aux_lemma => kernel_rfl
  · as_aux_lemma => kernel_rfl
  · as_aux_lemma => kernel_rfl
  · as_aux_lemma => kernel_rfl
  · as_aux_lemma => kernel_rfl
  refine RUN0 1 [] [(0, .v (.slice a_a a.length a_c)), (3, .v (.slice a1 a.length a.length))] ?_ rfl ?_
  · as_aux_lemma => kernel_rfl
  refine ENDOPS (NEXT (SEQ (SEQ (REGION [0] rfl (RUN0 1 [] [(0, .v (.slice a_a a.length a_c)), (3, .v (.slice a1 a.length a.length)), (4, I 0)] ?_ rfl ?_)))))
  · as_aux_lemma => kernel_rfl
  refine ENDOPS (NEXT (BLOCK (LOOP (ι := Nat × (List Int) × (List Int)) (fun j => [(0, .v (.slice a_a a.length a_c)), (3, .v (.slice a1 a.length a.length)), (4, I (j.1 : Int))]) (fun j => []) (fun j => [slA 3 intL (.slice a1 a.length a.length) j.2.2]) (fun j => j.1 + j.2.1.length = a.length ∧ a.drop j.1 = j.2.1 ∧ j.2.2 = a.take j.1 ++ List.replicate j.2.1.length 0) (fun j => j.2.1.length) (0, a, List.replicate a.length 0) [0, 3, 4] ⟨by simp, rfl, by simp⟩ ?_ rfl rfl ?_)))
  · as_aux_lemma => kernel_rfl
  rintro ⟨k, ys, out⟩ ⟨hk, hd, hv0⟩
  dsimp only at hk hd hv0
  refine SEQ (SEQ (REGION [0, 1, 2, 3] rfl (RUN0 4 [] [(0, .v (.slice a_a a.length a_c)), (3, .v (.slice a1 a.length a.length)), (4, I (k : Int)), (11, B (decide ((k : Int) < (a.length : Int))))] ?_ rfl ?_)))
  · as_aux_lemma => kernel_rfl
  refine ENDOPS (NEXT (IF (decide ((k : Int) < (a.length : Int))) ?_ (fun bh3 => ?_) (fun bh3 => ?_)))
  · as_aux_lemma => kernel_rfl
  · -- decide ((k : Int) < (a.length : Int)) = true
    have h3 := bh3
    have h3 := of_decide_eq_true h3
    obtain ⟨y4, ys5, rfl, hx_y4, hd_y4, hl_y4⟩ := drop_cons hd hk (by omega)
    refine SKIP (NEXT (SEQ (BLOCK (REGION [0, 1, 2, 3, 4, 5, 6, 7] rfl (RUN0 4 [4, 5, 6, 7] [(0, .v (.slice a_a a.length a_c)), (3, .v (.slice a1 a.length a.length)), (4, I (k : Int)), (14, .v (.slice a1 a.length a.length)), (15, I (k : Int)), (16, .v (.slice a_a a.length a_c)), (17, I (k : Int))] ?_ rfl ?_)))))
    · as_aux_lemma => kernel_rfl
    refine OPC (INDEX 22 (.tmp 16) (.tmp 17) 18 0 ?_ (Nat.le_of_ble_eq_true rfl) a_a a.length a_c .i64 (k : Int) 3 1 ?_ ?_ ?_ ?_ (Rd.some ha (by omega)) (by omega) (by omega) ?_)
    · as_aux_lemma => kernel_rfl
    · as_aux_lemma => kernel_rfl
    · as_aux_lemma => kernel_rfl
    · as_aux_lemma => kernel_rfl
    · as_aux_lemma => kernel_rfl
    refine OPC (LOADE 3 (.tmp 18) 19 3 ?_ (Nat.le_of_ble_eq_true rfl) a_a (k * 1) 0 [vi y4] (vi y4) ?_ (fun w hw => (ha.fr hw.fr).flat hx_y4) ?_ ?_)
    · as_aux_lemma => kernel_rfl
    · as_aux_lemma => kernel_rfl
    · as_aux_lemma => kernel_rfl
    refine FACT (a.length = out.length) (fun w hw => (SlO.lenE (hw.own 0 rfl)).1) (fun hln6 => ?_)
    obtain ⟨x7, hx8⟩ : ∃ y, out[k]? = some y := ⟨_, List.getElem?_eq_getElem (by omega)⟩
    refine OPC (INDEX 22 (.tmp 14) (.tmp 15) 20 0 ?_ (Nat.le_of_ble_eq_true rfl) a1 a.length a.length .i64 (k : Int) 3 1 ?_ ?_ ?_ ?_ ha2 (by omega) (by omega) ?_)
    · as_aux_lemma => kernel_rfl
    · as_aux_lemma => kernel_rfl
    · as_aux_lemma => kernel_rfl
    · as_aux_lemma => kernel_rfl
    · as_aux_lemma => kernel_rfl
    refine OPC (STOREF 3 (.tmp 20) (.tmp 19) 0 ?_ 0 _ 3 a1 a.length a.length k 0 out rfl x7 y4 hx8 (vi y4) ?_ ?_ ?_ ?_)
    · as_aux_lemma => kernel_rfl
    · as_aux_lemma => kernel_rfl
    · as_aux_lemma => kernel_rfl
    · as_aux_lemma => kernel_rfl
    refine ENDOPS (OUTN (NEXT (REGION [0, 1, 2] rfl (RUN0 2 [2] [(0, .v (.slice a_a a.length a_c)), (3, .v (.slice a1 a.length a.length)), (13, I (wr ((k : Int) + 1)))] ?_ rfl ?_))))
    · as_aux_lemma => kernel_rfl
    refine CAST (d := 13) (vi (wr ((k : Int) + 1))) (vi ((k + 1 : Nat) : Int)) ?_ (vi_cast (by omega) (by omega)) ?_
    · as_aux_lemma => kernel_rfl
    refine RUN0 1 [] [(0, .v (.slice a_a a.length a_c)), (3, .v (.slice a1 a.length a.length)), (4, I ((k + 1 : Nat) : Int))] ?_ rfl ?_
    · as_aux_lemma => kernel_rfl
    refine ENDOPS (BACK (k + 1, ys5, out.set k y4) [0, 3, 4] 0 [0] _ ⟨hl_y4, hd_y4, by rw [hv0]; exact set_next hk hx_y4⟩ (by simp) ?_ rfl rfl rfl)
    · as_aux_lemma => kernel_rfl
  · -- decide ((k : Int) < (a.length : Int)) = false
    have h3 := bh3
    have h3 := of_decide_eq_false h3
    obtain rfl := drop_nil hk (by omega)
    refine EXIT (PASS trivial (PASS trivial (OUT (NEXT (SEQ (REGION [0, 1] rfl (RUN0 2 [] [(2, .v (.slice a1 a.length a.length))] ?_ rfl ?_)))))))
    · as_aux_lemma => kernel_rfl
    refine ENDOPS (NEXT (RET (FIN (.slice a1 a.length a.length) ?_ (a1, a.length) ?_ [0] ?_)))
    · as_aux_lemma => kernel_rfl
    · rfl
    · (rw [show out = a by rw [hv0]; simp [show k = a.length by simpa using hk]]; rfl)

theorem eqIntS_c (W : World) (a : List Int) (a_a : Option Addr) (a_c : Nat) (ha : Rd intL W a_a a) (b : List Int) (b_a : Option Addr) (b_c : Nat) (hb : Rd intL W b_a b) : Spec Tryd.prog W [] 35 #[.slice a_a a.length a_c, .slice b_a b.length b_c] (RV (.bool (eqInts a b))) := by
  refine ENTER0 (N := 26) (vs := [.slice a_a a.length a_c, .slice b_a b.length b_c]) Tryd.func35 rfl rfl (Nat.le_of_ble_eq_true rfl) ?_
  have ha_len := ha.len
  have hb_len := hb.len
  refine SEQ (REGION [0] rfl (RUN0 1 [] [(0, .v (.slice a_a a.length a_c)), (1, .v (.slice b_a b.length b_c))] ?_ rfl ?_))
  · as_aux_lemma => kernel_rfl
  refine ENDOPS (NEXT (SEQ (SEQ (REGION [0, 1, 2, 3, 4] rfl (RUN0 5 [] [(0, .v (.slice a_a a.length a_c)), (1, .v (.slice b_a b.length b_c)), (10, B ((a.length : Int) != (b.length : Int)))] ?_ rfl ?_)))))
  · as_aux_lemma => kernel_rfl
  refine ENDOPS (NEXT (IF ((a.length : Int) != (b.length : Int)) ?_ (fun bh1 => ?_) (fun bh1 => ?_)))
  · as_aux_lemma => kernel_rfl
  · -- (a.length : Int) != (b.length : Int) = true
    have h1 := bh1
    have h1 := bne_iff_ne.1 h1
    refine SEQ (REGION [0] rfl (RUN0 1 [] [(4, B false)] ?_ rfl ?_))
    · as_aux_lemma => kernel_rfl
    refine ENDOPS (NEXT (RET (PASS trivial (FIN (.bool false) ?_ () ?_ [] ?_))))
    · as_aux_lemma => kernel_rfl
    · simp [RV, eqInts_ne (a := a) (b := b) (by omega)]
    · rfl
  · -- (a.length : Int) != (b.length : Int) = false
    have h1 := bh1
    have h1 := bneF h1
    refine SKIP (NEXT (SEQ (SEQ (REGION [0] rfl (RUN0 1 [] [(0, .v (.slice a_a a.length a_c)), (1, .v (.slice b_a b.length b_c)), (5, I 0)] ?_ rfl ?_)))))
    · as_aux_lemma => kernel_rfl
    refine ENDOPS (NEXT (BLOCK (LOOP (ι := Nat × (List Int)) (fun j => [(0, .v (.slice a_a a.length a_c)), (1, .v (.slice b_a b.length b_c)), (5, I (j.1 : Int))]) (fun j => []) (fun j => []) (fun j => j.1 + j.2.length = a.length ∧ a.drop j.1 = j.2 ∧ eqInts a b = eqInts j.2 (b.drop j.1)) (fun j => j.2.length) (0, a) [0, 1, 5] ⟨by simp, rfl, rfl⟩ ?_ rfl rfl ?_)))
    · as_aux_lemma => kernel_rfl
    rintro ⟨k, ys⟩ ⟨hk, hd, hv0⟩
    dsimp only at hk hd hv0
    refine SEQ (SEQ (REGION [0, 1, 2, 3] rfl (RUN0 4 [] [(0, .v (.slice a_a a.length a_c)), (1, .v (.slice b_a b.length b_c)), (5, I (k : Int)), (14, B (decide ((k : Int) < (a.length : Int))))] ?_ rfl ?_)))
    · as_aux_lemma => kernel_rfl
    refine ENDOPS (NEXT (IF (decide ((k : Int) < (a.length : Int))) ?_ (fun bh2 => ?_) (fun bh2 => ?_)))
    · as_aux_lemma => kernel_rfl
    · -- decide ((k : Int) < (a.length : Int)) = true
      have h2 := bh2
      have h2 := of_decide_eq_true h2
      obtain ⟨y3, ys4, rfl, hx_y3, hd_y3, hl_y3⟩ := drop_cons hd hk (by omega)
      refine SKIP (NEXT (SEQ (BLOCK (SEQ (REGIONQ ?_ ?_ ?_)))))
      · as_aux_lemma => kernel_rfl
      · as_aux_lemma => kernel_rfl
      refine QRUN 2 0 2 [(0, .v (.slice a_a a.length a_c)), (1, .v (.slice b_a b.length b_c)), (5, I (k : Int)), (17, .v (.slice a_a a.length a_c)), (18, I (k : Int))] ?_ rfl ?_
      · as_aux_lemma => kernel_rfl
      refine QINDEX 22 (.tmp 17) (.tmp 18) 19 0 ?_ (Nat.le_of_ble_eq_true rfl) a_a a.length a_c .i64 (k : Int) 3 1 ?_ ?_ ?_ ?_ (Rd.some ha (by omega)) (by omega) (by omega) ?_
      · as_aux_lemma => kernel_rfl
      · as_aux_lemma => kernel_rfl
      · as_aux_lemma => kernel_rfl
      · as_aux_lemma => kernel_rfl
      · as_aux_lemma => kernel_rfl
      refine QLOADE 3 (.tmp 19) 20 3 ?_ (Nat.le_of_ble_eq_true rfl) a_a (k * 1) 0 [vi y3] (vi y3) ?_ (fun w hw => (ha.fr hw.fr).flat hx_y3) ?_ ?_
      · as_aux_lemma => kernel_rfl
      · as_aux_lemma => kernel_rfl
      · as_aux_lemma => kernel_rfl
      refine QRUN 2 4 6 [(0, .v (.slice a_a a.length a_c)), (1, .v (.slice b_a b.length b_c)), (5, I (k : Int)), (20, I y3), (21, .v (.slice b_a b.length b_c)), (22, I (k : Int))] ?_ rfl ?_
      · as_aux_lemma => kernel_rfl
      obtain ⟨x5, hx6⟩ : ∃ y, b[k]? = some y := ⟨_, List.getElem?_eq_getElem (by omega)⟩
      refine QINDEX 22 (.tmp 21) (.tmp 22) 23 0 ?_ (Nat.le_of_ble_eq_true rfl) b_a b.length b_c .i64 (k : Int) 3 1 ?_ ?_ ?_ ?_ (Rd.some hb (by omega)) (by omega) (by omega) ?_
      · as_aux_lemma => kernel_rfl
      · as_aux_lemma => kernel_rfl
      · as_aux_lemma => kernel_rfl
      · as_aux_lemma => kernel_rfl
      · as_aux_lemma => kernel_rfl
      refine QLOADE 3 (.tmp 23) 24 3 ?_ (Nat.le_of_ble_eq_true rfl) b_a (k * 1) 0 [vi x5] (vi x5) ?_ (fun w hw => (hb.fr hw.fr).flat hx6) ?_ ?_
      · as_aux_lemma => kernel_rfl
      · as_aux_lemma => kernel_rfl
      · as_aux_lemma => kernel_rfl
      refine QRUN 1 8 9 [(0, .v (.slice a_a a.length a_c)), (1, .v (.slice b_a b.length b_c)), (5, I (k : Int)), (25, B (y3 != x5))] ?_ rfl ?_
      · as_aux_lemma => kernel_rfl
      refine QEND rfl (NEXT (IF (y3 != x5) ?_ (fun bh7 => ?_) (fun bh7 => ?_)))
      · as_aux_lemma => kernel_rfl
      · -- y3 != x5 = true
        have h7 := bh7
        have h7 := bne_iff_ne.1 h7
        refine SEQ (REGION [0] rfl (RUN0 1 [] [(4, B false)] ?_ rfl ?_))
        · as_aux_lemma => kernel_rfl
        refine ENDOPS (NEXT (RET (OUTR (PASS trivial (PASS trivial (OUTR (PASS trivial (FIN (.bool false) ?_ () ?_ [] ?_))))))))
        · as_aux_lemma => kernel_rfl
        · simp [RV, hv0, drop_get ‹b[k]? = some _›, eqInts, *]
        · rfl
      · -- y3 != x5 = false
        have h7 := bh7
        have h7 := bneF h7
        refine SKIP (OUTN (NEXT (REGION [0, 1, 2] rfl (RUN0 2 [2] [(0, .v (.slice a_a a.length a_c)), (1, .v (.slice b_a b.length b_c)), (16, I (wr ((k : Int) + 1)))] ?_ rfl ?_))))
        · as_aux_lemma => kernel_rfl
        refine CAST (d := 16) (vi (wr ((k : Int) + 1))) (vi ((k + 1 : Nat) : Int)) ?_ (vi_cast (by omega) (by omega)) ?_
        · as_aux_lemma => kernel_rfl
        refine RUN0 1 [] [(0, .v (.slice a_a a.length a_c)), (1, .v (.slice b_a b.length b_c)), (5, I ((k + 1 : Nat) : Int))] ?_ rfl ?_
        · as_aux_lemma => kernel_rfl
        refine ENDOPS (BACK (k + 1, ys4) [0, 1, 5] 0 [] _ ⟨hl_y3, hd_y3, hv0.trans (by simp [eqInts, drop_get ‹b[k]? = some _›, *])⟩ (by simp) ?_ rfl rfl rfl)
        · as_aux_lemma => kernel_rfl
    · -- decide ((k : Int) < (a.length : Int)) = false
      have h2 := bh2
      have h2 := of_decide_eq_false h2
      obtain rfl := drop_nil hk (by omega)
      refine EXIT (PASS trivial (PASS trivial (OUT (NEXT (SEQ (REGION [0] rfl (RUN0 1 [] [(4, B true)] ?_ rfl ?_)))))))
      · as_aux_lemma => kernel_rfl
      refine ENDOPS (NEXT (RET (FIN (.bool true) ?_ () ?_ [] ?_)))
      · as_aux_lemma => kernel_rfl
      · simp [RV, hv0, eqInts, List.drop_eq_nil_of_le (show b.length ≤ k by simp at hk; omega)]
      · rfl

theorem isIndex_c (W : World) (n : Int) (size : Int) : Spec Tryd.prog W [] 50 #[vi n, vi size] (RV (.bool (inB n 0 (wr (size - 1))))) := by
  refine ENTER0 (N := 9) (vs := [vi n, vi size]) Tryd.func50 rfl rfl (Nat.le_of_ble_eq_true rfl) ?_
  refine SEQ (REGION [0] rfl (RUN0 1 [] [(0, I n), (1, I size)] ?_ rfl ?_))
  · as_aux_lemma => kernel_rfl
  refine ENDOPS (NEXT (SEQ (REGION [0, 1, 2, 3, 4] rfl (RUN0 3 [3, 4] [(5, I n), (7, I (wr (size - 1)))] ?_ rfl ?_))))
  · as_aux_lemma => kernel_rfl
  refine OPC (CALL 60 #[vi n, vi 0, vi (wr (size - 1))] (some 8) ?_ [] [] _ rfl (RV (.bool (inB n 0 (wr (size - 1))))) (fun w hw => within_c w n 0 (wr (size - 1))) (by rintro _ ⟨⟩; exact Nat.le_of_ble_eq_true rfl) ?_)
  · as_aux_lemma => kernel_rfl
  rintro ⟨⟩
  refine RUN0 1 [] [(4, B (inB n 0 (wr (size - 1))))] ?_ rfl ?_
  · as_aux_lemma => kernel_rfl
  refine ENDOPS (NEXT (RET (FIN (.bool (inB n 0 (wr (size - 1)))) ?_ () ?_ [] ?_)))
  · as_aux_lemma => kernel_rfl
  · simp [RV]
  · rfl

theorem l12Words_c (W : World)  : Spec Tryd.prog W [] 45 #[] (⟨HH, fun p => .slice p.1 codeWords.length p.2, fun p => [slA 9 strL (.slice p.1 codeWords.length p.2) codeWords]⟩) := by
  refine ENTER0 (N := 2) (vs := []) Tryd.func45 rfl rfl (Nat.le_of_ble_eq_true rfl) ?_
  refine SEQ (REGION [0] rfl (RUN0 1 [] [] ?_ rfl ?_))
  · as_aux_lemma => kernel_rfl
  refine ENDOPS (NEXT (SEQ (REGION [0, 1] rfl (OPC (BUILDS 41 18 #[(0, .const (.string (bs ([100, 111, 110, 101])))), (1, .const (.string (bs ([104, 111, 117, 115, 101])))), (2, .const (.string (bs ([107, 105, 110, 100])))), (3, .const (.string (bs ([102, 111, 114, 109])))), (4, .const (.string (bs ([99, 97, 98, 105, 110])))), (5, .const (.string (bs ([115, 105, 122, 101])))), (6, .const (.string (bs ([116, 105, 101, 114])))), (7, .const (.string (bs ([105, 100])))), (8, .const (.string (bs ([116, 104, 101, 114, 101])))), (9, .const (.string (bs ([102, 117, 108, 108])))), (10, .const (.string (bs ([116, 105, 101, 100])))), (11, .const (.string (bs ([116, 117, 114, 110])))), (12, .const (.string (bs ([115, 101, 97, 116, 115])))), (13, .const (.string (bs ([111, 102, 102, 101, 114])))), (14, .const (.string (bs ([108, 97, 116, 101])))), (15, .const (.string (bs ([99, 108, 111, 99, 107])))), (16, .const (.string (bs ([99, 114, 101, 119])))), (17, .const (.string (bs ([105, 100, 108, 101]))))] 1 41 ?_ (Nat.le_of_ble_eq_true rfl) 9 [.string (bs ([100, 111, 110, 101])), .string (bs ([104, 111, 117, 115, 101])), .string (bs ([107, 105, 110, 100])), .string (bs ([102, 111, 114, 109])), .string (bs ([99, 97, 98, 105, 110])), .string (bs ([115, 105, 122, 101])), .string (bs ([116, 105, 101, 114])), .string (bs ([105, 100])), .string (bs ([116, 104, 101, 114, 101])), .string (bs ([102, 117, 108, 108])), .string (bs ([116, 105, 101, 100])), .string (bs ([116, 117, 114, 110])), .string (bs ([115, 101, 97, 116, 115])), .string (bs ([111, 102, 102, 101, 114])), .string (bs ([108, 97, 116, 101])), .string (bs ([99, 108, 111, 99, 107])), .string (bs ([99, 114, 101, 119])), .string (bs ([105, 100, 108, 101]))] ?_ strL ([[100, 111, 110, 101], [104, 111, 117, 115, 101], [107, 105, 110, 100], [102, 111, 114, 109], [99, 97, 98, 105, 110], [115, 105, 122, 101], [116, 105, 101, 114], [105, 100], [116, 104, 101, 114, 101], [102, 117, 108, 108], [116, 105, 101, 100], [116, 117, 114, 110], [115, 101, 97, 116, 115], [111, 102, 102, 101, 114], [108, 97, 116, 101], [99, 108, 111, 99, 107], [99, 114, 101, 119], [105, 100, 108, 101]] : List (List UInt8)) rfl (by simp only [maxLen]; omega) [] [] _ rfl (flatRep rfl) (fun a1 ha2 => ?_))))))
  · as_aux_lemma => kernel_rfl
  · as_aux_lemma => kernel_rfl
  refine RUN0 1 [] [(0, .v (.slice a1 18 18))] ?_ rfl ?_
  · as_aux_lemma => kernel_rfl
  refine ENDOPS (NEXT (RET (FIN (.slice a1 18 18) ?_ (a1, 18) ?_ [0] ?_)))
  · as_aux_lemma => kernel_rfl
  · rfl
  · rfl

theorem sCodeWord_c (W : World) (code : Int) : Spec Tryd.prog W [] 21 #[vi code] (RV (.string (bs (codeWord code)))) := by
  refine ENTER0 (N := 10) (vs := [vi code]) Tryd.func21 rfl rfl (Nat.le_of_ble_eq_true rfl) ?_
  refine SEQ (REGION [0] rfl (RUN0 1 [] [(0, I code)] ?_ rfl ?_))
  · as_aux_lemma => kernel_rfl
  refine ENDOPS (NEXT (SEQ (SEQ (REGION [0, 1, 2] rfl (RUN0 1 [1, 2] [(0, I code), (3, I code)] ?_ rfl ?_)))))
  · as_aux_lemma => kernel_rfl
  refine OPC (CALL 44 #[vi code, vi 0, vi 17] (some 4) ?_ [] [] _ rfl (RV (.bool (inB code 0 17))) (fun w hw => l1In_c w code 0 17) (by rintro _ ⟨⟩; exact Nat.le_of_ble_eq_true rfl) ?_)
  · as_aux_lemma => kernel_rfl
  rintro ⟨⟩
  refine RUN0 1 [] [(0, I code), (5, B (!(inB code 0 17)))] ?_ rfl ?_
  · as_aux_lemma => kernel_rfl
  refine ENDOPS (NEXT (IF (!(inB code 0 17)) ?_ (fun bh1 => ?_) (fun bh1 => ?_)))
  · as_aux_lemma => kernel_rfl
  · -- !(inB code 0 17) = true
    have h1 := bh1
    have h1 := notT h1
    refine SEQ (REGION [0] rfl (RUN0 1 [] [(2, .v (.string (bs ([63]))))] ?_ rfl ?_))
    · as_aux_lemma => kernel_rfl
    refine ENDOPS (NEXT (RET (PASS trivial (FIN (.string (bs ([63]))) ?_ () ?_ [] ?_))))
    · as_aux_lemma => kernel_rfl
    · (show Value.string _ = Value.string (bs (codeWord code)); congr 2; first | exact codeWord_of hc rfl | (simp [codeWord, *]))
    · rfl
  · -- !(inB code 0 17) = false
    have h1 := bh1
    have h1 := notF h1
    have hc := h1; have hq : 0 ≤ code ∧ code ≤ 17 := (by simpa [inB] using h1); have hln : codeWords.length = 18 := rfl
    refine SKIP (NEXT (SEQ (REGION [0, 1, 2, 3, 4] rfl (OPC (CALL 45 #[] (some 6) ?_ [] [] _ rfl (⟨HH, fun p => .slice p.1 codeWords.length p.2, fun p => [slA 9 strL (.slice p.1 codeWords.length p.2) codeWords]⟩) (fun w hw => l12Words_c w ) (by rintro _ ⟨⟩; exact Nat.le_of_ble_eq_true rfl) ?_)))))
    · as_aux_lemma => kernel_rfl
    rintro ⟨a2, c3⟩
    refine RUN0 1 [2, 3, 4] [(6, .v (.slice a2 codeWords.length c3)), (7, I code)] ?_ rfl ?_
    · as_aux_lemma => kernel_rfl
    obtain ⟨x4, hx5⟩ : ∃ y, codeWords[code.toNat]? = some y := ⟨_, List.getElem?_eq_getElem (by omega)⟩
    refine FACT (a2.isSome = true) (fun w hw => SlO.isS (hw.own 0 rfl) (by omega)) (fun hs6 => ?_)
    refine OPC (INDEX 41 (.tmp 6) (.tmp 7) 8 0 ?_ (Nat.le_of_ble_eq_true rfl) a2 codeWords.length c3 .i64 code 9 1 ?_ ?_ ?_ ?_ hs6 (by omega) (by omega) ?_)
    · as_aux_lemma => kernel_rfl
    · as_aux_lemma => kernel_rfl
    · as_aux_lemma => kernel_rfl
    · as_aux_lemma => kernel_rfl
    · as_aux_lemma => kernel_rfl
    refine OPC (LOADE 9 (.tmp 8) 9 9 ?_ (Nat.le_of_ble_eq_true rfl) a2 (code.toNat * 1) 0 [.string (bs x4)] (.string (bs x4)) ?_ (fun w hw => (Rd.own (hw.own 0 rfl)).flat hx5) ?_ ?_)
    · as_aux_lemma => kernel_rfl
    · as_aux_lemma => kernel_rfl
    · as_aux_lemma => kernel_rfl
    refine RUN0 1 [] [(2, .v (.string (bs x4)))] ?_ rfl ?_
    · as_aux_lemma => kernel_rfl
    refine ENDOPS (NEXT (RET (FIN (.string (bs x4)) ?_ () ?_ [] ?_)))
    · as_aux_lemma => kernel_rfl
    · (show Value.string _ = Value.string (bs (codeWord code)); congr 2; first | exact codeWord_of hc hx5 | (simp [codeWord, *]))
    · rfl

theorem iCodeWord_c (W : World) (code : Int) : Spec Tryd.prog W [] 33 #[vi code] (RV (.string (bs (codeWord code)))) := by
  refine ENTER0 (N := 14) (vs := [vi code]) Tryd.func33 rfl rfl (Nat.le_of_ble_eq_true rfl) ?_
  refine SEQ (REGION [0] rfl (RUN0 1 [] [(0, I code)] ?_ rfl ?_))
  · as_aux_lemma => kernel_rfl
  refine ENDOPS (NEXT (SEQ (REGION [0, 1] rfl (OPC (BUILDS 41 18 #[(0, .const (.string (bs ([100, 111, 110, 101])))), (1, .const (.string (bs ([104, 111, 117, 115, 101])))), (2, .const (.string (bs ([107, 105, 110, 100])))), (3, .const (.string (bs ([102, 111, 114, 109])))), (4, .const (.string (bs ([99, 97, 98, 105, 110])))), (5, .const (.string (bs ([115, 105, 122, 101])))), (6, .const (.string (bs ([116, 105, 101, 114])))), (7, .const (.string (bs ([105, 100])))), (8, .const (.string (bs ([116, 104, 101, 114, 101])))), (9, .const (.string (bs ([102, 117, 108, 108])))), (10, .const (.string (bs ([116, 105, 101, 100])))), (11, .const (.string (bs ([116, 117, 114, 110])))), (12, .const (.string (bs ([115, 101, 97, 116, 115])))), (13, .const (.string (bs ([111, 102, 102, 101, 114])))), (14, .const (.string (bs ([108, 97, 116, 101])))), (15, .const (.string (bs ([99, 108, 111, 99, 107])))), (16, .const (.string (bs ([99, 114, 101, 119])))), (17, .const (.string (bs ([105, 100, 108, 101]))))] 4 41 ?_ (Nat.le_of_ble_eq_true rfl) 9 [.string (bs ([100, 111, 110, 101])), .string (bs ([104, 111, 117, 115, 101])), .string (bs ([107, 105, 110, 100])), .string (bs ([102, 111, 114, 109])), .string (bs ([99, 97, 98, 105, 110])), .string (bs ([115, 105, 122, 101])), .string (bs ([116, 105, 101, 114])), .string (bs ([105, 100])), .string (bs ([116, 104, 101, 114, 101])), .string (bs ([102, 117, 108, 108])), .string (bs ([116, 105, 101, 100])), .string (bs ([116, 117, 114, 110])), .string (bs ([115, 101, 97, 116, 115])), .string (bs ([111, 102, 102, 101, 114])), .string (bs ([108, 97, 116, 101])), .string (bs ([99, 108, 111, 99, 107])), .string (bs ([99, 114, 101, 119])), .string (bs ([105, 100, 108, 101]))] ?_ strL ([[100, 111, 110, 101], [104, 111, 117, 115, 101], [107, 105, 110, 100], [102, 111, 114, 109], [99, 97, 98, 105, 110], [115, 105, 122, 101], [116, 105, 101, 114], [105, 100], [116, 104, 101, 114, 101], [102, 117, 108, 108], [116, 105, 101, 100], [116, 117, 114, 110], [115, 101, 97, 116, 115], [111, 102, 102, 101, 114], [108, 97, 116, 101], [99, 108, 111, 99, 107], [99, 114, 101, 119], [105, 100, 108, 101]] : List (List UInt8)) rfl (by simp only [maxLen]; omega) [] [] _ rfl (flatRep rfl) (fun a1 ha2 => ?_))))))
  · as_aux_lemma => kernel_rfl
  · as_aux_lemma => kernel_rfl
  refine RUN0 1 [] [(0, I code), (3, .v (.slice a1 18 18))] ?_ rfl ?_
  · as_aux_lemma => kernel_rfl
  refine ENDOPS (NEXT (SEQ (SEQ (REGION [0, 1, 2, 3, 4] rfl (RUN0 3 [3, 4] [(0, I code), (3, .v (.slice a1 18 18)), (5, I code), (7, I 18)] ?_ rfl ?_)))))
  · as_aux_lemma => kernel_rfl
  refine OPC (CALL 50 #[vi code, vi 18] (some 8) ?_ [] [] _ rfl (RV (.bool (inB code 0 (wr (18 - 1))))) (fun w hw => isIndex_c w code 18) (by rintro _ ⟨⟩; exact Nat.le_of_ble_eq_true rfl) ?_)
  · as_aux_lemma => kernel_rfl
  rintro ⟨⟩
  refine RUN0 1 [] [(0, I code), (3, .v (.slice a1 18 18)), (9, B (!(inB code 0 (wr (18 - 1)))))] ?_ rfl ?_
  · as_aux_lemma => kernel_rfl
  refine ENDOPS (NEXT (IF (!(inB code 0 (wr (18 - 1)))) ?_ (fun bh3 => ?_) (fun bh3 => ?_)))
  · as_aux_lemma => kernel_rfl
  · -- !(inB code 0 (wr (18 - 1))) = true
    have h3 := bh3
    have h3 := notT h3
    have hc : inB code 0 17 = false := (by rw [← wr17]; exact h3)
    refine SEQ (REGION [0] rfl (RUN0 1 [] [(2, .v (.string (bs ([63]))))] ?_ rfl ?_))
    · as_aux_lemma => kernel_rfl
    refine ENDOPS (NEXT (RET (PASS trivial (FIN (.string (bs ([63]))) ?_ () ?_ [] ?_))))
    · as_aux_lemma => kernel_rfl
    · (show Value.string _ = Value.string (bs (codeWord code)); congr 2; first | exact codeWord_of hc rfl | (simp [codeWord, *]))
    · rfl
  · -- !(inB code 0 (wr (18 - 1))) = false
    have h3 := bh3
    have h3 := notF h3
    have hc : inB code 0 17 = true := (by rw [← wr17]; exact h3); have hq : 0 ≤ code ∧ code ≤ 17 := (by simpa [inB] using hc)
    refine SKIP (NEXT (SEQ (REGION [0, 1, 2, 3, 4] rfl (RUN0 2 [2, 3, 4] [(10, .v (.slice a1 18 18)), (11, I code)] ?_ rfl ?_))))
    · as_aux_lemma => kernel_rfl
    refine FACT (18 = ([[100, 111, 110, 101], [104, 111, 117, 115, 101], [107, 105, 110, 100], [102, 111, 114, 109], [99, 97, 98, 105, 110], [115, 105, 122, 101], [116, 105, 101, 114], [105, 100], [116, 104, 101, 114, 101], [102, 117, 108, 108], [116, 105, 101, 100], [116, 117, 114, 110], [115, 101, 97, 116, 115], [111, 102, 102, 101, 114], [108, 97, 116, 101], [99, 108, 111, 99, 107], [99, 114, 101, 119], [105, 100, 108, 101]] : List (List UInt8)).length) (fun w hw => (SlO.lenE (hw.own 0 rfl)).1) (fun hln4 => ?_)
    obtain ⟨x5, hx6⟩ : ∃ y, ([[100, 111, 110, 101], [104, 111, 117, 115, 101], [107, 105, 110, 100], [102, 111, 114, 109], [99, 97, 98, 105, 110], [115, 105, 122, 101], [116, 105, 101, 114], [105, 100], [116, 104, 101, 114, 101], [102, 117, 108, 108], [116, 105, 101, 100], [116, 117, 114, 110], [115, 101, 97, 116, 115], [111, 102, 102, 101, 114], [108, 97, 116, 101], [99, 108, 111, 99, 107], [99, 114, 101, 119], [105, 100, 108, 101]] : List (List UInt8))[code.toNat]? = some y := ⟨_, List.getElem?_eq_getElem (by omega)⟩
    refine OPC (INDEX 41 (.tmp 10) (.tmp 11) 12 0 ?_ (Nat.le_of_ble_eq_true rfl) a1 18 18 .i64 code 9 1 ?_ ?_ ?_ ?_ ha2 (by omega) (by omega) ?_)
    · as_aux_lemma => kernel_rfl
    · as_aux_lemma => kernel_rfl
    · as_aux_lemma => kernel_rfl
    · as_aux_lemma => kernel_rfl
    · as_aux_lemma => kernel_rfl
    refine OPC (LOADE 9 (.tmp 12) 13 9 ?_ (Nat.le_of_ble_eq_true rfl) a1 (code.toNat * 1) 0 [.string (bs x5)] (.string (bs x5)) ?_ (fun w hw => (Rd.own (hw.own 0 rfl)).flat hx6) ?_ ?_)
    · as_aux_lemma => kernel_rfl
    · as_aux_lemma => kernel_rfl
    · as_aux_lemma => kernel_rfl
    refine RUN0 1 [] [(2, .v (.string (bs x5)))] ?_ rfl ?_
    · as_aux_lemma => kernel_rfl
    refine ENDOPS (NEXT (RET (FIN (.string (bs x5)) ?_ () ?_ [] ?_)))
    · as_aux_lemma => kernel_rfl
    · (show Value.string _ = Value.string (bs (codeWord code)); congr 2; first | exact codeWord_of hc hx6 | (simp [codeWord, *]))
    · rfl

theorem sDigits_c (W : World) (n : Int) (hn : i64R n) : Spec Tryd.prog W [] 31 #[vi n] (RV (.string (bs (Lib.itoa n)))) := by
  refine ENTER0 (N := 31) (vs := [vi n]) Tryd.func31 rfl rfl (Nat.le_of_ble_eq_true rfl) ?_
  refine SEQ (REGION [0] rfl (RUN0 1 [] [(0, I n)] ?_ rfl ?_))
  · as_aux_lemma => kernel_rfl
  refine ENDOPS (NEXT (SEQ (SEQ (REGION [0, 1] rfl (RUN0 2 [] [(0, I n), (7, B (n == 0))] ?_ rfl ?_)))))
  · as_aux_lemma => kernel_rfl
  refine ENDOPS (NEXT (IF (n == 0) ?_ (fun bh1 => ?_) (fun bh1 => ?_)))
  · as_aux_lemma => kernel_rfl
  · -- n == 0 = true
    have h1 := bh1
    have h1 := eq_of_beq h1
    refine SEQ (REGION [0] rfl (RUN0 1 [] [(2, .v (.string (bs ([48]))))] ?_ rfl ?_))
    · as_aux_lemma => kernel_rfl
    refine ENDOPS (NEXT (RET (PASS trivial (FIN (.string (bs ([48]))) ?_ () ?_ [] ?_))))
    · as_aux_lemma => kernel_rfl
    · (show Value.string _ = Value.string (bs (Lib.itoa n)); congr 2; first | (subst_vars; exact itoa_zero.symm) | (rw [itoa_of (by assumption), ← hv]; simp_all [ddz]))
    · rfl
  · -- n == 0 = false
    have h1 := bh1
    have h1 := ne_of_beq_false h1
    refine SKIP (NEXT (SEQ (REGION [0, 1, 2] rfl (RUN0 3 [] [(0, I n), (3, B (decide (n < 0)))] ?_ rfl ?_))))
    · as_aux_lemma => kernel_rfl
    refine ENDOPS (NEXT (SEQ (REGION [0] rfl (RUN0 1 [] [(0, I n), (3, B (decide (n < 0))), (4, .v (.string (bs ([]))))] ?_ rfl ?_))))
    · as_aux_lemma => kernel_rfl
    refine ENDOPS (NEXT (SEQ (BLOCK (LOOP (ι := Int × (List UInt8)) (fun j => [(0, I j.1), (3, B (decide (n < 0))), (4, .v (.string (bs j.2)))]) (fun j => []) (fun j => []) (fun j => i64R j.1 ∧ ddz j.1.natAbs ++ j.2 = ddz n.natAbs) (fun j => j.1.natAbs) (n, []) [0, 3, 4] ⟨hn, by simp⟩ ?_ rfl rfl ?_))))
    · as_aux_lemma => kernel_rfl
    rintro ⟨m, out⟩ ⟨hm, hv⟩
    dsimp only at hm hv
    have hol : out.length ≤ 20 := by have h1 := congrArg List.length hv; have h2 := dec_len (u := n.natAbs) (by unfold i64R at hn; omega); simp only [List.length_append] at h1; omega
    refine SEQ (SEQ (REGION [0, 1] rfl (RUN0 2 [] [(0, I m), (3, B (decide (n < 0))), (4, .v (.string (bs out))), (11, B (m != 0))] ?_ rfl ?_)))
    · as_aux_lemma => kernel_rfl
    refine ENDOPS (NEXT (IF (m != 0) ?_ (fun bh2 => ?_) (fun bh2 => ?_)))
    · as_aux_lemma => kernel_rfl
    · -- m != 0 = true
      have h2 := bh2
      have h2 := bne_iff_ne.1 h2
      refine SKIP (NEXT (BLOCK (SEQ (REGION [0, 1, 2] rfl (RUN0 3 [] [(0, I m), (3, B (decide (n < 0))), (4, .v (.string (bs out))), (5, I (Int.tmod m 10))] ?_ rfl ?_)))))
      · as_aux_lemma => kernel_rfl
      refine ENDOPS (NEXT (SEQ (SEQ (REGION [0, 1] rfl (RUN0 2 [] [(0, I m), (3, B (decide (n < 0))), (4, .v (.string (bs out))), (5, I (Int.tmod m 10)), (15, B (decide ((Int.tmod m 10) < 0)))] ?_ rfl ?_)))))
      · as_aux_lemma => kernel_rfl
      refine ENDOPS (NEXT (IF (decide ((Int.tmod m 10) < 0)) ?_ (fun bh3 => ?_) (fun bh3 => ?_)))
      · as_aux_lemma => kernel_rfl
      · -- decide ((Int.tmod m 10) < 0) = true
        have h3 := bh3
        have h3 := of_decide_eq_true h3
        refine REGION [0, 1, 2] rfl (RUN0 3 [] [(0, I m), (3, B (decide (n < 0))), (4, .v (.string (bs out))), (5, I (wr (0 - (Int.tmod m 10))))] ?_ rfl ?_)
        · as_aux_lemma => kernel_rfl
        refine ENDOPS (NEXT (SEQ (REGION [0, 1, 2, 3, 4, 5, 6, 7] rfl (RUN0 3 [3, 4, 5, 6, 7] [(0, I m), (3, B (decide (n < 0))), (4, .v (.string (bs out))), (20, .v (.int .u8 (IntKind.wrap .u8 (wr (48 + (wr (0 - (Int.tmod m 10))))))))] ?_ rfl ?_))))
        · as_aux_lemma => kernel_rfl
        refine CAST (d := 20) (.int .u8 (IntKind.wrap .u8 (wr (48 + (wr (0 - (Int.tmod m 10))))))) (.int .u8 (((byteOf (wr (48 + (wr (0 - (Int.tmod m 10)))))).toNat : Nat) : Int)) ?_ (v8 (wr (48 + (wr (0 - (Int.tmod m 10)))))) ?_
        · as_aux_lemma => kernel_rfl
        refine OPC (BUILDS 38 1 #[(0, .tmp 20)] 21 38 ?_ (Nat.le_of_ble_eq_true rfl) 5 [.int .u8 (((byteOf (wr (48 + (wr (0 - (Int.tmod m 10)))))).toNat : Nat) : Int)] ?_ byteL ([byteOf (wr (48 + (wr (0 - (Int.tmod m 10)))))] : List UInt8) rfl (by simp only [maxLen]; omega) [] [] _ rfl (flatRep rfl) (fun a4 ha5 => ?_))
        · as_aux_lemma => kernel_rfl
        · as_aux_lemma => kernel_rfl
        refine FACT (1 = ([byteOf (wr (48 + (wr (0 - (Int.tmod m 10)))))] : List UInt8).length) (fun w hw => (SlO.lenE (hw.own 0 rfl)).1) (fun hln6 => ?_)
        refine OPC (RUNV (.convert 38 9 (.tmp 21)) 22 9 ?_ (Nat.le_of_ble_eq_true rfl) (.string (bs ([byteOf (wr (48 + (wr (0 - (Int.tmod m 10)))))] : List UInt8))) (runs_bstr (a := a4) (n := 1) (c := 1) (xs := ([byteOf (wr (48 + (wr (0 - (Int.tmod m 10)))))] : List UInt8)) (e := 5) ?_ ?_ ?_ ?_ hln6.symm (fun w hw => (Rd.own (hw.own 0 rfl)))) ?_)
        · as_aux_lemma => kernel_rfl
        · as_aux_lemma => kernel_rfl
        · as_aux_lemma => kernel_rfl
        · as_aux_lemma => kernel_rfl
        · as_aux_lemma => kernel_rfl
        refine RUN0 1 [6, 7] [(0, I m), (3, B (decide (n < 0))), (22, .v (.string (bs ([byteOf (wr (48 + (wr (0 - (Int.tmod m 10)))))] : List UInt8)))), (23, .v (.string (bs out)))] ?_ rfl ?_
        · as_aux_lemma => kernel_rfl
        refine OPC (RUNV (.binOp .add 9 (.tmp 22) (.tmp 23) 9) 24 9 ?_ (Nat.le_of_ble_eq_true rfl) (.string (bs (([byteOf (wr (48 + (wr (0 - (Int.tmod m 10)))))] : List UInt8) ++ out))) (runs_scat (a := ([byteOf (wr (48 + (wr (0 - (Int.tmod m 10)))))] : List UInt8)) (b := out) ?_ ?_ (by first | omega | (simp only [List.length_append, List.length_cons, List.length_nil, List.length_take, List.length_drop] at *; omega))) ?_)
        · as_aux_lemma => kernel_rfl
        · as_aux_lemma => kernel_rfl
        · as_aux_lemma => kernel_rfl
        refine RUN0 1 [] [(0, I m), (3, B (decide (n < 0))), (4, .v (.string (bs (([byteOf (wr (48 + (wr (0 - (Int.tmod m 10)))))] : List UInt8) ++ out))))] ?_ rfl ?_
        · as_aux_lemma => kernel_rfl
        refine ENDOPS (NEXT (REGION [0, 1, 2] rfl (RUN0 3 [] [(0, I (wr (Int.tdiv m 10))), (3, B (decide (n < 0))), (4, .v (.string (bs (([byteOf (wr (48 + (wr (0 - (Int.tmod m 10)))))] : List UInt8) ++ out))))] ?_ rfl ?_)))
        · as_aux_lemma => kernel_rfl
        refine ENDOPS (OUTN (BACK (wr (Int.tdiv m 10), ([byteOf (wr (48 + (wr (0 - (Int.tmod m 10)))))] : List UInt8) ++ out) [0, 3, 4] 0 [] _ ⟨(quo10 hm).1, by rw [← hv, (quo10 hm).2, ddz_step (u := m.natAbs) (by omega)]; first | (rw [dig_pos hm (by assumption)]; simp) | (rw [dig_neg hm (by assumption)]; simp)⟩ (by have := (quo10 hm).2; dsimp only; omega) ?_ rfl rfl rfl))
        · as_aux_lemma => kernel_rfl
      · -- decide ((Int.tmod m 10) < 0) = false
        have h3 := bh3
        have h3 := of_decide_eq_false h3
        refine SKIP (NEXT (SEQ (REGION [0, 1, 2, 3, 4, 5, 6, 7] rfl (RUN0 3 [3, 4, 5, 6, 7] [(0, I m), (3, B (decide (n < 0))), (4, .v (.string (bs out))), (20, .v (.int .u8 (IntKind.wrap .u8 (wr (48 + (Int.tmod m 10))))))] ?_ rfl ?_))))
        · as_aux_lemma => kernel_rfl
        refine CAST (d := 20) (.int .u8 (IntKind.wrap .u8 (wr (48 + (Int.tmod m 10))))) (.int .u8 (((byteOf (wr (48 + (Int.tmod m 10)))).toNat : Nat) : Int)) ?_ (v8 (wr (48 + (Int.tmod m 10)))) ?_
        · as_aux_lemma => kernel_rfl
        refine OPC (BUILDS 38 1 #[(0, .tmp 20)] 21 38 ?_ (Nat.le_of_ble_eq_true rfl) 5 [.int .u8 (((byteOf (wr (48 + (Int.tmod m 10)))).toNat : Nat) : Int)] ?_ byteL ([byteOf (wr (48 + (Int.tmod m 10)))] : List UInt8) rfl (by simp only [maxLen]; omega) [] [] _ rfl (flatRep rfl) (fun a7 ha8 => ?_))
        · as_aux_lemma => kernel_rfl
        · as_aux_lemma => kernel_rfl
        refine FACT (1 = ([byteOf (wr (48 + (Int.tmod m 10)))] : List UInt8).length) (fun w hw => (SlO.lenE (hw.own 0 rfl)).1) (fun hln9 => ?_)
        refine OPC (RUNV (.convert 38 9 (.tmp 21)) 22 9 ?_ (Nat.le_of_ble_eq_true rfl) (.string (bs ([byteOf (wr (48 + (Int.tmod m 10)))] : List UInt8))) (runs_bstr (a := a7) (n := 1) (c := 1) (xs := ([byteOf (wr (48 + (Int.tmod m 10)))] : List UInt8)) (e := 5) ?_ ?_ ?_ ?_ hln9.symm (fun w hw => (Rd.own (hw.own 0 rfl)))) ?_)
        · as_aux_lemma => kernel_rfl
        · as_aux_lemma => kernel_rfl
        · as_aux_lemma => kernel_rfl
        · as_aux_lemma => kernel_rfl
        · as_aux_lemma => kernel_rfl
        refine RUN0 1 [6, 7] [(0, I m), (3, B (decide (n < 0))), (22, .v (.string (bs ([byteOf (wr (48 + (Int.tmod m 10)))] : List UInt8)))), (23, .v (.string (bs out)))] ?_ rfl ?_
        · as_aux_lemma => kernel_rfl
        refine OPC (RUNV (.binOp .add 9 (.tmp 22) (.tmp 23) 9) 24 9 ?_ (Nat.le_of_ble_eq_true rfl) (.string (bs (([byteOf (wr (48 + (Int.tmod m 10)))] : List UInt8) ++ out))) (runs_scat (a := ([byteOf (wr (48 + (Int.tmod m 10)))] : List UInt8)) (b := out) ?_ ?_ (by first | omega | (simp only [List.length_append, List.length_cons, List.length_nil, List.length_take, List.length_drop] at *; omega))) ?_)
        · as_aux_lemma => kernel_rfl
        · as_aux_lemma => kernel_rfl
        · as_aux_lemma => kernel_rfl
        refine RUN0 1 [] [(0, I m), (3, B (decide (n < 0))), (4, .v (.string (bs (([byteOf (wr (48 + (Int.tmod m 10)))] : List UInt8) ++ out))))] ?_ rfl ?_
        · as_aux_lemma => kernel_rfl
        refine ENDOPS (NEXT (REGION [0, 1, 2] rfl (RUN0 3 [] [(0, I (wr (Int.tdiv m 10))), (3, B (decide (n < 0))), (4, .v (.string (bs (([byteOf (wr (48 + (Int.tmod m 10)))] : List UInt8) ++ out))))] ?_ rfl ?_)))
        · as_aux_lemma => kernel_rfl
        refine ENDOPS (OUTN (BACK (wr (Int.tdiv m 10), ([byteOf (wr (48 + (Int.tmod m 10)))] : List UInt8) ++ out) [0, 3, 4] 0 [] _ ⟨(quo10 hm).1, by rw [← hv, (quo10 hm).2, ddz_step (u := m.natAbs) (by omega)]; first | (rw [dig_pos hm (by assumption)]; simp) | (rw [dig_neg hm (by assumption)]; simp)⟩ (by have := (quo10 hm).2; dsimp only; omega) ?_ rfl rfl rfl))
        · as_aux_lemma => kernel_rfl
    · -- m != 0 = false
      have h2 := bh2
      have h2 := bneF h2
      refine EXIT (PASS trivial (PASS trivial (OUT (NEXT (SEQ (SEQ (REGION [0] rfl (RUN0 1 [] [(4, .v (.string (bs out))), (27, B (decide (n < 0)))] ?_ rfl ?_))))))))
      · as_aux_lemma => kernel_rfl
      refine ENDOPS (NEXT (IF (decide (n < 0)) ?_ (fun bh10 => ?_) (fun bh10 => ?_)))
      · as_aux_lemma => kernel_rfl
      · -- decide (n < 0) = true
        have h10 := bh10
        have h10 := of_decide_eq_true h10
        refine SEQ (REGION [0, 1, 2] rfl (RUN0 1 [1, 2] [(28, .v (.string (bs out)))] ?_ rfl ?_))
        · as_aux_lemma => kernel_rfl
        refine OPC (RUNV (.binOp .add 9 (.const (.string (bs ([45])))) (.tmp 28) 9) 29 9 ?_ (Nat.le_of_ble_eq_true rfl) (.string (bs (([45]) ++ out))) (runs_scat (a := [45]) (b := out) ?_ ?_ (by first | omega | (simp only [List.length_append, List.length_cons, List.length_nil, List.length_take, List.length_drop] at *; omega))) ?_)
        · as_aux_lemma => kernel_rfl
        · as_aux_lemma => kernel_rfl
        · as_aux_lemma => kernel_rfl
        refine RUN0 1 [] [(2, .v (.string (bs (([45]) ++ out))))] ?_ rfl ?_
        · as_aux_lemma => kernel_rfl
        refine ENDOPS (NEXT (RET (PASS trivial (FIN (.string (bs (([45]) ++ out))) ?_ () ?_ [] ?_))))
        · as_aux_lemma => kernel_rfl
        · (show Value.string _ = Value.string (bs (Lib.itoa n)); congr 2; first | (subst_vars; exact itoa_zero.symm) | (rw [itoa_of (by assumption), ← hv]; simp_all [ddz]))
        · rfl
      · -- decide (n < 0) = false
        have h10 := bh10
        have h10 := of_decide_eq_false h10
        refine SKIP (NEXT (SEQ (REGION [0, 1] rfl (RUN0 2 [] [(2, .v (.string (bs out)))] ?_ rfl ?_))))
        · as_aux_lemma => kernel_rfl
        refine ENDOPS (NEXT (RET (FIN (.string (bs out)) ?_ () ?_ [] ?_)))
        · as_aux_lemma => kernel_rfl
        · (show Value.string _ = Value.string (bs (Lib.itoa n)); congr 2; first | (subst_vars; exact itoa_zero.symm) | (rw [itoa_of (by assumption), ← hv]; simp_all [ddz]))
        · rfl

theorem szReply_c (W : World) (a : Reply) (a_ids_a : Option Addr) (a_ids_c : Nat) (ha_ids : Rd intL W a_ids_a a.ids) (left : Int) : Spec Tryd.prog W [] 8 #[.agg #[vi a.code, .slice a_ids_a a.ids.length a_ids_c], vi left] (RV (vi (szReply a left))) := by
  refine ENTER0 (N := 12) (vs := [.agg #[vi a.code, .slice a_ids_a a.ids.length a_ids_c], vi left]) Tryd.func8 rfl rfl (Nat.le_of_ble_eq_true rfl) ?_
  have ha_ids_len := ha_ids.len
  refine SEQ (REGION [0, 1] rfl (RUN 2 [] [(1, I left), (2, .p 0 0)] [(24, [vi a.code, .slice a_ids_a a.ids.length a_ids_c])] ?_ rfl ?_))
  · as_aux_lemma => kernel_rfl
  refine ENDOPS (NEXT (SEQ (REGION [0, 1, 2, 3, 4] rfl (RUN0 3 [3, 4] [(6, .v (.slice a_ids_a a.ids.length a_ids_c)), (7, I left)] ?_ rfl ?_))))
  · as_aux_lemma => kernel_rfl
  refine OPC (CALL 30 #[.slice a_ids_a a.ids.length a_ids_c, vi left] (some 8) ?_ [] [] _ rfl (RV (vi (szInts a.ids left))) (fun w hw => szIntS_c w a.ids a_ids_a a_ids_c (ha_ids.fr hw.fr) left) (by rintro _ ⟨⟩; exact Nat.le_of_ble_eq_true rfl) ?_)
  · as_aux_lemma => kernel_rfl
  rintro ⟨⟩
  refine RUN0 1 [] [(1, I (szInts a.ids left))] ?_ rfl ?_
  · as_aux_lemma => kernel_rfl
  refine ENDOPS (NEXT (SEQ (SEQ (REGION [0, 1] rfl (RUN0 2 [] [(1, I (szInts a.ids left)), (10, B (decide ((szInts a.ids left) < 0)))] ?_ rfl ?_)))))
  · as_aux_lemma => kernel_rfl
  refine ENDOPS (NEXT (IF (decide ((szInts a.ids left) < 0)) ?_ (fun bh1 => ?_) (fun bh1 => ?_)))
  · as_aux_lemma => kernel_rfl
  · -- decide ((szInts a.ids left) < 0) = true
    have h1 := bh1
    have h1 := of_decide_eq_true h1
    refine SEQ (REGION [0] rfl (RUN0 1 [] [(4, I (-1))] ?_ rfl ?_))
    · as_aux_lemma => kernel_rfl
    refine ENDOPS (NEXT (RET (PASS trivial (FIN (vi (-1)) ?_ () ?_ [] ?_))))
    · as_aux_lemma => kernel_rfl
    · simp [RV, szReply, *]
    · rfl
  · -- decide ((szInts a.ids left) < 0) = false
    have h1 := bh1
    have h1 := of_decide_eq_false h1
    refine SKIP (NEXT (SEQ (REGION [0, 1] rfl (RUN0 2 [] [(4, I (szInts a.ids left))] ?_ rfl ?_))))
    · as_aux_lemma => kernel_rfl
    refine ENDOPS (NEXT (RET (FIN (vi (szInts a.ids left)) ?_ () ?_ [] ?_)))
    · as_aux_lemma => kernel_rfl
    · simp [RV, szReply, *]
    · rfl

theorem toReply_c (W : World) (a : Reply) (a_ids_a : Option Addr) (a_ids_c : Nat) (ha_ids : Rd intL W a_ids_a a.ids) (hb : a.ids.length ≤ 1048576) : Spec Tryd.prog W [] 10 #[.agg #[vi a.code, .slice a_ids_a a.ids.length a_ids_c]] (⟨HH, fun p => .agg #[vi a.code, .slice p.1 a.ids.length p.2], fun p => [slA 3 intL (.slice p.1 a.ids.length p.2) a.ids]⟩) := by
  refine ENTER0 (N := 12) (vs := [.agg #[vi a.code, .slice a_ids_a a.ids.length a_ids_c]]) Tryd.func10 rfl rfl (Nat.le_of_ble_eq_true rfl) ?_
  have ha_ids_len := ha_ids.len
  refine SEQ (REGION [0, 1] rfl (RUN 2 [] [(1, .p 0 0), (2, .p 1 0)] [(24, [vi a.code, .slice a_ids_a a.ids.length a_ids_c]), (27, [vi 0, .slice none 0 0])] ?_ rfl ?_))
  · as_aux_lemma => kernel_rfl
  refine ENDOPS (NEXT (SEQ (REGION [0] rfl (RUN 1 [] [(1, .p 0 0), (2, .p 1 0), (3, .p 2 0)] [(24, [vi a.code, .slice a_ids_a a.ids.length a_ids_c]), (27, [vi 0, .slice none 0 0]), (27, [vi 0, .slice none 0 0])] ?_ rfl ?_))))
  · as_aux_lemma => kernel_rfl
  refine ENDOPS (NEXT (SEQ (REGION [0, 1, 2, 3] rfl (RUN 4 [] [(1, .p 0 0), (2, .p 1 0), (3, .p 2 0)] [(24, [vi a.code, .slice a_ids_a a.ids.length a_ids_c]), (27, [vi 0, .slice none 0 0]), (27, [vi a.code, .slice none 0 0])] ?_ rfl ?_))))
  · as_aux_lemma => kernel_rfl
  refine ENDOPS (NEXT (SEQ (REGION [0, 1, 2, 3, 4] rfl (RUN0 2 [2, 3, 4] [(2, .p 1 0), (3, .p 2 0), (8, .v (.slice a_ids_a a.ids.length a_ids_c))] ?_ rfl ?_))))
  · as_aux_lemma => kernel_rfl
  refine OPC (CALL 32 #[.slice a_ids_a a.ids.length a_ids_c] (some 9) ?_ [] [] _ rfl (⟨HH, fun p => .slice p.1 a.ids.length p.2, fun p => [slA 3 intL (.slice p.1 a.ids.length p.2) a.ids]⟩) (fun w hw => toIntS_c w a.ids a_ids_a a_ids_c (ha_ids.fr hw.fr) (by first | omega | (simp only [List.length_append, List.length_cons, List.length_nil, List.length_take, List.length_drop] at *; omega))) (by rintro _ ⟨⟩; exact Nat.le_of_ble_eq_true rfl) ?_)
  · as_aux_lemma => kernel_rfl
  rintro ⟨a1, c2⟩
  refine RUN 2 [] [(2, .p 1 0), (3, .p 2 0)] [(24, [vi a.code, .slice a_ids_a a.ids.length a_ids_c]), (27, [vi 0, .slice none 0 0]), (27, [vi a.code, .slice a1 a.ids.length c2])] ?_ rfl ?_
  · as_aux_lemma => kernel_rfl
  refine ENDOPS (NEXT (SEQ (REGION [0, 1] rfl (RUN 2 [] [(2, .p 1 0)] [(24, [vi a.code, .slice a_ids_a a.ids.length a_ids_c]), (27, [vi a.code, .slice a1 a.ids.length c2]), (27, [vi a.code, .slice a1 a.ids.length c2])] ?_ rfl ?_))))
  · as_aux_lemma => kernel_rfl
  refine ENDOPS (NEXT (RET (FIN (.agg #[vi a.code, .slice a1 a.ids.length c2]) ?_ (a1, c2) ?_ [0] ?_)))
  · as_aux_lemma => kernel_rfl
  · rfl
  · rfl

theorem eqReply_c (W : World) (a : Reply) (a_ids_a : Option Addr) (a_ids_c : Nat) (ha_ids : Rd intL W a_ids_a a.ids) (b : Reply) (b_ids_a : Option Addr) (b_ids_c : Nat) (hb_ids : Rd intL W b_ids_a b.ids) : Spec Tryd.prog W [] 12 #[.agg #[vi a.code, .slice a_ids_a a.ids.length a_ids_c], .agg #[vi b.code, .slice b_ids_a b.ids.length b_ids_c]] (RV (.bool (eqReply a b))) := by
  refine ENTER0 (N := 16) (vs := [.agg #[vi a.code, .slice a_ids_a a.ids.length a_ids_c], .agg #[vi b.code, .slice b_ids_a b.ids.length b_ids_c]]) Tryd.func12 rfl rfl (Nat.le_of_ble_eq_true rfl) ?_
  have ha_ids_len := ha_ids.len
  have hb_ids_len := hb_ids.len
  refine SEQ (REGION [0, 1, 2] rfl (RUN 3 [] [(2, .p 0 0), (3, .p 1 0)] [(27, [vi a.code, .slice a_ids_a a.ids.length a_ids_c]), (27, [vi b.code, .slice b_ids_a b.ids.length b_ids_c])] ?_ rfl ?_))
  · as_aux_lemma => kernel_rfl
  refine ENDOPS (NEXT (SEQ (SEQ (REGION [0, 1, 2, 3, 4] rfl (RUN0 5 [] [(2, .p 0 0), (3, .p 1 0), (9, B (a.code != b.code))] ?_ rfl ?_)))))
  · as_aux_lemma => kernel_rfl
  refine ENDOPS (NEXT (IF (a.code != b.code) ?_ (fun bh1 => ?_) (fun bh1 => ?_)))
  · as_aux_lemma => kernel_rfl
  · -- a.code != b.code = true
    have h1 := bh1
    have h1 := bne_iff_ne.1 h1
    refine SEQ (REGION [0] rfl (RUN0 1 [] [(4, B false)] ?_ rfl ?_))
    · as_aux_lemma => kernel_rfl
    refine ENDOPS (NEXT (RET (PASS trivial (FIN (.bool false) ?_ () ?_ [] ?_))))
    · as_aux_lemma => kernel_rfl
    · simp [RV, eqReply, *]
    · rfl
  · -- a.code != b.code = false
    have h1 := bh1
    have h1 := bneF h1
    refine SKIP (NEXT (SEQ (SEQ (REGION [0, 1, 2, 3, 4, 5] rfl (RUN0 4 [4, 5] [(11, .v (.slice a_ids_a a.ids.length a_ids_c)), (13, .v (.slice b_ids_a b.ids.length b_ids_c))] ?_ rfl ?_)))))
    · as_aux_lemma => kernel_rfl
    refine OPC (CALL 35 #[.slice a_ids_a a.ids.length a_ids_c, .slice b_ids_a b.ids.length b_ids_c] (some 14) ?_ [] [] _ rfl (RV (.bool (eqInts a.ids b.ids))) (fun w hw => eqIntS_c w a.ids a_ids_a a_ids_c (ha_ids.fr hw.fr) b.ids b_ids_a b_ids_c (hb_ids.fr hw.fr)) (by rintro _ ⟨⟩; exact Nat.le_of_ble_eq_true rfl) ?_)
    · as_aux_lemma => kernel_rfl
    rintro ⟨⟩
    refine RUN0 1 [] [(15, B (!(eqInts a.ids b.ids)))] ?_ rfl ?_
    · as_aux_lemma => kernel_rfl
    refine ENDOPS (NEXT (IF (!(eqInts a.ids b.ids)) ?_ (fun bh2 => ?_) (fun bh2 => ?_)))
    · as_aux_lemma => kernel_rfl
    · -- !(eqInts a.ids b.ids) = true
      have h2 := bh2
      have h2 := notT h2
      refine SEQ (REGION [0] rfl (RUN0 1 [] [(4, B false)] ?_ rfl ?_))
      · as_aux_lemma => kernel_rfl
      refine ENDOPS (NEXT (RET (PASS trivial (FIN (.bool false) ?_ () ?_ [] ?_))))
      · as_aux_lemma => kernel_rfl
      · simp [RV, eqReply, *]
      · rfl
    · -- !(eqInts a.ids b.ids) = false
      have h2 := bh2
      have h2 := notF h2
      refine SKIP (NEXT (SEQ (REGION [0] rfl (RUN0 1 [] [(4, B true)] ?_ rfl ?_))))
      · as_aux_lemma => kernel_rfl
      refine ENDOPS (NEXT (RET (FIN (.bool true) ?_ () ?_ [] ?_)))
      · as_aux_lemma => kernel_rfl
      · simp [RV, eqReply, *]
      · rfl

theorem sReplyLine_c (W : World) (r : Reply) (r_ids_a : Option Addr) (r_ids_c : Nat) (hr_ids : Rd intL W r_ids_a r.ids) (hr : ∀ x ∈ r.ids, i64R x) (hb : r.ids.length ≤ 1048576) : Spec Tryd.prog W [] 9 #[.agg #[vi r.code, .slice r_ids_a r.ids.length r_ids_c]] (RV (.string (bs (replyLine r)))) := by
  refine ENTER0 (N := 28) (vs := [.agg #[vi r.code, .slice r_ids_a r.ids.length r_ids_c]]) Tryd.func9 rfl rfl (Nat.le_of_ble_eq_true rfl) ?_
  have hr_ids_len := hr_ids.len
  refine SEQ (REGION [0, 1] rfl (RUN 2 [] [(1, .p 0 0)] [(27, [vi r.code, .slice r_ids_a r.ids.length r_ids_c])] ?_ rfl ?_))
  · as_aux_lemma => kernel_rfl
  refine ENDOPS (NEXT (SEQ (REGION [0, 1, 2, 3, 4] rfl (RUN0 2 [2, 3, 4] [(1, .p 0 0), (6, I r.code)] ?_ rfl ?_))))
  · as_aux_lemma => kernel_rfl
  refine OPC (CALL 21 #[vi r.code] (some 7) ?_ [] [] _ rfl (RV (.string (bs (codeWord r.code)))) (fun w hw => sCodeWord_c w r.code) (by rintro _ ⟨⟩; exact Nat.le_of_ble_eq_true rfl) ?_)
  · as_aux_lemma => kernel_rfl
  rintro ⟨⟩
  have hr1 := codeWord_len r.code
  refine OPC (CONVB 9 38 (.tmp 7) 8 38 ?_ (Nat.le_of_ble_eq_true rfl) (codeWord r.code) ?_ 5 ?_ ?_ ?_ (by first | omega | (simp only [List.length_append, List.length_cons, List.length_nil, List.length_take, List.length_drop] at *; omega)) (fun a2 c3 ha4 => ?_))
  · as_aux_lemma => kernel_rfl
  · as_aux_lemma => kernel_rfl
  · as_aux_lemma => kernel_rfl
  · as_aux_lemma => kernel_rfl
  · as_aux_lemma => kernel_rfl
  refine RUN0 1 [] [(1, .p 0 0), (3, .v (.slice a2 ((codeWord r.code).length) c3))] ?_ rfl ?_
  · as_aux_lemma => kernel_rfl
  refine ENDOPS (NEXT (SEQ (SEQ (REGION [0] rfl (RUN0 1 [] [(1, .p 0 0), (3, .v (.slice a2 ((codeWord r.code).length) c3)), (4, I 0)] ?_ rfl ?_)))))
  · as_aux_lemma => kernel_rfl
  refine ENDOPS (NEXT (BLOCK (LOOP (ι := Nat × (List Int) × (Option Addr) × Nat × (List UInt8)) (fun j => [(1, .p 0 0), (3, .v (.slice j.2.2.1 j.2.2.2.2.length j.2.2.2.1)), (4, I (j.1 : Int))]) (fun j => [(27, [vi r.code, .slice r_ids_a r.ids.length r_ids_c])]) (fun j => [slA 5 byteL (.slice j.2.2.1 j.2.2.2.2.length j.2.2.2.1) j.2.2.2.2]) (fun j => j.1 + j.2.1.length = r.ids.length ∧ r.ids.drop j.1 = j.2.1 ∧ replyLine r = joinSp j.2.2.2.2 j.2.1 ∧ j.2.2.2.2.length ≤ 5 + 22 * j.1) (fun j => j.2.1.length) (0, r.ids, a2, c3, codeWord r.code) [1, 3, 4] ⟨by simp, rfl, rfl, by omega⟩ ?_ rfl rfl ?_)))
  · as_aux_lemma => kernel_rfl
  rintro ⟨k, ys, oa, oc, out⟩ ⟨hk, hd, hv0, hv1⟩
  dsimp only at hk hd hv0 hv1
  refine SEQ (SEQ (REGION [0, 1, 2, 3, 4] rfl (RUN0 5 [] [(1, .p 0 0), (3, .v (.slice oa out.length oc)), (4, I (k : Int)), (13, B (decide ((k : Int) < (r.ids.length : Int))))] ?_ rfl ?_)))
  · as_aux_lemma => kernel_rfl
  refine ENDOPS (NEXT (IF (decide ((k : Int) < (r.ids.length : Int))) ?_ (fun bh5 => ?_) (fun bh5 => ?_)))
  · as_aux_lemma => kernel_rfl
  · -- decide ((k : Int) < (r.ids.length : Int)) = true
    have h5 := bh5
    have h5 := of_decide_eq_true h5
    obtain ⟨y6, ys7, rfl, hx_y6, hd_y6, hl_y6⟩ := drop_cons hd hk (by omega)
    have hr_y6 : i64R y6 := hr _ (List.mem_of_getElem? hx_y6)
    refine SKIP (NEXT (SEQ (BLOCK (REGIONH ?_ 11 rfl [] ?_))))
    · as_aux_lemma => kernel_rfl
    refine HPURE 0 [(1, .p 0 0), (3, .v (.slice oa out.length oc)), (4, I (k : Int)), (16, .v (.slice oa out.length oc))] ?_ ?_ rfl ?_
    · as_aux_lemma => kernel_rfl
    · as_aux_lemma => kernel_rfl
    refine HPURE 3 [(1, .p 0 0), (3, .v (.slice oa out.length oc)), (4, I (k : Int)), (16, .v (.slice oa out.length oc)), (19, .p 0 1)] ?_ ?_ rfl ?_
    · as_aux_lemma => kernel_rfl
    · as_aux_lemma => kernel_rfl
    refine HPURE 5 [(1, .p 0 0), (3, .v (.slice oa out.length oc)), (4, I (k : Int)), (16, .v (.slice oa out.length oc)), (19, .p 0 1), (21, I (k : Int))] ?_ ?_ rfl ?_
    · as_aux_lemma => kernel_rfl
    · as_aux_lemma => kernel_rfl
    refine HALL [1, 4] ?_ (by decide) ⟨?_, ?_⟩
    · as_aux_lemma => kernel_rfl
    · -- operation 1 next
      refine BUILDS 38 1 #[(0, .const (.int .u8 32))] 17 38 ?_ (Nat.le_of_ble_eq_true rfl) 5 [.int .u8 32] ?_ byteL ([32] : List UInt8) rfl (by simp only [maxLen]; omega) [] [] _ rfl (flatRep rfl) (fun a8 ha9 => ?_)
      · as_aux_lemma => kernel_rfl
      · as_aux_lemma => kernel_rfl
      refine HKEEP rfl (HALL [2, 4] ?_ (by decide) ⟨?_, ?_⟩)
      · as_aux_lemma => kernel_rfl
      · -- operation 2 next
        refine APPENDO 38 (.tmp 16) (.tmp 17) 18 38 ?_ (Nat.le_of_ble_eq_true rfl) (.slice oa out.length oc) a8 1 1 ?_ ?_ ha9 5 ?_ byteL (.int .u8 0) 1 ?_ rfl (by decide) 0 0 out ([32] : List UInt8) _ rfl rfl (by first | omega | (simp only [List.length_append, List.length_cons, List.length_nil, List.length_take, List.length_drop] at *; omega)) (by simp only [maxLen]; first | omega | (simp only [List.length_append, List.length_cons, List.length_nil, List.length_take, List.length_drop] at *; omega)) (fun a10 c11 hn12 => ?_)
        · as_aux_lemma => kernel_rfl
        · as_aux_lemma => kernel_rfl
        · as_aux_lemma => kernel_rfl
        · as_aux_lemma => kernel_rfl
        · as_aux_lemma => kernel_rfl
        refine HKEEP rfl (HALL [4] ?_ (by decide) ?_)
        · as_aux_lemma => kernel_rfl
        refine RUNO [(1, .p 0 0), (3, .v (.slice oa out.length oc)), (4, I (k : Int)), (18, .v (.slice a10 ((out ++ ([32] : List UInt8)).length) c11)), (20, .v (.slice r_ids_a r.ids.length r_ids_c)), (21, I (k : Int))] [(27, [vi r.code, .slice r_ids_a r.ids.length r_ids_c])] ?_ ?_
        · as_aux_lemma => kernel_rfl
        refine HKEEP rfl (HINDEX (i := 6)  22 (.tmp 20) (.tmp 21) 22 0 ?_ (Nat.le_of_ble_eq_true rfl) r_ids_a r.ids.length r_ids_c .i64 (k : Int) 3 1 ?_ ?_ ?_ ?_ (Rd.some hr_ids (by omega)) (by omega) (by omega) ?_ rfl ?_)
        · as_aux_lemma => kernel_rfl
        · as_aux_lemma => kernel_rfl
        · as_aux_lemma => kernel_rfl
        · as_aux_lemma => kernel_rfl
        · as_aux_lemma => kernel_rfl
        · as_aux_lemma => kernel_rfl
        refine HLOADE (i := 7)  3 (.tmp 22) 23 3 ?_ (Nat.le_of_ble_eq_true rfl) r_ids_a (k * 1) 0 [vi y6] (vi y6) ?_ (fun w hw => (hr_ids.fr hw.fr).flat hx_y6) ?_ ?_ rfl ?_
        · as_aux_lemma => kernel_rfl
        · as_aux_lemma => kernel_rfl
        · as_aux_lemma => kernel_rfl
        · as_aux_lemma => kernel_rfl
        refine HALL [8] ?_ (by decide) ?_
        · as_aux_lemma => kernel_rfl
        refine CALL 31 #[vi y6] (some 24) ?_ [] [] _ rfl (RV (.string (bs (Lib.itoa y6)))) (fun w hw => sDigits_c w y6 (by first | assumption | exact wr_range _ | (unfold i64R at *; omega) | (simp only [i64R] at *; omega))) (by rintro _ ⟨⟩; exact Nat.le_of_ble_eq_true rfl) ?_
        · as_aux_lemma => kernel_rfl
        rintro ⟨⟩
        have hr13 := itoa_len (n := y6) (by first | assumption | exact wr_range _ | (unfold i64R at *; omega) | (simp only [i64R] at *; omega))
        refine HKEEP rfl (HALL [9] ?_ (by decide) ?_)
        · as_aux_lemma => kernel_rfl
        refine APPENDS 38 9 (.tmp 18) (.tmp 24) 25 38 ?_ (Nat.le_of_ble_eq_true rfl) (.slice a10 ((out ++ ([32] : List UInt8)).length) c11) (Lib.itoa y6) ?_ ?_ 5 ?_ ?_ ?_ 0 (out ++ ([32] : List UInt8)) _ rfl (by first | omega | (simp only [List.length_append, List.length_cons, List.length_nil, List.length_take, List.length_drop] at *; omega)) (fun a14 c15 hn16 => ?_)
        · as_aux_lemma => kernel_rfl
        · as_aux_lemma => kernel_rfl
        · as_aux_lemma => kernel_rfl
        · as_aux_lemma => kernel_rfl
        · as_aux_lemma => kernel_rfl
        · as_aux_lemma => kernel_rfl
        refine HKEEP rfl (HPURE 10 [(1, .p 0 0), (3, .v (.slice a14 (((out ++ ([32] : List UInt8)) ++ (Lib.itoa y6)).length) c15)), (4, I (k : Int))] ?_ ?_ rfl ?_)
        · as_aux_lemma => kernel_rfl
        · as_aux_lemma => kernel_rfl
        refine HEND ?_ ?_
        · as_aux_lemma => kernel_rfl
        refine OUTN (NEXT (REGION [0, 1, 2] rfl (RUN0 2 [2] [(1, .p 0 0), (3, .v (.slice a14 (((out ++ ([32] : List UInt8)) ++ (Lib.itoa y6)).length) c15)), (15, I (wr ((k : Int) + 1)))] ?_ rfl ?_)))
        · as_aux_lemma => kernel_rfl
        refine CAST (d := 15) (vi (wr ((k : Int) + 1))) (vi ((k + 1 : Nat) : Int)) ?_ (vi_cast (by omega) (by omega)) ?_
        · as_aux_lemma => kernel_rfl
        refine RUN0 1 [] [(1, .p 0 0), (3, .v (.slice a14 (((out ++ ([32] : List UInt8)) ++ (Lib.itoa y6)).length) c15)), (4, I ((k + 1 : Nat) : Int))] ?_ rfl ?_
        · as_aux_lemma => kernel_rfl
        refine ENDOPS (BACK (k + 1, ys7, a14, c15, (out ++ ([32] : List UInt8)) ++ (Lib.itoa y6)) [1, 3, 4] 1 [0] _ ⟨hl_y6, hd_y6, hv0.trans (by simp [joinSp]), (by simp only [List.length_append, List.length_cons, List.length_nil]; omega)⟩ (by simp) ?_ rfl rfl rfl)
        · as_aux_lemma => kernel_rfl
      · -- operation 4 next
        refine RUNO [(1, .p 0 0), (3, .v (.slice oa out.length oc)), (4, I (k : Int)), (16, .v (.slice oa out.length oc)), (17, .v (.slice a8 1 1)), (20, .v (.slice r_ids_a r.ids.length r_ids_c)), (21, I (k : Int))] [(27, [vi r.code, .slice r_ids_a r.ids.length r_ids_c])] ?_ ?_
        · as_aux_lemma => kernel_rfl
        refine HKEEP rfl (HINDEX (i := 6)  22 (.tmp 20) (.tmp 21) 22 0 ?_ (Nat.le_of_ble_eq_true rfl) r_ids_a r.ids.length r_ids_c .i64 (k : Int) 3 1 ?_ ?_ ?_ ?_ (Rd.some hr_ids (by omega)) (by omega) (by omega) ?_ rfl ?_)
        · as_aux_lemma => kernel_rfl
        · as_aux_lemma => kernel_rfl
        · as_aux_lemma => kernel_rfl
        · as_aux_lemma => kernel_rfl
        · as_aux_lemma => kernel_rfl
        · as_aux_lemma => kernel_rfl
        refine HLOADE (i := 7)  3 (.tmp 22) 23 3 ?_ (Nat.le_of_ble_eq_true rfl) r_ids_a (k * 1) 0 [vi y6] (vi y6) ?_ (fun w hw => (hr_ids.fr hw.fr).flat hx_y6) ?_ ?_ rfl ?_
        · as_aux_lemma => kernel_rfl
        · as_aux_lemma => kernel_rfl
        · as_aux_lemma => kernel_rfl
        · as_aux_lemma => kernel_rfl
        refine HALL [2] ?_ (by decide) ?_
        · as_aux_lemma => kernel_rfl
        refine APPENDO 38 (.tmp 16) (.tmp 17) 18 38 ?_ (Nat.le_of_ble_eq_true rfl) (.slice oa out.length oc) a8 1 1 ?_ ?_ ha9 5 ?_ byteL (.int .u8 0) 1 ?_ rfl (by decide) 0 0 out ([32] : List UInt8) _ rfl rfl (by first | omega | (simp only [List.length_append, List.length_cons, List.length_nil, List.length_take, List.length_drop] at *; omega)) (by simp only [maxLen]; first | omega | (simp only [List.length_append, List.length_cons, List.length_nil, List.length_take, List.length_drop] at *; omega)) (fun a17 c18 hn19 => ?_)
        · as_aux_lemma => kernel_rfl
        · as_aux_lemma => kernel_rfl
        · as_aux_lemma => kernel_rfl
        · as_aux_lemma => kernel_rfl
        · as_aux_lemma => kernel_rfl
        refine HKEEP rfl (HALL [8] ?_ (by decide) ?_)
        · as_aux_lemma => kernel_rfl
        refine CALL 31 #[vi y6] (some 24) ?_ [] [] _ rfl (RV (.string (bs (Lib.itoa y6)))) (fun w hw => sDigits_c w y6 (by first | assumption | exact wr_range _ | (unfold i64R at *; omega) | (simp only [i64R] at *; omega))) (by rintro _ ⟨⟩; exact Nat.le_of_ble_eq_true rfl) ?_
        · as_aux_lemma => kernel_rfl
        rintro ⟨⟩
        have hr20 := itoa_len (n := y6) (by first | assumption | exact wr_range _ | (unfold i64R at *; omega) | (simp only [i64R] at *; omega))
        refine HKEEP rfl (HALL [9] ?_ (by decide) ?_)
        · as_aux_lemma => kernel_rfl
        refine APPENDS 38 9 (.tmp 18) (.tmp 24) 25 38 ?_ (Nat.le_of_ble_eq_true rfl) (.slice a17 ((out ++ ([32] : List UInt8)).length) c18) (Lib.itoa y6) ?_ ?_ 5 ?_ ?_ ?_ 0 (out ++ ([32] : List UInt8)) _ rfl (by first | omega | (simp only [List.length_append, List.length_cons, List.length_nil, List.length_take, List.length_drop] at *; omega)) (fun a21 c22 hn23 => ?_)
        · as_aux_lemma => kernel_rfl
        · as_aux_lemma => kernel_rfl
        · as_aux_lemma => kernel_rfl
        · as_aux_lemma => kernel_rfl
        · as_aux_lemma => kernel_rfl
        · as_aux_lemma => kernel_rfl
        refine HKEEP rfl (HPURE 10 [(1, .p 0 0), (3, .v (.slice a21 (((out ++ ([32] : List UInt8)) ++ (Lib.itoa y6)).length) c22)), (4, I (k : Int))] ?_ ?_ rfl ?_)
        · as_aux_lemma => kernel_rfl
        · as_aux_lemma => kernel_rfl
        refine HEND ?_ ?_
        · as_aux_lemma => kernel_rfl
        refine OUTN (NEXT (REGION [0, 1, 2] rfl (RUN0 2 [2] [(1, .p 0 0), (3, .v (.slice a21 (((out ++ ([32] : List UInt8)) ++ (Lib.itoa y6)).length) c22)), (15, I (wr ((k : Int) + 1)))] ?_ rfl ?_)))
        · as_aux_lemma => kernel_rfl
        refine CAST (d := 15) (vi (wr ((k : Int) + 1))) (vi ((k + 1 : Nat) : Int)) ?_ (vi_cast (by omega) (by omega)) ?_
        · as_aux_lemma => kernel_rfl
        refine RUN0 1 [] [(1, .p 0 0), (3, .v (.slice a21 (((out ++ ([32] : List UInt8)) ++ (Lib.itoa y6)).length) c22)), (4, I ((k + 1 : Nat) : Int))] ?_ rfl ?_
        · as_aux_lemma => kernel_rfl
        refine ENDOPS (BACK (k + 1, ys7, a21, c22, (out ++ ([32] : List UInt8)) ++ (Lib.itoa y6)) [1, 3, 4] 1 [0] _ ⟨hl_y6, hd_y6, hv0.trans (by simp [joinSp]), (by simp only [List.length_append, List.length_cons, List.length_nil]; omega)⟩ (by simp) ?_ rfl rfl rfl)
        · as_aux_lemma => kernel_rfl
    · -- operation 4 next
      refine RUNO [(1, .p 0 0), (3, .v (.slice oa out.length oc)), (4, I (k : Int)), (16, .v (.slice oa out.length oc)), (20, .v (.slice r_ids_a r.ids.length r_ids_c)), (21, I (k : Int))] [(27, [vi r.code, .slice r_ids_a r.ids.length r_ids_c])] ?_ ?_
      · as_aux_lemma => kernel_rfl
      refine HKEEP rfl (HINDEX (i := 6)  22 (.tmp 20) (.tmp 21) 22 0 ?_ (Nat.le_of_ble_eq_true rfl) r_ids_a r.ids.length r_ids_c .i64 (k : Int) 3 1 ?_ ?_ ?_ ?_ (Rd.some hr_ids (by omega)) (by omega) (by omega) ?_ rfl ?_)
      · as_aux_lemma => kernel_rfl
      · as_aux_lemma => kernel_rfl
      · as_aux_lemma => kernel_rfl
      · as_aux_lemma => kernel_rfl
      · as_aux_lemma => kernel_rfl
      · as_aux_lemma => kernel_rfl
      refine HLOADE (i := 7)  3 (.tmp 22) 23 3 ?_ (Nat.le_of_ble_eq_true rfl) r_ids_a (k * 1) 0 [vi y6] (vi y6) ?_ (fun w hw => (hr_ids.fr hw.fr).flat hx_y6) ?_ ?_ rfl ?_
      · as_aux_lemma => kernel_rfl
      · as_aux_lemma => kernel_rfl
      · as_aux_lemma => kernel_rfl
      · as_aux_lemma => kernel_rfl
      refine HALL [1] ?_ (by decide) ?_
      · as_aux_lemma => kernel_rfl
      refine BUILDS 38 1 #[(0, .const (.int .u8 32))] 17 38 ?_ (Nat.le_of_ble_eq_true rfl) 5 [.int .u8 32] ?_ byteL ([32] : List UInt8) rfl (by simp only [maxLen]; omega) [] [] _ rfl (flatRep rfl) (fun a24 ha25 => ?_)
      · as_aux_lemma => kernel_rfl
      · as_aux_lemma => kernel_rfl
      refine HKEEP rfl (HALL [2] ?_ (by decide) ?_)
      · as_aux_lemma => kernel_rfl
      refine APPENDO 38 (.tmp 16) (.tmp 17) 18 38 ?_ (Nat.le_of_ble_eq_true rfl) (.slice oa out.length oc) a24 1 1 ?_ ?_ ha25 5 ?_ byteL (.int .u8 0) 1 ?_ rfl (by decide) 0 0 out ([32] : List UInt8) _ rfl rfl (by first | omega | (simp only [List.length_append, List.length_cons, List.length_nil, List.length_take, List.length_drop] at *; omega)) (by simp only [maxLen]; first | omega | (simp only [List.length_append, List.length_cons, List.length_nil, List.length_take, List.length_drop] at *; omega)) (fun a26 c27 hn28 => ?_)
      · as_aux_lemma => kernel_rfl
      · as_aux_lemma => kernel_rfl
      · as_aux_lemma => kernel_rfl
      · as_aux_lemma => kernel_rfl
      · as_aux_lemma => kernel_rfl
      refine HKEEP rfl (HALL [8] ?_ (by decide) ?_)
      · as_aux_lemma => kernel_rfl
      refine CALL 31 #[vi y6] (some 24) ?_ [] [] _ rfl (RV (.string (bs (Lib.itoa y6)))) (fun w hw => sDigits_c w y6 (by first | assumption | exact wr_range _ | (unfold i64R at *; omega) | (simp only [i64R] at *; omega))) (by rintro _ ⟨⟩; exact Nat.le_of_ble_eq_true rfl) ?_
      · as_aux_lemma => kernel_rfl
      rintro ⟨⟩
      have hr29 := itoa_len (n := y6) (by first | assumption | exact wr_range _ | (unfold i64R at *; omega) | (simp only [i64R] at *; omega))
      refine HKEEP rfl (HALL [9] ?_ (by decide) ?_)
      · as_aux_lemma => kernel_rfl
      refine APPENDS 38 9 (.tmp 18) (.tmp 24) 25 38 ?_ (Nat.le_of_ble_eq_true rfl) (.slice a26 ((out ++ ([32] : List UInt8)).length) c27) (Lib.itoa y6) ?_ ?_ 5 ?_ ?_ ?_ 0 (out ++ ([32] : List UInt8)) _ rfl (by first | omega | (simp only [List.length_append, List.length_cons, List.length_nil, List.length_take, List.length_drop] at *; omega)) (fun a30 c31 hn32 => ?_)
      · as_aux_lemma => kernel_rfl
      · as_aux_lemma => kernel_rfl
      · as_aux_lemma => kernel_rfl
      · as_aux_lemma => kernel_rfl
      · as_aux_lemma => kernel_rfl
      · as_aux_lemma => kernel_rfl
      refine HKEEP rfl (HPURE 10 [(1, .p 0 0), (3, .v (.slice a30 (((out ++ ([32] : List UInt8)) ++ (Lib.itoa y6)).length) c31)), (4, I (k : Int))] ?_ ?_ rfl ?_)
      · as_aux_lemma => kernel_rfl
      · as_aux_lemma => kernel_rfl
      refine HEND ?_ ?_
      · as_aux_lemma => kernel_rfl
      refine OUTN (NEXT (REGION [0, 1, 2] rfl (RUN0 2 [2] [(1, .p 0 0), (3, .v (.slice a30 (((out ++ ([32] : List UInt8)) ++ (Lib.itoa y6)).length) c31)), (15, I (wr ((k : Int) + 1)))] ?_ rfl ?_)))
      · as_aux_lemma => kernel_rfl
      refine CAST (d := 15) (vi (wr ((k : Int) + 1))) (vi ((k + 1 : Nat) : Int)) ?_ (vi_cast (by omega) (by omega)) ?_
      · as_aux_lemma => kernel_rfl
      refine RUN0 1 [] [(1, .p 0 0), (3, .v (.slice a30 (((out ++ ([32] : List UInt8)) ++ (Lib.itoa y6)).length) c31)), (4, I ((k + 1 : Nat) : Int))] ?_ rfl ?_
      · as_aux_lemma => kernel_rfl
      refine ENDOPS (BACK (k + 1, ys7, a30, c31, (out ++ ([32] : List UInt8)) ++ (Lib.itoa y6)) [1, 3, 4] 1 [0] _ ⟨hl_y6, hd_y6, hv0.trans (by simp [joinSp]), (by simp only [List.length_append, List.length_cons, List.length_nil]; omega)⟩ (by simp) ?_ rfl rfl rfl)
      · as_aux_lemma => kernel_rfl
  · -- decide ((k : Int) < (r.ids.length : Int)) = false
    have h5 := bh5
    have h5 := of_decide_eq_false h5
    obtain rfl := drop_nil hk (by omega)
    refine EXIT (PASS trivial (PASS trivial (OUT (NEXT (SEQ (REGION [0, 1, 2] rfl (RUN0 1 [1, 2] [(26, .v (.slice oa out.length oc))] ?_ rfl ?_)))))))
    · as_aux_lemma => kernel_rfl
    refine OPC (RUNV (.convert 38 9 (.tmp 26)) 27 9 ?_ (Nat.le_of_ble_eq_true rfl) (.string (bs out)) (runs_bstr (a := oa) (n := out.length) (c := oc) (xs := out) (e := 5) ?_ ?_ ?_ ?_ rfl (fun w hw => (Rd.own (hw.own 0 rfl)))) ?_)
    · as_aux_lemma => kernel_rfl
    · as_aux_lemma => kernel_rfl
    · as_aux_lemma => kernel_rfl
    · as_aux_lemma => kernel_rfl
    · as_aux_lemma => kernel_rfl
    refine RUN0 1 [] [(2, .v (.string (bs out)))] ?_ rfl ?_
    · as_aux_lemma => kernel_rfl
    refine ENDOPS (NEXT (RET (FIN (.string (bs out)) ?_ () ?_ [] ?_)))
    · as_aux_lemma => kernel_rfl
    · (simp_all [RV, joinSp])
    · rfl

end SX
end Go.Proofs.YtpdijcbgdalphaaDoor
