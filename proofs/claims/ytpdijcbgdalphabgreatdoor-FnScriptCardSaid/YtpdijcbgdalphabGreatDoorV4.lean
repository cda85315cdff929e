/- Walks, printed by program. -/
import Derived.Test.YtpdijcbgdalphabGreatDoorV3
import Derived.Test.YtpdijcbgdalphabGreatDoorMdlb
namespace Go.Proofs.YtpdijcbgdalphabGreatDoor
namespace SX
open Go Go.RowKit
set_option linter.unusedVariables false
set_option linter.unusedSimpArgs false
set_option maxRecDepth 10000
set_option maxHeartbeats 400000
theorem sameReqs_c (W : World) (a : List Req) (a_a : Option Addr) (a_c : Nat) (ha : Rd reqL W a_a a) (b : List Req) (b_a : Option Addr) (b_c : Nat) (hb : Rd reqL W b_a b) : Spec Tryz.prog W [] 12 #[.slice a_a a.length a_c, .slice b_a b.length b_c] (RV (.bool (sameReqs a b))) := by
 refine ENTER0 (N := 26) (vs := [.slice a_a a.length a_c, .slice b_a b.length b_c]) Tryz.func12 rfl rfl (NL rfl) ?_
 have ha_len := ha.len
 have hb_len := hb.len
 refine SEQ (REGION [0] rfl (RUN0 1 [] [(0, .v (.slice a_a a.length a_c)), (1, .v (.slice b_a b.length b_c))] ?_ rfl ?_))
 · as_aux_lemma => kernel_rfl
 refine ENDOPS (NEXT (SEQ (SEQ (REGION [0, 1, 2, 3, 4] rfl (RUN0 5 [] [(0, .v (.slice a_a a.length a_c)), (1, .v (.slice b_a b.length b_c)), (10, B ((a.length : Int) != (b.length : Int)))] ?_ rfl ?_)))))
 · as_aux_lemma => kernel_rfl
 refine ENDOPS (NEXT (IF ((a.length : Int) != (b.length : Int)) ?_ (fun bh1 => ?_) (fun bh1 => ?_)))
 · as_aux_lemma => kernel_rfl
 ·
  have h1 := bh1
  have h1 := bne_iff_ne.1 h1
  refine SEQ (REGION [0] rfl (RUN0 1 [] [(4, B false)] ?_ rfl ?_))
  · as_aux_lemma => kernel_rfl
  refine ENDOPS (NEXT (RET (PASS trivial (FIN (.bool false) ?_ () ?_ [] ?_))))
  · as_aux_lemma => kernel_rfl
  · simp [RV, sameReqs_ne (a := a) (b := b) (by omega)]
  · rfl
 ·
  have h1 := bh1
  have h1 := bneF h1
  refine SKIP (NEXT (SEQ (SEQ (REGION [0] rfl (RUN0 1 [] [(0, .v (.slice a_a a.length a_c)), (1, .v (.slice b_a b.length b_c)), (5, I 0)] ?_ rfl ?_)))))
  · as_aux_lemma => kernel_rfl
  refine ENDOPS (NEXT (BLOCK (LOOP (ι := Nat × (List Req)) (fun j => [(0, .v (.slice a_a a.length a_c)), (1, .v (.slice b_a b.length b_c)), (5, I (j.1 : Int))]) (fun j => []) (fun j => []) (fun j => j.1 + j.2.length = a.length ∧ a.drop j.1 = j.2 ∧ sameReqs a b = sameReqs j.2 (b.drop j.1)) (fun j => j.2.length) (0, a) [0, 1, 5] ⟨by simp, rfl, rfl⟩ ?_ rfl rfl ?_)))
  · as_aux_lemma => kernel_rfl
  rintro ⟨k, ys⟩ ⟨hk, hd, hv0⟩
  try dsimp only at hk hd hv0
  refine SEQ (SEQ (REGION [0, 1, 2, 3] rfl (RUN0 4 [] [(0, .v (.slice a_a a.length a_c)), (1, .v (.slice b_a b.length b_c)), (5, I (k : Int)), (14, B (decide ((k : Int) < (a.length : Int))))] ?_ rfl ?_)))
  · as_aux_lemma => kernel_rfl
  refine ENDOPS (NEXT (IF (decide ((k : Int) < (a.length : Int))) ?_ (fun bh2 => ?_) (fun bh2 => ?_)))
  · as_aux_lemma => kernel_rfl
  ·
   have h2 := bh2
   have h2 := of_decide_eq_true h2
   obtain ⟨y3, ys4, rfl, hx_y3, hd_y3, hl_y3⟩ := drop_cons hd hk (by omega)
   refine SKIP (NEXT (SEQ (BLOCK (SEQ (REGIONQ ?_ ?_ ?_)))))
   iterate 2 (as_aux_lemma => kernel_rfl)
   refine QRUN 2 0 2 [(0, .v (.slice a_a a.length a_c)), (1, .v (.slice b_a b.length b_c)), (5, I (k : Int)), (17, .v (.slice a_a a.length a_c)), (18, I (k : Int))] ?_ rfl ?_
   · as_aux_lemma => kernel_rfl
   refine QINDEX 24 (.tmp 17) (.tmp 18) 19 0 ?_ (NL rfl) a_a a.length a_c .i64 (k : Int) 30 6 ?_ ?_ ?_ ?_ (Rd.some ha (by omega)) (by omega) (by omega) ?_
   iterate 5 (as_aux_lemma => kernel_rfl)
   refine QLOADE 30 (.tmp 19) 20 30 ?_ (NL rfl) a_a (k * 6) 0 [vi y3.kind, vi y3.id, vi y3.cabin, vi y3.from', vi y3.size, vi y3.tier] (.agg #[vi y3.kind, vi y3.id, vi y3.cabin, vi y3.from', vi y3.size, vi y3.tier]) ?_ (fun w hw => (ha.fr hw.fr).flat hx_y3) ?_ ?_
   iterate 3 (as_aux_lemma => kernel_rfl)
   refine QRUN 2 4 6 [(0, .v (.slice a_a a.length a_c)), (1, .v (.slice b_a b.length b_c)), (5, I (k : Int)), (20, .v (.agg #[vi y3.kind, vi y3.id, vi y3.cabin, vi y3.from', vi y3.size, vi y3.tier])), (21, .v (.slice b_a b.length b_c)), (22, I (k : Int))] ?_ rfl ?_
   · as_aux_lemma => kernel_rfl
   obtain ⟨x5, hx6⟩ : ∃ y, b[k]? = some y := ⟨_, List.getElem?_eq_getElem (by omega)⟩
   refine QINDEX 24 (.tmp 21) (.tmp 22) 23 0 ?_ (NL rfl) b_a b.length b_c .i64 (k : Int) 30 6 ?_ ?_ ?_ ?_ (Rd.some hb (by omega)) (by omega) (by omega) ?_
   iterate 5 (as_aux_lemma => kernel_rfl)
   refine QLOADE 30 (.tmp 23) 24 30 ?_ (NL rfl) b_a (k * 6) 0 [vi x5.kind, vi x5.id, vi x5.cabin, vi x5.from', vi x5.size, vi x5.tier] (.agg #[vi x5.kind, vi x5.id, vi x5.cabin, vi x5.from', vi x5.size, vi x5.tier]) ?_ (fun w hw => (hb.fr hw.fr).flat hx6) ?_ ?_
   iterate 3 (as_aux_lemma => kernel_rfl)
   refine QRUNV (.binOp .neq 30 (.tmp 20) (.tmp 24) 30) 25 4 ?_ (NL rfl) (.bool (!((y3.kind == x5.kind) && ((y3.id == x5.id) && ((y3.cabin == x5.cabin) && ((y3.from' == x5.from') && ((y3.size == x5.size) && ((y3.tier == x5.tier) && true)))))))) (runs_neq (xs := [vi y3.kind, vi y3.id, vi y3.cabin, vi y3.from', vi y3.size, vi y3.tier]) (ys := [vi x5.kind, vi x5.id, vi x5.cabin, vi x5.from', vi x5.size, vi x5.tier]) (r := (y3.kind == x5.kind) && ((y3.id == x5.id) && ((y3.cabin == x5.cabin) && ((y3.from' == x5.from') && ((y3.size == x5.size) && ((y3.tier == x5.tier) && true)))))) ?_ ?_ ?_) ?_
   iterate 4 (as_aux_lemma => kernel_rfl)
   refine QEND rfl (NEXT (IF (!((y3.kind == x5.kind) && ((y3.id == x5.id) && ((y3.cabin == x5.cabin) && ((y3.from' == x5.from') && ((y3.size == x5.size) && ((y3.tier == x5.tier) && true))))))) ?_ (fun bh7 => ?_) (fun bh7 => ?_)))
   · as_aux_lemma => kernel_rfl
   ·
    have h7 := bh7
    have h7 := notT h7
    refine SEQ (REGION [0] rfl (RUN0 1 [] [(4, B false)] ?_ rfl ?_))
    · as_aux_lemma => kernel_rfl
    refine ENDOPS (NEXT (RET (OUTR (PASS trivial (PASS trivial (OUTR (PASS trivial (FIN (.bool false) ?_ () ?_ [] ?_))))))))
    · as_aux_lemma => kernel_rfl
    · simp_all [RV, hv0, drop_get ‹b[k]? = some _›, sameReqs, reqEq]
    · rfl
   ·
    have h7 := bh7
    have h7 := notF h7
    refine SKIP (OUTN (NEXT (REGION [0, 1, 2] rfl (RUN0 2 [2] [(0, .v (.slice a_a a.length a_c)), (1, .v (.slice b_a b.length b_c)), (16, I (wr ((k : Int) + 1)))] ?_ rfl ?_))))
    · as_aux_lemma => kernel_rfl
    refine CAST (d := 16) (vi (wr ((k : Int) + 1))) (vi ((k + 1 : Nat) : Int)) ?_ (vi_cast (by omega) (by omega)) ?_
    · as_aux_lemma => kernel_rfl
    refine RUN0 1 [] [(0, .v (.slice a_a a.length a_c)), (1, .v (.slice b_a b.length b_c)), (5, I ((k + 1 : Nat) : Int))] ?_ rfl ?_
    · as_aux_lemma => kernel_rfl
    refine ENDOPS (BACK (k + 1, ys4) [0, 1, 5] 0 [] _ ⟨hl_y3, hd_y3, hv0.trans (by simp_all [sameReqs, reqEq, drop_get ‹b[k]? = some _›])⟩ (by simp) ?_ rfl rfl rfl)
    · as_aux_lemma => kernel_rfl
  ·
   have h2 := bh2
   have h2 := of_decide_eq_false h2
   obtain rfl := drop_nil hk (by omega)
   refine EXIT (PASS trivial (PASS trivial (OUT (NEXT (SEQ (REGION [0] rfl (RUN0 1 [] [(4, B true)] ?_ rfl ?_)))))))
   · as_aux_lemma => kernel_rfl
   refine ENDOPS (NEXT (RET (FIN (.bool true) ?_ () ?_ [] ?_)))
   · as_aux_lemma => kernel_rfl
   · simp [RV, hv0, sameReqs, List.drop_eq_nil_of_le (show b.length ≤ k by simp at hk; omega)]
   · rfl

end SX
end Go.Proofs.YtpdijcbgdalphabGreatDoor
