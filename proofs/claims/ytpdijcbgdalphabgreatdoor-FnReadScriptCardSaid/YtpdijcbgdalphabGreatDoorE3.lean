/- Walks, printed by program. -/
import Derived.Test.YtpdijcbgdalphabGreatDoorE2
namespace Go.Proofs.YtpdijcbgdalphabGreatDoor
namespace SX
open Go Go.RowKit
set_option linter.unusedVariables false
set_option linter.unusedSimpArgs false
set_option maxRecDepth 10000
set_option maxHeartbeats 400000
theorem wheelPut_c (W : World) (wh : Wheel) (wh_spoke_a : Option Addr) (wh_spoke_c : Nat) (hwh_spoke : Rd (sl 111 pinL) W wh_spoke_a wh.spoke) (pn : Pin) (hb : wh.spoke.flatten.length ≤ 2097152) (hn : wh.spoke.length = 9) : Spec Tryz.prog W [] 73 #[.agg #[.slice wh_spoke_a wh.spoke.length wh_spoke_c], .agg #[vi pn.at', vi pn.id]] (⟨{q : (HH) × (Wheel × Bool) // (fun x : Wheel × Bool => x.1.spoke.length = 9 ∧ x.1.spoke.flatten.length ≤ wh.spoke.flatten.length + 1) q.2}, fun q => .tuple #[.agg #[.slice q.1.1.1 q.1.2.1.spoke.length q.1.1.2], .bool q.1.2.2], fun q => [slA 106 (sl 111 pinL) (.slice q.1.1.1 q.1.2.1.spoke.length q.1.1.2) q.1.2.1.spoke]⟩) := by
 refine ENTER0 (N := 39) (vs := [.agg #[.slice wh_spoke_a wh.spoke.length wh_spoke_c], .agg #[vi pn.at', vi pn.id]]) Tryz.func73 rfl rfl (NL rfl) ?_
 have hwh_spoke_len := hwh_spoke.len
 refine SEQ (REGION [0, 1, 2, 3] rfl (RUN 4 [] [(2, .p 0 0), (3, .p 1 0), (4, .p 2 0)] [(91, [.slice wh_spoke_a wh.spoke.length wh_spoke_c]), (111, [vi pn.at', vi pn.id]), (91, [.slice none 0 0])] ?_ rfl ?_))
 · as_aux_lemma => kernel_rfl
 refine ENDOPS (NEXT (SEQ (REGION [0, 1, 2, 3] rfl (RUN0 1 [1, 2, 3] [(2, .p 0 0), (3, .p 1 0), (4, .p 2 0), (8, .v (.agg #[.slice wh_spoke_a wh.spoke.length wh_spoke_c]))] ?_ rfl ?_))))
 · as_aux_lemma => kernel_rfl
 refine OPC (CALL 85 #[.agg #[.slice wh_spoke_a wh.spoke.length wh_spoke_c]] (some 9) ?_ [] [] _ rfl (⟨HH, fun p => .agg #[.slice p.1 wh.spoke.length p.2], fun p => [slA 106 (sl 111 pinL) (.slice p.1 wh.spoke.length p.2) wh.spoke]⟩) (fun w hw => l9Copy_c w wh wh_spoke_a wh_spoke_c (hwh_spoke.fr hw.fr) (by first | assumption | omega | (dsimp only; omega) | (simp only [List.length_append, List.length_cons, List.length_nil] at *; omega)) (by first | assumption | omega | (dsimp only; omega) | (simp only [List.length_append, List.length_cons, List.length_nil] at *; omega))) (NO rfl) ?_)
 · as_aux_lemma => kernel_rfl
 rintro ⟨a1, c2⟩
 refine RUN 2 [] [(2, .p 0 0), (3, .p 1 0), (4, .p 2 0), (6, .p 3 0)] [(91, [.slice wh_spoke_a wh.spoke.length wh_spoke_c]), (111, [vi pn.at', vi pn.id]), (91, [.slice none 0 0]), (91, [.slice a1 wh.spoke.length c2])] ?_ rfl ?_
 · as_aux_lemma => kernel_rfl
 refine ENDOPS (NEXT (SEQ (SEQ (REGION [0, 1, 2, 3, 4, 5, 6, 7] rfl (RUN0 1 [1, 2, 3, 4, 5, 6, 7] [(2, .p 0 0), (3, .p 1 0), (4, .p 2 0), (6, .p 3 0), (10, .v (.agg #[.slice wh_spoke_a wh.spoke.length wh_spoke_c]))] ?_ rfl ?_)))))
 · as_aux_lemma => kernel_rfl
 refine OPC (CALL 86 #[.agg #[.slice wh_spoke_a wh.spoke.length wh_spoke_c]] (some 11) ?_ [] [] _ rfl (⟨{x : Bool // x = true → wh.spoke.length = 9}, fun q => .bool q.1, fun q => []⟩) (fun w hw => wheelOk_c w wh wh_spoke_a wh_spoke_c (hwh_spoke.fr hw.fr) (by first | assumption | omega | (dsimp only; omega) | (simp only [List.length_append, List.length_cons, List.length_nil] at *; omega))) (NO rfl) ?_)
 · as_aux_lemma => kernel_rfl
 rintro ⟨m3, hm4⟩
 try dsimp only at hm4
 refine RUN0 2 [4, 5, 6, 7] [(2, .p 0 0), (3, .p 1 0), (4, .p 2 0), (6, .p 3 0), (13, B (!m3))] ?_ rfl ?_
 · as_aux_lemma => kernel_rfl
 refine SPLIT (d := 13) (!m3) ?_ (fun bh5 => ?_) (fun bh5 => ?_)
 · as_aux_lemma => kernel_rfl
 ·
  have h5 := bh5
  have h5 := notT h5
  refine RUN0 4 [] [(2, .p 0 0), (3, .p 1 0), (4, .p 2 0), (6, .p 3 0), (17, B true)] ?_ rfl ?_
  · as_aux_lemma => kernel_rfl
  refine ENDOPS (NEXT (IFT ?_ ?_))
  · as_aux_lemma => kernel_rfl
  refine SEQ (REGION [0, 1, 2] rfl (RUN 3 [] [(4, .p 2 0), (5, B false)] [(91, [.slice wh_spoke_a wh.spoke.length wh_spoke_c]), (111, [vi pn.at', vi pn.id]), (91, [.slice a1 wh.spoke.length c2]), (91, [.slice a1 wh.spoke.length c2])] ?_ rfl ?_))
  · as_aux_lemma => kernel_rfl
  refine ENDOPS (NEXT (RET (PASS trivial (FIN (.tuple #[.agg #[.slice a1 wh.spoke.length c2], .bool false]) ?_ ⟨((a1, c2), (wh, false)), ⟨by first | omega | (dsimp only; omega) | (simp only [List.length_set]; omega), by first | omega | (dsimp only; omega)⟩⟩ ?_ [0] ?_))))
  · as_aux_lemma => kernel_rfl
  · rfl
  · rfl
 ·
  have h5 := bh5
  have h5 := notF h5
  refine RUN0 4 [] [(2, .p 0 0), (3, .p 1 0), (4, .p 2 0), (6, .p 3 0), (17, B (decide (pn.at' < 1)))] ?_ rfl ?_
  · as_aux_lemma => kernel_rfl
  refine ENDOPS (NEXT (IF (decide (pn.at' < 1)) ?_ (fun bh6 => ?_) (fun bh6 => ?_)))
  · as_aux_lemma => kernel_rfl
  ·
   have h6 := bh6
   have h6 := of_decide_eq_true h6
   refine SEQ (REGION [0, 1, 2] rfl (RUN 3 [] [(4, .p 2 0), (5, B false)] [(91, [.slice wh_spoke_a wh.spoke.length wh_spoke_c]), (111, [vi pn.at', vi pn.id]), (91, [.slice a1 wh.spoke.length c2]), (91, [.slice a1 wh.spoke.length c2])] ?_ rfl ?_))
   · as_aux_lemma => kernel_rfl
   refine ENDOPS (NEXT (RET (PASS trivial (FIN (.tuple #[.agg #[.slice a1 wh.spoke.length c2], .bool false]) ?_ ⟨((a1, c2), (wh, false)), ⟨by first | omega | (dsimp only; omega) | (simp only [List.length_set]; omega), by first | omega | (dsimp only; omega)⟩⟩ ?_ [0] ?_))))
   · as_aux_lemma => kernel_rfl
   · rfl
   · rfl
  ·
   have h6 := bh6
   have h6 := of_decide_eq_false h6
   have hrem := tmod_rng (a := pn.at') (n := 9) (by omega) (by omega)
   refine SKIP (NEXT (SEQ (REGION [0, 1, 2, 3] rfl (RUN0 4 [] [(2, .p 0 0), (3, .p 1 0), (4, .p 2 0), (6, .p 3 0), (7, I (Int.tmod pn.at' 9))] ?_ rfl ?_))))
   · as_aux_lemma => kernel_rfl
   refine ENDOPS (NEXT (SEQ (EXPORT (fun bs hbs => ?_))))
   obtain ⟨b7, b8, b9, b10, rfl⟩ := len4 hbs
   refine REGIONH ?_ 12 rfl [ptC b7 91 [.slice wh_spoke_a wh.spoke.length wh_spoke_c], ptC b8 111 [vi pn.at', vi pn.id], ptC b9 91 [.slice none 0 0], ptC b10 91 [.slice a1 wh.spoke.length c2]] ?_
   · as_aux_lemma => kernel_rfl
   refine HPURE (js := [0, 0, 0, 0]) 0 [(2, .e (some ⟨b7, 0, none⟩) 0 0), (3, .e (some ⟨b8, 0, none⟩) 0 0), (4, .e (some ⟨b9, 0, none⟩) 0 0), (6, .e (some ⟨b10, 0, none⟩) 0 0), (7, I (Int.tmod pn.at' 9)), (22, .e (some ⟨b10, 0, none⟩) 0 0)] ?_ ?_ rfl ?_
   iterate 2 (as_aux_lemma => kernel_rfl)
   refine HLOADE (i := 1) (js := [0, 0, 0, 0])  89 (.tmp 22) 23 89 ?_ (NL rfl) (some ⟨b10, 0, none⟩) 0 0 [.slice a1 wh.spoke.length c2] (.slice a1 wh.spoke.length c2) ?_ (fun w hw => ptC_elem (hw.own 3 rfl)) ?_ ?_ rfl ?_
   iterate 4 (as_aux_lemma => kernel_rfl)
   refine HPURE (js := [0, 0, 0, 0]) 2 [(2, .e (some ⟨b7, 0, none⟩) 0 0), (3, .e (some ⟨b8, 0, none⟩) 0 0), (4, .e (some ⟨b9, 0, none⟩) 0 0), (6, .e (some ⟨b10, 0, none⟩) 0 0), (7, I (Int.tmod pn.at' 9)), (23, .v (.slice a1 wh.spoke.length c2)), (24, I (Int.tmod pn.at' 9))] ?_ ?_ rfl ?_
   iterate 2 (as_aux_lemma => kernel_rfl)
   refine HPURE (js := [0, 0, 0, 0]) 3 [(2, .e (some ⟨b7, 0, none⟩) 0 0), (3, .e (some ⟨b8, 0, none⟩) 0 0), (4, .e (some ⟨b9, 0, none⟩) 0 0), (6, .e (some ⟨b10, 0, none⟩) 0 0), (7, I (Int.tmod pn.at' 9)), (23, .v (.slice a1 wh.spoke.length c2)), (24, I (Int.tmod pn.at' 9)), (25, .e (some ⟨b10, 0, none⟩) 0 0)] ?_ ?_ rfl ?_
   iterate 2 (as_aux_lemma => kernel_rfl)
   refine HLOADE (i := 4) (js := [0, 0, 0, 0])  89 (.tmp 25) 26 89 ?_ (NL rfl) (some ⟨b10, 0, none⟩) 0 0 [.slice a1 wh.spoke.length c2] (.slice a1 wh.spoke.length c2) ?_ (fun w hw => ptC_elem (hw.own 3 rfl)) ?_ ?_ rfl ?_
   iterate 4 (as_aux_lemma => kernel_rfl)
   refine HPURE (js := [0, 0, 0, 0]) 5 [(2, .e (some ⟨b7, 0, none⟩) 0 0), (3, .e (some ⟨b8, 0, none⟩) 0 0), (4, .e (some ⟨b9, 0, none⟩) 0 0), (6, .e (some ⟨b10, 0, none⟩) 0 0), (23, .v (.slice a1 wh.spoke.length c2)), (24, I (Int.tmod pn.at' 9)), (26, .v (.slice a1 wh.spoke.length c2)), (27, I (Int.tmod pn.at' 9))] ?_ ?_ rfl ?_
   iterate 2 (as_aux_lemma => kernel_rfl)
   obtain ⟨x11, hx12⟩ : ∃ y, wh.spoke[(Int.tmod pn.at' 9).toNat]? = some y := ⟨_, List.getElem?_eq_getElem (by omega)⟩
   refine FACT (a1.isSome = true) (fun w hw => SlO.isS (hw.own 4 rfl) (by omega)) (fun hs13 => ?_)
   refine HINDEX (i := 6) (js := [0, 0, 0, 0])  89 (.tmp 26) (.tmp 27) 28 0 ?_ (NL rfl) a1 wh.spoke.length c2 .i64 (Int.tmod pn.at' 9) 106 1 ?_ ?_ ?_ ?_ hs13 (by omega) (by omega) ?_ rfl ?_
   iterate 6 (as_aux_lemma => kernel_rfl)
   refine HLOADE (i := 8) (js := [0, 0, 0, 0])  111 (.tmp 3) 30 111 ?_ (NL rfl) (some ⟨b8, 0, none⟩) 0 0 [vi pn.at', vi pn.id] (.agg #[vi pn.at', vi pn.id]) ?_ (fun w hw => ptC_elem (hw.own 1 rfl)) ?_ ?_ rfl ?_
   iterate 4 (as_aux_lemma => kernel_rfl)
   refine HALL [7] ?_ (by decide) ?_
   · as_aux_lemma => kernel_rfl
   refine PIN 4 _ rfl (fun cells14 => ?_)
   refine FACT (∃ a1 c1, (cells14.drop (((Int.tmod pn.at' 9).toNat) * 1)).take 1 = [.slice a1 x11.length c1] ∧ x11.length ≤ c1) (fun w hw => slX.inner (hw.own 4 rfl) hx12) (fun ⟨a15, c16, hc17, hc17c⟩ => ?_)
   refine LOADE 106 (.tmp 28) 29 106 ?_ (NL rfl) a1 ((Int.tmod pn.at' 9).toNat * 1) 0 [.slice a15 x11.length c16] (.slice a15 x11.length c16) ?_ (fun w hw => (hc17 ▸ slX.elem (hw.own 4 rfl) hx12)) ?_ ?_
   iterate 3 (as_aux_lemma => kernel_rfl)
   refine HKEEP (js := [0, 0, 0, 0]) rfl (HALL [9] ?_ (by decide) ?_)
   · as_aux_lemma => kernel_rfl
   have hfm := flat_mem hx12
   refine CALL 84 #[.slice a15 x11.length c16, .agg #[vi pn.at', vi pn.id]] (some 31) ?_ [] [] _ rfl (⟨{q : (HH) × (List Pin) // (fun x : List Pin => x.length = x11.length + 1) q.2}, fun q => .slice q.1.1.1 q.1.2.length q.1.1.2, fun q => [slA 111 pinL (.slice q.1.1.1 q.1.2.length q.1.1.2) q.1.2]⟩) (fun w hw => l9Put_c w x11 a15 c16 (slX.rd (hw.own 4 rfl) hx12 hc17) pn (by first | assumption | omega | (dsimp only; omega) | (simp only [List.length_append, List.length_cons, List.length_nil] at *; omega)) (by first | assumption | omega | (dsimp only; omega) | (simp only [List.length_append, List.length_cons, List.length_nil] at *; omega))) (NO rfl) ?_
   · as_aux_lemma => kernel_rfl
   rintro ⟨⟨⟨a20, c21⟩, m18⟩, hm19⟩
   try dsimp only at hm19
   have hfs := flat_set (y := m18) hx12
   refine HKEEP (js := [0, 0, 0, 0]) rfl (HINDEX (i := 10) (js := [0, 0, 0, 0])  89 (.tmp 23) (.tmp 24) 32 0 ?_ (NL rfl) a1 wh.spoke.length c2 .i64 (Int.tmod pn.at' 9) 106 1 ?_ ?_ ?_ ?_ hs13 (by omega) (by omega) ?_ rfl ?_)
   iterate 6 (as_aux_lemma => kernel_rfl)
   refine HALL [11] ?_ (by decide) ?_
   · as_aux_lemma => kernel_rfl
   refine UNPIN 4 _ rfl ?_
   refine STOREN 106 (.tmp 32) (.tmp 31) 0 ?_ 106 (sl 111 pinL) a1 wh.spoke.length c2 ((Int.tmod pn.at' 9).toNat) wh.spoke [5, 4] [slA 111 pinL (.slice a20 m18.length c21) m18] _ rfl m18 (by omega) (.slice a20 m18.length c21) ?_ ?_ ?_ (nestRep (e' := 0) (x := m18)) ?_
   iterate 4 (as_aux_lemma => kernel_rfl)
   refine HKEEP (js := [0, 0, 0, 0]) rfl (HEND ?_ ?_)
   · as_aux_lemma => kernel_rfl
   refine IMPORT (L0 := [(91, [.slice wh_spoke_a wh.spoke.length wh_spoke_c]), (111, [vi pn.at', vi pn.id]), (91, [.slice none 0 0]), (91, [.slice a1 wh.spoke.length c2])]) (L1 := []) [b7, b8, b9, b10] rfl [0, 0, 0, 0] _ rfl [(2, .p 0 0), (3, .p 1 0), (4, .p 2 0), (6, .p 3 0), (23, .v (.slice a1 wh.spoke.length c2)), (24, I (Int.tmod pn.at' 9)), (26, .v (.slice a1 wh.spoke.length c2)), (27, I (Int.tmod pn.at' 9)), (28, .e a1 ((Int.tmod pn.at' 9).toNat * 1) 0), (29, .v (.slice a15 x11.length c16)), (30, .v (.agg #[vi pn.at', vi pn.id])), (31, .v (.slice a20 m18.length c21)), (32, .e a1 ((Int.tmod pn.at' 9).toNat * 1) 0)] ?_ ?_ ?_
   iterate 2 (as_aux_lemma => kernel_rfl)
   refine NEXT (SEQ (SEQ (REGION [0, 1, 2] rfl (RUN0 1 [1, 2] [(2, .p 0 0), (4, .p 2 0), (6, .p 3 0), (33, .v (.agg #[.slice a1 wh.spoke.length c2]))] ?_ rfl ?_))))
   · as_aux_lemma => kernel_rfl
   refine FACT (wh.spoke.length = (wh.spoke.set ((Int.tmod pn.at' 9).toNat) m18).length) (fun w hw => (SlO.lenE (hw.own 0 rfl)).1) (fun hln22 => ?_)
   refine OPC (CALL 86 #[.agg #[.slice a1 wh.spoke.length c2]] (some 34) ?_ [] [] _ rfl (⟨{x : Bool // x = true → (⟨wh.spoke.set ((Int.tmod pn.at' 9).toNat) m18⟩ : Wheel).spoke.length = 9}, fun q => .bool q.1, fun q => []⟩) (fun w hw => (congrArg (fun z : Nat => Spec Tryz.prog w [] 86 #[.agg #[.slice a1 z c2]] (⟨{x : Bool // x = true → (⟨wh.spoke.set ((Int.tmod pn.at' 9).toNat) m18⟩ : Wheel).spoke.length = 9}, fun q => .bool q.1, fun q => []⟩)) hln22).mpr (wheelOk_c w (⟨wh.spoke.set ((Int.tmod pn.at' 9).toNat) m18⟩ : Wheel) a1 c2 (hw.rdO 0 rfl) (by first | assumption | omega | (dsimp only; omega) | (simp only [List.length_append, List.length_cons, List.length_nil] at *; omega)))) (NO rfl) ?_)
   · as_aux_lemma => kernel_rfl
   rintro ⟨m23, hm24⟩
   try dsimp only at hm24
   refine RUN0 1 [] [(2, .p 0 0), (4, .p 2 0), (6, .p 3 0), (35, B (!m23))] ?_ rfl ?_
   · as_aux_lemma => kernel_rfl
   refine ENDOPS (NEXT (IF (!m23) ?_ (fun bh25 => ?_) (fun bh25 => ?_)))
   · as_aux_lemma => kernel_rfl
   ·
    have h25 := bh25
    have h25 := notT h25
    refine SEQ (REGION [0, 1, 2, 3] rfl (RUN0 1 [1, 2, 3] [(4, .p 2 0), (36, .v (.agg #[.slice wh_spoke_a wh.spoke.length wh_spoke_c]))] ?_ rfl ?_))
    · as_aux_lemma => kernel_rfl
    refine OPC (CALL 85 #[.agg #[.slice wh_spoke_a wh.spoke.length wh_spoke_c]] (some 37) ?_ [] [] _ rfl (⟨HH, fun p => .agg #[.slice p.1 wh.spoke.length p.2], fun p => [slA 106 (sl 111 pinL) (.slice p.1 wh.spoke.length p.2) wh.spoke]⟩) (fun w hw => l9Copy_c w wh wh_spoke_a wh_spoke_c (hwh_spoke.fr hw.fr) (by first | assumption | omega | (dsimp only; omega) | (simp only [List.length_append, List.length_cons, List.length_nil] at *; omega)) (by first | assumption | omega | (dsimp only; omega) | (simp only [List.length_append, List.length_cons, List.length_nil] at *; omega))) (NO rfl) ?_)
    · as_aux_lemma => kernel_rfl
    rintro ⟨a26, c27⟩
    refine RUN 2 [] [(4, .p 2 0), (5, B false)] [(91, [.slice wh_spoke_a wh.spoke.length wh_spoke_c]), (111, [vi pn.at', vi pn.id]), (91, [.slice a26 wh.spoke.length c27]), (91, [.slice a1 wh.spoke.length c2])] ?_ rfl ?_
    · as_aux_lemma => kernel_rfl
    refine ENDOPS (NEXT (RET (PASS trivial (FIN (.tuple #[.agg #[.slice a26 wh.spoke.length c27], .bool false]) ?_ ⟨((a26, c27), (wh, false)), ⟨by first | omega | (dsimp only; omega) | (simp only [List.length_set]; omega), by first | omega | (dsimp only; omega)⟩⟩ ?_ [1] ?_))))
    · as_aux_lemma => kernel_rfl
    · rfl
    · rfl
   ·
    have h25 := bh25
    have h25 := notF h25
    refine SKIP (NEXT (SEQ (REGION [0, 1, 2] rfl (RUN 3 [] [(4, .p 2 0), (5, B true)] [(91, [.slice wh_spoke_a wh.spoke.length wh_spoke_c]), (111, [vi pn.at', vi pn.id]), (91, [.slice a1 wh.spoke.length c2]), (91, [.slice a1 wh.spoke.length c2])] ?_ rfl ?_))))
    · as_aux_lemma => kernel_rfl
    refine ENDOPS (NEXT (RET (FACT (wh.spoke.length = (wh.spoke.set ((Int.tmod pn.at' 9).toNat) m18).length) (fun w hw => (SlO.lenE (hw.own 0 rfl)).1) (fun hln28 => ?_))))
    refine RELEN (fun z : Nat => [(4, .p 2 0), (5, B true)]) (fun z : Nat => [(91, [.slice wh_spoke_a wh.spoke.length wh_spoke_c]), (111, [vi pn.at', vi pn.id]), (91, [.slice a1 z c2]), (91, [.slice a1 z c2])]) (fun z : Nat => [slA 106 (sl 111 pinL) (.slice a1 z c2) (wh.spoke.set ((Int.tmod pn.at' 9).toNat) m18)]) hln28 ?_
    refine FIN (.tuple #[.agg #[.slice a1 ((wh.spoke.set ((Int.tmod pn.at' 9).toNat) m18).length) c2], .bool true]) ?_ ⟨((a1, c2), ((⟨wh.spoke.set ((Int.tmod pn.at' 9).toNat) m18⟩ : Wheel), true)), ⟨by first | omega | (dsimp only; omega) | (simp only [List.length_set]; omega), by first | omega | (dsimp only; omega)⟩⟩ ?_ [0] ?_
    · as_aux_lemma => kernel_rfl
    · rfl
    · rfl

theorem l7Put_c (W : World) (list : List Entry) (list_a : Option Addr) (list_c : Nat) (hlist : Rd entryL W list_a list) (e : Entry) (hcap : list.length ≤ list_c) (hb : list.length ≤ 1048576) : Spec Tryz.prog W [] 88 #[.slice list_a list.length list_c, .agg #[vi e.level, vi e.turn, vi e.id, vi e.size]] (⟨{q : (HH) × (List Entry) // (fun x : List Entry => x.length = list.length + 1) q.2}, fun q => .slice q.1.1.1 q.1.2.length q.1.1.2, fun q => [slA 129 entryL (.slice q.1.1.1 q.1.2.length q.1.1.2) q.1.2]⟩) := by
 refine ENTER0 (N := 33) (vs := [.slice list_a list.length list_c, .agg #[vi e.level, vi e.turn, vi e.id, vi e.size]]) Tryz.func88 rfl rfl (NL rfl) ?_
 have hlist_len := hlist.len
 refine SEQ (REGION [0, 1] rfl (RUN 2 [] [(0, .v (.slice list_a list.length list_c)), (3, .p 0 0)] [(129, [vi e.level, vi e.turn, vi e.id, vi e.size])] ?_ rfl ?_))
 · as_aux_lemma => kernel_rfl
 refine ENDOPS (NEXT (SEQ (REGION [0] rfl (RUN0 1 [] [(0, .v (.slice list_a list.length list_c)), (3, .p 0 0), (5, I 0)] ?_ rfl ?_))))
 · as_aux_lemma => kernel_rfl
 refine ENDOPS (NEXT (SEQJ (ι := Nat) (fun j => [(0, .v (.slice list_a list.length list_c)), (3, .p 0 0), (5, I (j : Int))]) (fun j => [(129, [vi e.level, vi e.turn, vi e.id, vi e.size])]) (fun j => []) (fun j => j ≤ list.length) ?_ ?_))
 ·
  refine BLOCK (LOOP (ι := Nat) (fun j => [(0, .v (.slice list_a list.length list_c)), (3, .p 0 0), (5, I (j : Int))]) (fun j => [(129, [vi e.level, vi e.turn, vi e.id, vi e.size])]) (fun j => []) (fun j => j ≤ list.length) (fun j => list.length - j) (0) [0, 3, 5] (by first | omega | (dsimp only; omega)) ?_ rfl rfl ?_)
  · as_aux_lemma => kernel_rfl
  rintro k hk
  try dsimp only at hk
  refine SEQ (SEQ (REGIONQ ?_ ?_ ?_))
  iterate 2 (as_aux_lemma => kernel_rfl)
  refine QRUN 5 0 5 [(0, .v (.slice list_a list.length list_c)), (3, .p 0 0), (5, I (k : Int)), (11, B (decide ((k : Int) < (list.length : Int))))] ?_ rfl ?_
  · as_aux_lemma => kernel_rfl
  refine QSPLIT (d := 11) (decide ((k : Int) < (list.length : Int))) ?_ (fun bh1 => ?_) (fun bh1 => ?_)
  · as_aux_lemma => kernel_rfl
  ·
   have h1 := bh1
   have h1 := of_decide_eq_true h1
   refine QRUN 2 5 7 [(0, .v (.slice list_a list.length list_c)), (3, .p 0 0), (5, I (k : Int)), (11, B true), (12, .v (.slice list_a list.length list_c)), (13, I (k : Int))] ?_ rfl ?_
   · as_aux_lemma => kernel_rfl
   obtain ⟨x2, hx3⟩ : ∃ y, list[k]? = some y := ⟨_, List.getElem?_eq_getElem (by omega)⟩
   refine QINDEX 88 (.tmp 12) (.tmp 13) 14 0 ?_ (NL rfl) list_a list.length list_c .i64 (k : Int) 129 4 ?_ ?_ ?_ ?_ (Rd.some hlist (by omega)) (by omega) (by omega) ?_
   iterate 5 (as_aux_lemma => kernel_rfl)
   refine QLOADE 129 (.tmp 14) 15 129 ?_ (NL rfl) list_a (k * 4) 0 [vi x2.level, vi x2.turn, vi x2.id, vi x2.size] (.agg #[vi x2.level, vi x2.turn, vi x2.id, vi x2.size]) ?_ (fun w hw => (hlist.fr hw.fr).flat hx3) ?_ ?_
   iterate 3 (as_aux_lemma => kernel_rfl)
   refine QRUN 1 9 10 [(0, .v (.slice list_a list.length list_c)), (3, .p 0 0), (5, I (k : Int)), (11, B true), (15, .v (.agg #[vi x2.level, vi x2.turn, vi x2.id, vi x2.size])), (16, .v (.agg #[vi e.level, vi e.turn, vi e.id, vi e.size]))] ?_ rfl ?_
   · as_aux_lemma => kernel_rfl
   refine QCALL 102 #[.agg #[vi x2.level, vi x2.turn, vi x2.id, vi x2.size], .agg #[vi e.level, vi e.turn, vi e.id, vi e.size]] (some 17) ?_ (.bool (entryLess x2 e)) (fun w hw => entryLess_c w x2 e) (NO rfl) ?_
   · as_aux_lemma => kernel_rfl
   refine QRUN 1 11 12 [(0, .v (.slice list_a list.length list_c)), (3, .p 0 0), (5, I (k : Int)), (18, B (entryLess x2 e))] ?_ rfl ?_
   · as_aux_lemma => kernel_rfl
   refine QEND rfl (NEXT (IF (entryLess x2 e) ?_ (fun bh4 => ?_) (fun bh4 => ?_)))
   · as_aux_lemma => kernel_rfl
   ·
    have h4 := bh4
    refine SKIP (NEXT (BLOCK (REGION [0, 1, 2] rfl (RUN0 2 [2] [(0, .v (.slice list_a list.length list_c)), (3, .p 0 0), (20, I (wr ((k : Int) + 1)))] ?_ rfl ?_))))
    · as_aux_lemma => kernel_rfl
    refine CAST (d := 20) (vi (wr ((k : Int) + 1))) (vi ((k + 1 : Nat) : Int)) ?_ (vi_cast (by omega) (by omega)) ?_
    · as_aux_lemma => kernel_rfl
    refine RUN0 1 [] [(0, .v (.slice list_a list.length list_c)), (3, .p 0 0), (5, I ((k + 1 : Nat) : Int))] ?_ rfl ?_
    · as_aux_lemma => kernel_rfl
    refine ENDOPS (OUTN (BACK (k + 1) [0, 3, 5] 1 [] _ (by first | omega | (dsimp only; omega)) (by first | omega | (dsimp only; omega)) ?_ rfl rfl rfl))
    · as_aux_lemma => kernel_rfl
   ·
    have h4 := bh4
    refine EXIT (PASS trivial (PASS trivial (OUT (JBACK (k) [0, 3, 5] 1 [] _ (by first | omega | (dsimp only; omega) | (simp only [List.length_append, List.length_cons, List.length_nil, List.length_take]; omega)) ?_ rfl rfl rfl))))
    · as_aux_lemma => kernel_rfl
  ·
   have h1 := bh1
   have h1 := of_decide_eq_false h1
   refine QRUN 7 5 12 [(0, .v (.slice list_a list.length list_c)), (3, .p 0 0), (5, I (k : Int)), (18, B false)] ?_ rfl ?_
   · as_aux_lemma => kernel_rfl
   refine QEND rfl (NEXT (IFF ?_ ?_))
   · as_aux_lemma => kernel_rfl
   refine EXIT (PASS trivial (PASS trivial (OUT (JBACK (k) [0, 3, 5] 1 [] _ (by first | omega | (dsimp only; omega) | (simp only [List.length_append, List.length_cons, List.length_nil, List.length_take]; omega)) ?_ rfl rfl rfl))))
   · as_aux_lemma => kernel_rfl
 rintro kk hi5
 try dsimp only at hi5
 refine SEQJ (ι := (Option Addr) × Nat × (List Entry)) (fun j => [(0, .v (.slice list_a list.length list_c)), (5, I (kk : Int)), (6, .v (.slice j.1 j.2.2.length j.2.1))]) (fun j => [(129, [vi e.level, vi e.turn, vi e.id, vi e.size])]) (fun j => [slA 129 entryL (.slice j.1 j.2.2.length j.2.1) j.2.2]) (fun j => j.2.2.length = kk + 1) ?_ ?_
 ·
  refine EXPORT (fun bs hbs => ?_)
  obtain ⟨b6, rfl⟩ := len1 hbs
  refine REGIONH ?_ 8 rfl [ptC b6 129 [vi e.level, vi e.turn, vi e.id, vi e.size]] ?_
  · as_aux_lemma => kernel_rfl
  refine HPURE (js := [0]) 0 [(0, .v (.slice list_a list.length list_c)), (3, .e (some ⟨b6, 0, none⟩) 0 0), (5, I (kk : Int)), (21, .v (.slice list_a list.length list_c))] ?_ ?_ rfl ?_
  iterate 2 (as_aux_lemma => kernel_rfl)
  refine HPURE (js := [0]) 1 [(0, .v (.slice list_a list.length list_c)), (3, .e (some ⟨b6, 0, none⟩) 0 0), (5, I (kk : Int)), (21, .v (.slice list_a list.length list_c)), (22, I (kk : Int))] ?_ ?_ rfl ?_
  iterate 2 (as_aux_lemma => kernel_rfl)
  refine HLOADE (i := 4) (js := [0])  129 (.tmp 3) 25 129 ?_ (NL rfl) (some ⟨b6, 0, none⟩) 0 0 [vi e.level, vi e.turn, vi e.id, vi e.size] (.agg #[vi e.level, vi e.turn, vi e.id, vi e.size]) ?_ (fun w hw => ptC_elem (hw.own 0 rfl)) ?_ ?_ rfl ?_
  iterate 4 (as_aux_lemma => kernel_rfl)
  refine HALL [2, 5] ?_ (by decide) ⟨?_, ?_⟩
  · as_aux_lemma => kernel_rfl
  ·
   refine CUTH 88 (.tmp 21) (.tmp 22) 23 88 ?_ (NL rfl) list_a list.length list_c .i64 (kk : Int) ?_ ?_ 129 entryL list ?_ ?_ (by omega) (by first | omega | (simp only [List.length_append, List.length_cons, List.length_nil, List.length_take, List.length_drop] at *; omega)) rfl (by omega) (fun a7 hsh8 => ?_)
   iterate 5 (as_aux_lemma => kernel_rfl)
   have hsh8 : ∀ w, Rd entryL w list_a list → Rd entryL w a7 (list.take kk) := hsh8
   have hln9 : (list.take kk).length = kk := by first | (simp; done) | (simp; omega)
   refine CAST (d := 23) (.slice a7 kk list_c) (.slice a7 ((list.take kk).length) list_c) ?_ (by rw [hln9]) ?_
   · as_aux_lemma => kernel_rfl
   refine HKEEP (js := [0]) rfl (HALL [3, 5] ?_ (by decide) ⟨?_, ?_⟩)
   · as_aux_lemma => kernel_rfl
   ·
    refine CALL 103 #[.slice a7 ((list.take kk).length) list_c] (some 24) ?_ [] [] _ rfl (⟨HH, fun p => .slice p.1 ((list.take kk).length) p.2, fun p => [slA 129 entryL (.slice p.1 (list.take kk).length p.2) (list.take kk)]⟩) (fun w hw => l7Copy_c w (list.take kk) a7 list_c (hsh8 _ (hlist.fr hw.fr)) (by first | assumption | omega)) (NO rfl) ?_
    · as_aux_lemma => kernel_rfl
    rintro ⟨a10, c11⟩
    refine HKEEP (js := [0]) rfl (HALL [5] ?_ (by decide) ?_)
    · as_aux_lemma => kernel_rfl
    refine BUILDS 88 1 #[(0, .tmp 25)] 26 88 ?_ (NL rfl) 129 [vi e.level, vi e.turn, vi e.id, vi e.size] ?_ entryL [e] rfl (by simp only [maxLen]; omega) [] [] _ rfl (flatRep rfl) (fun a12 ha13 => ?_)
    iterate 2 (as_aux_lemma => kernel_rfl)
    refine HKEEP (js := [0]) rfl (HALL [6] ?_ (by decide) ?_)
    · as_aux_lemma => kernel_rfl
    refine APPENDO 88 (.tmp 24) (.tmp 26) 27 88 ?_ (NL rfl) (.slice a10 ((list.take kk).length) c11) a12 1 1 ?_ ?_ ha13 129 ?_ entryL (.agg #[vi 0, vi 0, vi 0, vi 0]) 32 ?_ rfl (by decide) 1 1 (list.take kk) ([e]) _ rfl rfl (by first | omega | (simp only [List.length_append, List.length_cons, List.length_nil, List.length_take, List.length_drop] at *; omega)) (by simp only [maxLen]; first | omega | (simp only [List.length_append, List.length_cons, List.length_nil, List.length_take, List.length_drop] at *; omega)) (fun a14 c15 hn16 => ?_)
    iterate 5 (as_aux_lemma => kernel_rfl)
    refine HKEEP (js := [0]) rfl (HPURE (js := [0]) 7 [(0, .v (.slice list_a list.length list_c)), (5, I (kk : Int)), (6, .v (.slice a14 (((list.take kk) ++ ([e])).length) c15))] ?_ ?_ rfl ?_)
    iterate 2 (as_aux_lemma => kernel_rfl)
    refine HEND ?_ ?_
    · as_aux_lemma => kernel_rfl
    refine IMPORT (L0 := [(129, [vi e.level, vi e.turn, vi e.id, vi e.size])]) (L1 := []) [b6] rfl [0] _ rfl [(0, .v (.slice list_a list.length list_c)), (5, I (kk : Int)), (6, .v (.slice a14 (((list.take kk) ++ ([e])).length) c15))] ?_ ?_ ?_
    iterate 2 (as_aux_lemma => kernel_rfl)
    refine JBACK (a14, c15, (list.take kk) ++ ([e])) [0, 5, 6] 1 [0] _ (by first | omega | (dsimp only; omega) | (simp only [List.length_append, List.length_cons, List.length_nil, List.length_take]; omega)) ?_ rfl rfl rfl
    · as_aux_lemma => kernel_rfl
   ·
    refine BUILDS 88 1 #[(0, .tmp 25)] 26 88 ?_ (NL rfl) 129 [vi e.level, vi e.turn, vi e.id, vi e.size] ?_ entryL [e] rfl (by simp only [maxLen]; omega) [] [] _ rfl (flatRep rfl) (fun a17 ha18 => ?_)
    iterate 2 (as_aux_lemma => kernel_rfl)
    refine HKEEP (js := [0]) rfl (HALL [3] ?_ (by decide) ?_)
    · as_aux_lemma => kernel_rfl
    refine CALL 103 #[.slice a7 ((list.take kk).length) list_c] (some 24) ?_ [] [] _ rfl (⟨HH, fun p => .slice p.1 ((list.take kk).length) p.2, fun p => [slA 129 entryL (.slice p.1 (list.take kk).length p.2) (list.take kk)]⟩) (fun w hw => l7Copy_c w (list.take kk) a7 list_c (hsh8 _ (hlist.fr hw.fr)) (by first | assumption | omega)) (NO rfl) ?_
    · as_aux_lemma => kernel_rfl
    rintro ⟨a19, c20⟩
    refine HKEEP (js := [0]) rfl (HALL [6] ?_ (by decide) ?_)
    · as_aux_lemma => kernel_rfl
    refine APPENDO 88 (.tmp 24) (.tmp 26) 27 88 ?_ (NL rfl) (.slice a19 ((list.take kk).length) c20) a17 1 1 ?_ ?_ ha18 129 ?_ entryL (.agg #[vi 0, vi 0, vi 0, vi 0]) 32 ?_ rfl (by decide) 2 1 (list.take kk) ([e]) _ rfl rfl (by first | omega | (simp only [List.length_append, List.length_cons, List.length_nil, List.length_take, List.length_drop] at *; omega)) (by simp only [maxLen]; first | omega | (simp only [List.length_append, List.length_cons, List.length_nil, List.length_take, List.length_drop] at *; omega)) (fun a21 c22 hn23 => ?_)
    iterate 5 (as_aux_lemma => kernel_rfl)
    refine HKEEP (js := [0]) rfl (HPURE (js := [0]) 7 [(0, .v (.slice list_a list.length list_c)), (5, I (kk : Int)), (6, .v (.slice a21 (((list.take kk) ++ ([e])).length) c22))] ?_ ?_ rfl ?_)
    iterate 2 (as_aux_lemma => kernel_rfl)
    refine HEND ?_ ?_
    · as_aux_lemma => kernel_rfl
    refine IMPORT (L0 := [(129, [vi e.level, vi e.turn, vi e.id, vi e.size])]) (L1 := []) [b6] rfl [0] _ rfl [(0, .v (.slice list_a list.length list_c)), (5, I (kk : Int)), (6, .v (.slice a21 (((list.take kk) ++ ([e])).length) c22))] ?_ ?_ ?_
    iterate 2 (as_aux_lemma => kernel_rfl)
    refine JBACK (a21, c22, (list.take kk) ++ ([e])) [0, 5, 6] 1 [0] _ (by first | omega | (dsimp only; omega) | (simp only [List.length_append, List.length_cons, List.length_nil, List.length_take]; omega)) ?_ rfl rfl rfl
    · as_aux_lemma => kernel_rfl
  ·
   refine BUILDS 88 1 #[(0, .tmp 25)] 26 88 ?_ (NL rfl) 129 [vi e.level, vi e.turn, vi e.id, vi e.size] ?_ entryL [e] rfl (by simp only [maxLen]; omega) [] [] _ rfl (flatRep rfl) (fun a24 ha25 => ?_)
   iterate 2 (as_aux_lemma => kernel_rfl)
   refine HKEEP (js := [0]) rfl (HALL [2] ?_ (by decide) ?_)
   · as_aux_lemma => kernel_rfl
   refine CUTH 88 (.tmp 21) (.tmp 22) 23 88 ?_ (NL rfl) list_a list.length list_c .i64 (kk : Int) ?_ ?_ 129 entryL list ?_ ?_ (by omega) (by first | omega | (simp only [List.length_append, List.length_cons, List.length_nil, List.length_take, List.length_drop] at *; omega)) rfl (by omega) (fun a26 hsh27 => ?_)
   iterate 5 (as_aux_lemma => kernel_rfl)
   have hsh27 : ∀ w, Rd entryL w list_a list → Rd entryL w a26 (list.take kk) := hsh27
   have hln28 : (list.take kk).length = kk := by first | (simp; done) | (simp; omega)
   refine CAST (d := 23) (.slice a26 kk list_c) (.slice a26 ((list.take kk).length) list_c) ?_ (by rw [hln28]) ?_
   · as_aux_lemma => kernel_rfl
   refine HKEEP (js := [0]) rfl (HALL [3] ?_ (by decide) ?_)
   · as_aux_lemma => kernel_rfl
   refine CALL 103 #[.slice a26 ((list.take kk).length) list_c] (some 24) ?_ [] [] _ rfl (⟨HH, fun p => .slice p.1 ((list.take kk).length) p.2, fun p => [slA 129 entryL (.slice p.1 (list.take kk).length p.2) (list.take kk)]⟩) (fun w hw => l7Copy_c w (list.take kk) a26 list_c (hsh27 _ (hlist.fr hw.fr)) (by first | assumption | omega)) (NO rfl) ?_
   · as_aux_lemma => kernel_rfl
   rintro ⟨a29, c30⟩
   refine HKEEP (js := [0]) rfl (HALL [6] ?_ (by decide) ?_)
   · as_aux_lemma => kernel_rfl
   refine APPENDO 88 (.tmp 24) (.tmp 26) 27 88 ?_ (NL rfl) (.slice a29 ((list.take kk).length) c30) a24 1 1 ?_ ?_ ha25 129 ?_ entryL (.agg #[vi 0, vi 0, vi 0, vi 0]) 32 ?_ rfl (by decide) 2 1 (list.take kk) ([e]) _ rfl rfl (by first | omega | (simp only [List.length_append, List.length_cons, List.length_nil, List.length_take, List.length_drop] at *; omega)) (by simp only [maxLen]; first | omega | (simp only [List.length_append, List.length_cons, List.length_nil, List.length_take, List.length_drop] at *; omega)) (fun a31 c32 hn33 => ?_)
   iterate 5 (as_aux_lemma => kernel_rfl)
   refine HKEEP (js := [0]) rfl (HPURE (js := [0]) 7 [(0, .v (.slice list_a list.length list_c)), (5, I (kk : Int)), (6, .v (.slice a31 (((list.take kk) ++ ([e])).length) c32))] ?_ ?_ rfl ?_)
   iterate 2 (as_aux_lemma => kernel_rfl)
   refine HEND ?_ ?_
   · as_aux_lemma => kernel_rfl
   refine IMPORT (L0 := [(129, [vi e.level, vi e.turn, vi e.id, vi e.size])]) (L1 := []) [b6] rfl [0] _ rfl [(0, .v (.slice list_a list.length list_c)), (5, I (kk : Int)), (6, .v (.slice a31 (((list.take kk) ++ ([e])).length) c32))] ?_ ?_ ?_
   iterate 2 (as_aux_lemma => kernel_rfl)
   refine JBACK (a31, c32, (list.take kk) ++ ([e])) [0, 5, 6] 1 [0] _ (by first | omega | (dsimp only; omega) | (simp only [List.length_append, List.length_cons, List.length_nil, List.length_take]; omega)) ?_ rfl rfl rfl
   · as_aux_lemma => kernel_rfl
 rintro ⟨oa, oc, xo⟩ hi34
 try dsimp only at hi34
 refine SEQ (REGION [0, 1, 2, 3, 4, 5] rfl (RUN0 3 [3, 4, 5] [(28, .v (.slice oa xo.length oc)), (29, .v (.slice list_a list.length list_c)), (30, I (kk : Int))] ?_ rfl ?_))
 · as_aux_lemma => kernel_rfl
 refine OPC (CUTL 88 (.tmp 29) (.tmp 30) 31 88 ?_ (NL rfl) list_a list.length list_c .i64 (kk : Int) ?_ ?_ 129 entryL list ?_ ?_ (by omega) (by first | omega | (simp only [List.length_append, List.length_cons, List.length_nil, List.length_take, List.length_drop] at *; omega)) rfl (by omega) (fun a35 hsh36 => ?_))
 iterate 5 (as_aux_lemma => kernel_rfl)
 have hsh36 : ∀ w, Rd entryL w list_a list → Rd entryL w a35 (list.drop kk) := hsh36
 have hln37 : (list.drop kk).length = list.length - kk := by first | (simp; done) | (simp; omega)
 refine CAST (d := 31) (.slice a35 (list.length - kk) (list_c - kk)) (.slice a35 ((list.drop kk).length) (list_c - kk)) ?_ (by rw [hln37]) ?_
 · as_aux_lemma => kernel_rfl
 refine OPC (APPENDR 88 (.tmp 28) (.tmp 31) 32 88 ?_ (NL rfl) (.slice oa xo.length oc) a35 ((list.drop kk).length) (list_c - kk) ?_ ?_ 129 ?_ (.agg #[vi 0, vi 0, vi 0, vi 0]) 32 ?_ rfl (by decide) 0 xo (list.drop kk) _ rfl rfl (fun w hw => (hsh36 _ (hlist.fr hw.fr))) (by first | omega | (simp only [List.length_append, List.length_cons, List.length_nil, List.length_take, List.length_drop] at *; omega)) (by simp only [maxLen]; first | omega | (simp only [List.length_append, List.length_cons, List.length_nil, List.length_take, List.length_drop] at *; omega)) (fun a38 c39 hn40 => ?_))
 iterate 5 (as_aux_lemma => kernel_rfl)
 refine RUN0 1 [] [(4, .v (.slice a38 ((xo ++ (list.drop kk)).length) c39))] ?_ rfl ?_
 · as_aux_lemma => kernel_rfl
 refine ENDOPS (NEXT (RET (FIN (.slice a38 ((xo ++ (list.drop kk)).length) c39) ?_ ⟨((a38, c39), xo ++ (list.drop kk)), (by first | omega | (simp only [List.length_append, List.length_cons, List.length_nil, List.length_take, List.length_drop]; omega) | (dsimp only; omega))⟩ ?_ [0] ?_)))
 · as_aux_lemma => kernel_rfl
 · rfl
 · rfl

theorem queueOf_c (W : World) (r : Rules) (r_seats_a : Option Addr) (r_seats_c : Nat) (hr_seats : Rd intL W r_seats_a r.seats) (list : List Party) (list_a : Option Addr) (list_c : Nat) (hlist : Rd partyL W list_a list) (cabin : Int) (now : Int) (hb : list.length ≤ 1048576) : Spec Tryz.prog W [] 74 #[.agg #[.slice r_seats_a r.seats.length r_seats_c, vi r.tiers, vi r.room, vi r.size, vi r.period, vi r.window, vi r.rest, vi r.tries, vi r.crew], .slice list_a list.length list_c, vi cabin, vi now] (⟨{q : (HH) × (List Entry) // (fun x : List Entry => x.length ≤ list.length) q.2}, fun q => .slice q.1.1.1 q.1.2.length q.1.1.2, fun q => [slA 129 entryL (.slice q.1.1.1 q.1.2.length q.1.1.2) q.1.2]⟩) := by
 refine ENTER0 (N := 45) (vs := [.agg #[.slice r_seats_a r.seats.length r_seats_c, vi r.tiers, vi r.room, vi r.size, vi r.period, vi r.window, vi r.rest, vi r.tries, vi r.crew], .slice list_a list.length list_c, vi cabin, vi now]) Tryz.func74 rfl rfl (NL rfl) ?_
 have hr_seats_len := hr_seats.len
 have hlist_len := hlist.len
 refine SEQ (REGION [0, 1] rfl (RUN 2 [] [(1, .v (.slice list_a list.length list_c)), (2, I cabin), (3, I now), (4, .p 0 0)] [(51, [.slice r_seats_a r.seats.length r_seats_c, vi r.tiers, vi r.room, vi r.size, vi r.period, vi r.window, vi r.rest, vi r.tries, vi r.crew])] ?_ rfl ?_))
 · as_aux_lemma => kernel_rfl
 refine ENDOPS (NEXT (SEQ (REGION [0, 1] rfl (OPC (BUILDS 88 0 #[] 13 88 ?_ (NL rfl) 129 [] ?_ entryL [] rfl (by simp only [maxLen]; omega) [] [] _ rfl (flatRep rfl) (fun a1 ha2 => ?_))))))
 iterate 2 (as_aux_lemma => kernel_rfl)
 refine RUN0 1 [] [(1, .v (.slice list_a list.length list_c)), (2, I cabin), (3, I now), (4, .p 0 0), (9, .v (.slice a1 0 0))] ?_ rfl ?_
 · as_aux_lemma => kernel_rfl
 refine ENDOPS (NEXT (SEQ (SEQ (REGION [0, 1, 2, 3] rfl (RUN0 4 [] [(1, .v (.slice list_a list.length list_c)), (2, I cabin), (3, I now), (4, .p 0 0), (9, .v (.slice a1 0 0)), (10, I (wr ((list.length : Int) - 1)))] ?_ rfl ?_)))))
 · as_aux_lemma => kernel_rfl
 refine ENDOPS (NEXT (BLOCK (LOOP (ι := Int × (Option Addr) × Nat × (List Entry)) (fun j => [(1, .v (.slice list_a list.length list_c)), (2, I cabin), (3, I now), (4, .p 0 0), (9, .v (.slice j.2.1 j.2.2.2.length j.2.2.1)), (10, I j.1)]) (fun j => [(51, [.slice r_seats_a r.seats.length r_seats_c, vi r.tiers, vi r.room, vi r.size, vi r.period, vi r.window, vi r.rest, vi r.tries, vi r.crew])]) (fun j => [slA 129 entryL (.slice j.2.1 j.2.2.2.length j.2.2.1) j.2.2.2]) (fun j => -1 ≤ j.1 ∧ j.1 < (list.length : Int) ∧ (j.2.2.2.length : Int) + j.1 + 1 ≤ list.length) (fun j => (j.1 + 1).toNat) (wr ((list.length : Int) - 1), a1, 0, []) [1, 2, 3, 4, 9, 10] ⟨by dsimp only; rw [wr_of (by omega) (by omega)]; omega, by dsimp only; rw [wr_of (by omega) (by omega)]; omega, by dsimp only; rw [wr_of (by omega) (by omega)]; simp only [List.length_nil]; omega⟩ ?_ rfl rfl ?_)))
 · as_aux_lemma => kernel_rfl
 rintro ⟨z, oa, oc, out⟩ ⟨hz, hzl, hol⟩
 try dsimp only at hz hzl hol
 have hzw : wr (z - 1) = z - 1 := wr_of (by omega) (by omega)
 refine SEQ (SEQ (REGION [0, 1] rfl (RUN0 2 [] [(1, .v (.slice list_a list.length list_c)), (2, I cabin), (3, I now), (4, .p 0 0), (9, .v (.slice oa out.length oc)), (10, I z), (18, B (decide (z ≥ 0)))] ?_ rfl ?_)))
 · as_aux_lemma => kernel_rfl
 refine ENDOPS (NEXT (IF (decide (z ≥ 0)) ?_ (fun bh3 => ?_) (fun bh3 => ?_)))
 · as_aux_lemma => kernel_rfl
 ·
  have h3 := bh3
  have h3 := of_decide_eq_true h3
  refine SKIP (NEXT (SEQ (BLOCK (SEQ (EXPORT (fun bs hbs => ?_))))))
  obtain ⟨b4, rfl⟩ := len1 hbs
  refine REGIONH ?_ 13 rfl [ptC b4 51 [.slice r_seats_a r.seats.length r_seats_c, vi r.tiers, vi r.room, vi r.size, vi r.period, vi r.window, vi r.rest, vi r.tries, vi r.crew], slA 129 entryL (.slice oa out.length oc) out] ?_
  · as_aux_lemma => kernel_rfl
  refine HLOADE (i := 0) (js := [0, 0])  51 (.tmp 4) 22 51 ?_ (NL rfl) (some ⟨b4, 0, none⟩) 0 0 [.slice r_seats_a r.seats.length r_seats_c, vi r.tiers, vi r.room, vi r.size, vi r.period, vi r.window, vi r.rest, vi r.tries, vi r.crew] (.agg #[.slice r_seats_a r.seats.length r_seats_c, vi r.tiers, vi r.room, vi r.size, vi r.period, vi r.window, vi r.rest, vi r.tries, vi r.crew]) ?_ (fun w hw => ptC_elem (hw.own 0 rfl)) ?_ ?_ rfl ?_
  iterate 4 (as_aux_lemma => kernel_rfl)
  refine HPURE (js := [0, 0]) 1 [(1, .v (.slice list_a list.length list_c)), (2, I cabin), (3, I now), (4, .e (some ⟨b4, 0, none⟩) 0 0), (9, .v (.slice oa out.length oc)), (10, I z), (22, .v (.agg #[.slice r_seats_a r.seats.length r_seats_c, vi r.tiers, vi r.room, vi r.size, vi r.period, vi r.window, vi r.rest, vi r.tries, vi r.crew])), (23, .v (.slice list_a list.length list_c))] ?_ ?_ rfl ?_
  iterate 2 (as_aux_lemma => kernel_rfl)
  refine HPURE (js := [0, 0]) 2 [(1, .v (.slice list_a list.length list_c)), (2, I cabin), (3, I now), (4, .e (some ⟨b4, 0, none⟩) 0 0), (9, .v (.slice oa out.length oc)), (10, I z), (22, .v (.agg #[.slice r_seats_a r.seats.length r_seats_c, vi r.tiers, vi r.room, vi r.size, vi r.period, vi r.window, vi r.rest, vi r.tries, vi r.crew])), (23, .v (.slice list_a list.length list_c)), (24, I z)] ?_ ?_ rfl ?_
  iterate 2 (as_aux_lemma => kernel_rfl)
  obtain ⟨x5, hx6⟩ : ∃ y, list[z.toNat]? = some y := ⟨_, List.getElem?_eq_getElem (by omega)⟩
  refine HINDEX (i := 3) (js := [0, 0])  52 (.tmp 23) (.tmp 24) 25 0 ?_ (NL rfl) list_a list.length list_c .i64 z 80 10 ?_ ?_ ?_ ?_ (Rd.some hlist (by omega)) (by omega) (by omega) ?_ rfl ?_
  iterate 6 (as_aux_lemma => kernel_rfl)
  refine HLOADE (i := 4) (js := [0, 0])  80 (.tmp 25) 26 80 ?_ (NL rfl) list_a (z.toNat * 10) 0 [vi x5.id, vi x5.cabin, vi x5.from', vi x5.size, vi x5.tier, vi x5.since, vi x5.turn, vi x5.state, vi x5.until', vi x5.asked] (.agg #[vi x5.id, vi x5.cabin, vi x5.from', vi x5.size, vi x5.tier, vi x5.since, vi x5.turn, vi x5.state, vi x5.until', vi x5.asked]) ?_ (fun w hw => (hlist.fr hw.fr).flat hx6) ?_ ?_ rfl ?_
  iterate 4 (as_aux_lemma => kernel_rfl)
  refine HPURE (js := [0, 0]) 5 [(1, .v (.slice list_a list.length list_c)), (2, I cabin), (3, I now), (4, .e (some ⟨b4, 0, none⟩) 0 0), (9, .v (.slice oa out.length oc)), (10, I z), (22, .v (.agg #[.slice r_seats_a r.seats.length r_seats_c, vi r.tiers, vi r.room, vi r.size, vi r.period, vi r.window, vi r.rest, vi r.tries, vi r.crew])), (26, .v (.agg #[vi x5.id, vi x5.cabin, vi x5.from', vi x5.size, vi x5.tier, vi x5.since, vi x5.turn, vi x5.state, vi x5.until', vi x5.asked])), (27, I now)] ?_ ?_ rfl ?_
  iterate 2 (as_aux_lemma => kernel_rfl)
  refine HALL [6, 10] ?_ (by decide) ⟨?_, ?_⟩
  · as_aux_lemma => kernel_rfl
  ·
   refine CALL 87 #[.agg #[.slice r_seats_a r.seats.length r_seats_c, vi r.tiers, vi r.room, vi r.size, vi r.period, vi r.window, vi r.rest, vi r.tries, vi r.crew], .agg #[vi x5.id, vi x5.cabin, vi x5.from', vi x5.size, vi x5.tier, vi x5.since, vi x5.turn, vi x5.state, vi x5.until', vi x5.asked], vi now] (some 28) ?_ [] [] _ rfl (⟨{x : Entry × Bool // True}, fun q => .tuple #[.agg #[vi q.1.1.level, vi q.1.1.turn, vi q.1.1.id, vi q.1.1.size], .bool q.1.2], fun q => []⟩) (fun w hw => entryOf_c w r r_seats_a r_seats_c (hr_seats.fr hw.fr) x5 now) (NO rfl) ?_
   · as_aux_lemma => kernel_rfl
   rintro ⟨m7, hm8⟩
   try dsimp only at hm8
   refine HKEEP (js := [0, 0]) rfl (HPURE (js := [0, 0]) 7 [(1, .v (.slice list_a list.length list_c)), (2, I cabin), (3, I now), (4, .e (some ⟨b4, 0, none⟩) 0 0), (9, .v (.slice oa out.length oc)), (10, I z), (21, .v (.tuple #[.agg #[vi m7.1.level, vi m7.1.turn, vi m7.1.id, vi m7.1.size], .bool m7.2]))] ?_ ?_ rfl ?_)
   iterate 2 (as_aux_lemma => kernel_rfl)
   refine HPURE (js := [0, 0]) 8 [(1, .v (.slice list_a list.length list_c)), (2, I cabin), (3, I now), (4, .e (some ⟨b4, 0, none⟩) 0 0), (9, .v (.slice oa out.length oc)), (10, I z), (21, .v (.tuple #[.agg #[vi m7.1.level, vi m7.1.turn, vi m7.1.id, vi m7.1.size], .bool m7.2])), (29, .v (.agg #[vi m7.1.level, vi m7.1.turn, vi m7.1.id, vi m7.1.size]))] ?_ ?_ rfl ?_
   iterate 2 (as_aux_lemma => kernel_rfl)
   refine HPURE (js := [0, 0]) 9 [(1, .v (.slice list_a list.length list_c)), (2, I cabin), (3, I now), (4, .e (some ⟨b4, 0, none⟩) 0 0), (9, .v (.slice oa out.length oc)), (10, I z), (29, .v (.agg #[vi m7.1.level, vi m7.1.turn, vi m7.1.id, vi m7.1.size])), (30, B m7.2)] ?_ ?_ rfl ?_
   iterate 2 (as_aux_lemma => kernel_rfl)
   refine HALL [10] ?_ (by decide) ?_
   · as_aux_lemma => kernel_rfl
   refine RUNO [(1, .v (.slice list_a list.length list_c)), (2, I cabin), (3, I now), (4, .e (some ⟨b4, 0, none⟩) 0 0), (9, .v (.slice oa out.length oc)), (10, I z), (11, .p 0 0), (29, .v (.agg #[vi m7.1.level, vi m7.1.turn, vi m7.1.id, vi m7.1.size])), (30, B m7.2)] [(129, [vi 0, vi 0, vi 0, vi 0])] ?_ ?_
   · as_aux_lemma => kernel_rfl
   refine HKEEP (js := [0, 0]) rfl (HALL [11] ?_ (by decide) ?_)
   · as_aux_lemma => kernel_rfl
   refine RUNO [(1, .v (.slice list_a list.length list_c)), (2, I cabin), (3, I now), (4, .e (some ⟨b4, 0, none⟩) 0 0), (9, .v (.slice oa out.length oc)), (10, I z), (11, .p 0 0), (30, B m7.2)] [(129, [vi m7.1.level, vi m7.1.turn, vi m7.1.id, vi m7.1.size])] ?_ ?_
   · as_aux_lemma => kernel_rfl
   refine HKEEP (js := [0, 0]) rfl (HPURE (js := [0, 0]) 12 [(1, .v (.slice list_a list.length list_c)), (2, I cabin), (3, I now), (4, .e (some ⟨b4, 0, none⟩) 0 0), (9, .v (.slice oa out.length oc)), (10, I z), (11, .p 0 0), (12, B m7.2)] ?_ ?_ rfl ?_)
   iterate 2 (as_aux_lemma => kernel_rfl)
   refine HEND ?_ ?_
   · as_aux_lemma => kernel_rfl
   refine IMPORT (L0 := [(51, [.slice r_seats_a r.seats.length r_seats_c, vi r.tiers, vi r.room, vi r.size, vi r.period, vi r.window, vi r.rest, vi r.tries, vi r.crew])]) (L1 := [(129, [vi m7.1.level, vi m7.1.turn, vi m7.1.id, vi m7.1.size])]) [b4] rfl [0] _ rfl [(1, .v (.slice list_a list.length list_c)), (2, I cabin), (3, I now), (4, .p 0 0), (9, .v (.slice oa out.length oc)), (10, I z), (11, .p 1 0), (12, B m7.2)] ?_ ?_ ?_
   iterate 2 (as_aux_lemma => kernel_rfl)
   refine NEXT (SEQ (REGION [0, 1, 2, 3, 4, 5, 6, 7, 8, 9] rfl (RUN0 2 [2, 3, 4, 5, 6, 7, 8, 9] [(1, .v (.slice list_a list.length list_c)), (2, I cabin), (3, I now), (4, .p 0 0), (9, .v (.slice oa out.length oc)), (10, I z), (11, .p 1 0), (32, B m7.2)] ?_ rfl ?_)))
   · as_aux_lemma => kernel_rfl
   refine SPLIT (d := 32) (m7.2) ?_ (fun bh9 => ?_) (fun bh9 => ?_)
   · as_aux_lemma => kernel_rfl
   ·
    have h9 := bh9
    refine RUN0 2 [4, 5, 6, 7, 8, 9] [(1, .v (.slice list_a list.length list_c)), (2, I cabin), (3, I now), (4, .p 0 0), (9, .v (.slice oa out.length oc)), (10, I z), (11, .p 1 0), (32, B true), (33, .v (.slice list_a list.length list_c)), (34, I z)] ?_ rfl ?_
    · as_aux_lemma => kernel_rfl
    refine OPC (INDEX 52 (.tmp 33) (.tmp 34) 35 0 ?_ (NL rfl) list_a list.length list_c .i64 z 80 10 ?_ ?_ ?_ ?_ (Rd.some hlist (by omega)) (by omega) (by omega) ?_)
    iterate 5 (as_aux_lemma => kernel_rfl)
    refine RUN0 1 [6, 7, 8, 9] [(1, .v (.slice list_a list.length list_c)), (2, I cabin), (3, I now), (4, .p 0 0), (9, .v (.slice oa out.length oc)), (10, I z), (11, .p 1 0), (32, B true), (36, .e list_a (z.toNat * 10) 1)] ?_ rfl ?_
    · as_aux_lemma => kernel_rfl
    refine OPC (LOADE 3 (.tmp 36) 37 3 ?_ (NL rfl) list_a (z.toNat * 10) 1 [vi x5.id, vi x5.cabin, vi x5.from', vi x5.size, vi x5.tier, vi x5.since, vi x5.turn, vi x5.state, vi x5.until', vi x5.asked] (vi x5.cabin) ?_ (fun w hw => (hlist.fr hw.fr).flat hx6) ?_ ?_)
    iterate 3 (as_aux_lemma => kernel_rfl)
    refine RUN0 3 [] [(1, .v (.slice list_a list.length list_c)), (2, I cabin), (3, I now), (4, .p 0 0), (9, .v (.slice oa out.length oc)), (10, I z), (11, .p 1 0), (40, B (x5.cabin == cabin))] ?_ rfl ?_
    · as_aux_lemma => kernel_rfl
    refine ENDOPS (NEXT (IF (x5.cabin == cabin) ?_ (fun bh10 => ?_) (fun bh10 => ?_)))
    · as_aux_lemma => kernel_rfl
    ·
     have h10 := bh10
     have h10 := eq_of_beq h10
     refine REGION [0, 1, 2, 3] rfl (RUN0 2 [2, 3] [(1, .v (.slice list_a list.length list_c)), (2, I cabin), (3, I now), (4, .p 0 0), (10, I z), (41, .v (.slice oa out.length oc)), (42, .v (.agg #[vi m7.1.level, vi m7.1.turn, vi m7.1.id, vi m7.1.size]))] ?_ rfl ?_)
     · as_aux_lemma => kernel_rfl
     refine FACT (out.length ≤ oc) (fun w hw => SlO.capE (hw.own 0 rfl)) (fun hcap11 => ?_)
     refine OPC (CALL 88 #[.slice oa out.length oc, .agg #[vi m7.1.level, vi m7.1.turn, vi m7.1.id, vi m7.1.size]] (some 43) ?_ [] [] _ rfl (⟨{q : (HH) × (List Entry) // (fun x : List Entry => x.length = out.length + 1) q.2}, fun q => .slice q.1.1.1 q.1.2.length q.1.1.2, fun q => [slA 129 entryL (.slice q.1.1.1 q.1.2.length q.1.1.2) q.1.2]⟩) (fun w hw => l7Put_c w out oa oc (hw.rdO 0 rfl) m7.1 (by first | assumption | omega | (dsimp only; omega) | (simp only [List.length_append, List.length_cons, List.length_nil] at *; omega)) (by first | assumption | omega | (dsimp only; omega) | (simp only [List.length_append, List.length_cons, List.length_nil] at *; omega))) (NO rfl) ?_)
     · as_aux_lemma => kernel_rfl
     rintro ⟨⟨⟨a14, c15⟩, m12⟩, hm13⟩
     try dsimp only at hm13
     refine RUN0 1 [] [(1, .v (.slice list_a list.length list_c)), (2, I cabin), (3, I now), (4, .p 0 0), (9, .v (.slice a14 m12.length c15)), (10, I z)] ?_ rfl ?_
     · as_aux_lemma => kernel_rfl
     refine ENDOPS (OUTN (NEXT (REGION [0, 1, 2] rfl (RUN0 3 [] [(1, .v (.slice list_a list.length list_c)), (2, I cabin), (3, I now), (4, .p 0 0), (9, .v (.slice a14 m12.length c15)), (10, I (wr (z - 1)))] ?_ rfl ?_))))
     · as_aux_lemma => kernel_rfl
     refine ENDOPS (BACK (wr (z - 1), a14, c15, m12) [1, 2, 3, 4, 9, 10] 1 [1] _ ⟨by dsimp only; omega, by dsimp only; omega, by dsimp only; omega⟩ (by dsimp only; omega) ?_ rfl rfl rfl)
     · as_aux_lemma => kernel_rfl
    ·
     have h10 := bh10
     have h10 := ne_of_beq_false h10
     refine SKIP (OUTN (NEXT (REGION [0, 1, 2] rfl (RUN0 3 [] [(1, .v (.slice list_a list.length list_c)), (2, I cabin), (3, I now), (4, .p 0 0), (9, .v (.slice oa out.length oc)), (10, I (wr (z - 1)))] ?_ rfl ?_))))
     · as_aux_lemma => kernel_rfl
     refine ENDOPS (BACK (wr (z - 1), oa, oc, out) [1, 2, 3, 4, 9, 10] 1 [0] _ ⟨by dsimp only; omega, by dsimp only; omega, by dsimp only; omega⟩ (by dsimp only; omega) ?_ rfl rfl rfl)
     · as_aux_lemma => kernel_rfl
   ·
    have h9 := bh9
    refine RUN0 8 [] [(1, .v (.slice list_a list.length list_c)), (2, I cabin), (3, I now), (4, .p 0 0), (9, .v (.slice oa out.length oc)), (10, I z), (11, .p 1 0), (40, B false)] ?_ rfl ?_
    · as_aux_lemma => kernel_rfl
    refine ENDOPS (NEXT (IFF ?_ ?_))
    · as_aux_lemma => kernel_rfl
    refine SKIP (OUTN (NEXT (REGION [0, 1, 2] rfl (RUN0 3 [] [(1, .v (.slice list_a list.length list_c)), (2, I cabin), (3, I now), (4, .p 0 0), (9, .v (.slice oa out.length oc)), (10, I (wr (z - 1)))] ?_ rfl ?_))))
    · as_aux_lemma => kernel_rfl
    refine ENDOPS (BACK (wr (z - 1), oa, oc, out) [1, 2, 3, 4, 9, 10] 1 [0] _ ⟨by dsimp only; omega, by dsimp only; omega, by dsimp only; omega⟩ (by dsimp only; omega) ?_ rfl rfl rfl)
    · as_aux_lemma => kernel_rfl
  ·
   refine RUNO [(1, .v (.slice list_a list.length list_c)), (2, I cabin), (3, I now), (4, .e (some ⟨b4, 0, none⟩) 0 0), (9, .v (.slice oa out.length oc)), (10, I z), (11, .p 0 0), (22, .v (.agg #[.slice r_seats_a r.seats.length r_seats_c, vi r.tiers, vi r.room, vi r.size, vi r.period, vi r.window, vi r.rest, vi r.tries, vi r.crew])), (26, .v (.agg #[vi x5.id, vi x5.cabin, vi x5.from', vi x5.size, vi x5.tier, vi x5.since, vi x5.turn, vi x5.state, vi x5.until', vi x5.asked])), (27, I now)] [(129, [vi 0, vi 0, vi 0, vi 0])] ?_ ?_
   · as_aux_lemma => kernel_rfl
   refine HKEEP (js := [0, 0]) rfl (HALL [6] ?_ (by decide) ?_)
   · as_aux_lemma => kernel_rfl
   refine CALL 87 #[.agg #[.slice r_seats_a r.seats.length r_seats_c, vi r.tiers, vi r.room, vi r.size, vi r.period, vi r.window, vi r.rest, vi r.tries, vi r.crew], .agg #[vi x5.id, vi x5.cabin, vi x5.from', vi x5.size, vi x5.tier, vi x5.since, vi x5.turn, vi x5.state, vi x5.until', vi x5.asked], vi now] (some 28) ?_ [] [] _ rfl (⟨{x : Entry × Bool // True}, fun q => .tuple #[.agg #[vi q.1.1.level, vi q.1.1.turn, vi q.1.1.id, vi q.1.1.size], .bool q.1.2], fun q => []⟩) (fun w hw => entryOf_c w r r_seats_a r_seats_c (hr_seats.fr hw.fr) x5 now) (NO rfl) ?_
   · as_aux_lemma => kernel_rfl
   rintro ⟨m16, hm17⟩
   try dsimp only at hm17
   refine HKEEP (js := [0, 0]) rfl (HPURE (js := [0, 0]) 7 [(1, .v (.slice list_a list.length list_c)), (2, I cabin), (3, I now), (4, .e (some ⟨b4, 0, none⟩) 0 0), (9, .v (.slice oa out.length oc)), (10, I z), (11, .p 0 0), (21, .v (.tuple #[.agg #[vi m16.1.level, vi m16.1.turn, vi m16.1.id, vi m16.1.size], .bool m16.2]))] ?_ ?_ rfl ?_)
   iterate 2 (as_aux_lemma => kernel_rfl)
   refine HPURE (js := [0, 0]) 8 [(1, .v (.slice list_a list.length list_c)), (2, I cabin), (3, I now), (4, .e (some ⟨b4, 0, none⟩) 0 0), (9, .v (.slice oa out.length oc)), (10, I z), (11, .p 0 0), (21, .v (.tuple #[.agg #[vi m16.1.level, vi m16.1.turn, vi m16.1.id, vi m16.1.size], .bool m16.2])), (29, .v (.agg #[vi m16.1.level, vi m16.1.turn, vi m16.1.id, vi m16.1.size]))] ?_ ?_ rfl ?_
   iterate 2 (as_aux_lemma => kernel_rfl)
   refine HPURE (js := [0, 0]) 9 [(1, .v (.slice list_a list.length list_c)), (2, I cabin), (3, I now), (4, .e (some ⟨b4, 0, none⟩) 0 0), (9, .v (.slice oa out.length oc)), (10, I z), (11, .p 0 0), (29, .v (.agg #[vi m16.1.level, vi m16.1.turn, vi m16.1.id, vi m16.1.size])), (30, B m16.2)] ?_ ?_ rfl ?_
   iterate 2 (as_aux_lemma => kernel_rfl)
   refine HALL [11] ?_ (by decide) ?_
   · as_aux_lemma => kernel_rfl
   refine RUNO [(1, .v (.slice list_a list.length list_c)), (2, I cabin), (3, I now), (4, .e (some ⟨b4, 0, none⟩) 0 0), (9, .v (.slice oa out.length oc)), (10, I z), (11, .p 0 0), (30, B m16.2)] [(129, [vi m16.1.level, vi m16.1.turn, vi m16.1.id, vi m16.1.size])] ?_ ?_
   · as_aux_lemma => kernel_rfl
   refine HKEEP (js := [0, 0]) rfl (HPURE (js := [0, 0]) 12 [(1, .v (.slice list_a list.length list_c)), (2, I cabin), (3, I now), (4, .e (some ⟨b4, 0, none⟩) 0 0), (9, .v (.slice oa out.length oc)), (10, I z), (11, .p 0 0), (12, B m16.2)] ?_ ?_ rfl ?_)
   iterate 2 (as_aux_lemma => kernel_rfl)
   refine HEND ?_ ?_
   · as_aux_lemma => kernel_rfl
   refine IMPORT (L0 := [(51, [.slice r_seats_a r.seats.length r_seats_c, vi r.tiers, vi r.room, vi r.size, vi r.period, vi r.window, vi r.rest, vi r.tries, vi r.crew])]) (L1 := [(129, [vi m16.1.level, vi m16.1.turn, vi m16.1.id, vi m16.1.size])]) [b4] rfl [0] _ rfl [(1, .v (.slice list_a list.length list_c)), (2, I cabin), (3, I now), (4, .p 0 0), (9, .v (.slice oa out.length oc)), (10, I z), (11, .p 1 0), (12, B m16.2)] ?_ ?_ ?_
   iterate 2 (as_aux_lemma => kernel_rfl)
   refine NEXT (SEQ (REGION [0, 1, 2, 3, 4, 5, 6, 7, 8, 9] rfl (RUN0 2 [2, 3, 4, 5, 6, 7, 8, 9] [(1, .v (.slice list_a list.length list_c)), (2, I cabin), (3, I now), (4, .p 0 0), (9, .v (.slice oa out.length oc)), (10, I z), (11, .p 1 0), (32, B m16.2)] ?_ rfl ?_)))
   · as_aux_lemma => kernel_rfl
   refine SPLIT (d := 32) (m16.2) ?_ (fun bh18 => ?_) (fun bh18 => ?_)
   · as_aux_lemma => kernel_rfl
   ·
    have h18 := bh18
    refine RUN0 2 [4, 5, 6, 7, 8, 9] [(1, .v (.slice list_a list.length list_c)), (2, I cabin), (3, I now), (4, .p 0 0), (9, .v (.slice oa out.length oc)), (10, I z), (11, .p 1 0), (32, B true), (33, .v (.slice list_a list.length list_c)), (34, I z)] ?_ rfl ?_
    · as_aux_lemma => kernel_rfl
    refine OPC (INDEX 52 (.tmp 33) (.tmp 34) 35 0 ?_ (NL rfl) list_a list.length list_c .i64 z 80 10 ?_ ?_ ?_ ?_ (Rd.some hlist (by omega)) (by omega) (by omega) ?_)
    iterate 5 (as_aux_lemma => kernel_rfl)
    refine RUN0 1 [6, 7, 8, 9] [(1, .v (.slice list_a list.length list_c)), (2, I cabin), (3, I now), (4, .p 0 0), (9, .v (.slice oa out.length oc)), (10, I z), (11, .p 1 0), (32, B true), (36, .e list_a (z.toNat * 10) 1)] ?_ rfl ?_
    · as_aux_lemma => kernel_rfl
    refine OPC (LOADE 3 (.tmp 36) 37 3 ?_ (NL rfl) list_a (z.toNat * 10) 1 [vi x5.id, vi x5.cabin, vi x5.from', vi x5.size, vi x5.tier, vi x5.since, vi x5.turn, vi x5.state, vi x5.until', vi x5.asked] (vi x5.cabin) ?_ (fun w hw => (hlist.fr hw.fr).flat hx6) ?_ ?_)
    iterate 3 (as_aux_lemma => kernel_rfl)
    refine RUN0 3 [] [(1, .v (.slice list_a list.length list_c)), (2, I cabin), (3, I now), (4, .p 0 0), (9, .v (.slice oa out.length oc)), (10, I z), (11, .p 1 0), (40, B (x5.cabin == cabin))] ?_ rfl ?_
    · as_aux_lemma => kernel_rfl
    refine ENDOPS (NEXT (IF (x5.cabin == cabin) ?_ (fun bh19 => ?_) (fun bh19 => ?_)))
    · as_aux_lemma => kernel_rfl
    ·
     have h19 := bh19
     have h19 := eq_of_beq h19
     refine REGION [0, 1, 2, 3] rfl (RUN0 2 [2, 3] [(1, .v (.slice list_a list.length list_c)), (2, I cabin), (3, I now), (4, .p 0 0), (10, I z), (41, .v (.slice oa out.length oc)), (42, .v (.agg #[vi m16.1.level, vi m16.1.turn, vi m16.1.id, vi m16.1.size]))] ?_ rfl ?_)
     · as_aux_lemma => kernel_rfl
     refine FACT (out.length ≤ oc) (fun w hw => SlO.capE (hw.own 0 rfl)) (fun hcap20 => ?_)
     refine OPC (CALL 88 #[.slice oa out.length oc, .agg #[vi m16.1.level, vi m16.1.turn, vi m16.1.id, vi m16.1.size]] (some 43) ?_ [] [] _ rfl (⟨{q : (HH) × (List Entry) // (fun x : List Entry => x.length = out.length + 1) q.2}, fun q => .slice q.1.1.1 q.1.2.length q.1.1.2, fun q => [slA 129 entryL (.slice q.1.1.1 q.1.2.length q.1.1.2) q.1.2]⟩) (fun w hw => l7Put_c w out oa oc (hw.rdO 0 rfl) m16.1 (by first | assumption | omega | (dsimp only; omega) | (simp only [List.length_append, List.length_cons, List.length_nil] at *; omega)) (by first | assumption | omega | (dsimp only; omega) | (simp only [List.length_append, List.length_cons, List.length_nil] at *; omega))) (NO rfl) ?_)
     · as_aux_lemma => kernel_rfl
     rintro ⟨⟨⟨a23, c24⟩, m21⟩, hm22⟩
     try dsimp only at hm22
     refine RUN0 1 [] [(1, .v (.slice list_a list.length list_c)), (2, I cabin), (3, I now), (4, .p 0 0), (9, .v (.slice a23 m21.length c24)), (10, I z)] ?_ rfl ?_
     · as_aux_lemma => kernel_rfl
     refine ENDOPS (OUTN (NEXT (REGION [0, 1, 2] rfl (RUN0 3 [] [(1, .v (.slice list_a list.length list_c)), (2, I cabin), (3, I now), (4, .p 0 0), (9, .v (.slice a23 m21.length c24)), (10, I (wr (z - 1)))] ?_ rfl ?_))))
     · as_aux_lemma => kernel_rfl
     refine ENDOPS (BACK (wr (z - 1), a23, c24, m21) [1, 2, 3, 4, 9, 10] 1 [1] _ ⟨by dsimp only; omega, by dsimp only; omega, by dsimp only; omega⟩ (by dsimp only; omega) ?_ rfl rfl rfl)
     · as_aux_lemma => kernel_rfl
    ·
     have h19 := bh19
     have h19 := ne_of_beq_false h19
     refine SKIP (OUTN (NEXT (REGION [0, 1, 2] rfl (RUN0 3 [] [(1, .v (.slice list_a list.length list_c)), (2, I cabin), (3, I now), (4, .p 0 0), (9, .v (.slice oa out.length oc)), (10, I (wr (z - 1)))] ?_ rfl ?_))))
     · as_aux_lemma => kernel_rfl
     refine ENDOPS (BACK (wr (z - 1), oa, oc, out) [1, 2, 3, 4, 9, 10] 1 [0] _ ⟨by dsimp only; omega, by dsimp only; omega, by dsimp only; omega⟩ (by dsimp only; omega) ?_ rfl rfl rfl)
     · as_aux_lemma => kernel_rfl
   ·
    have h18 := bh18
    refine RUN0 8 [] [(1, .v (.slice list_a list.length list_c)), (2, I cabin), (3, I now), (4, .p 0 0), (9, .v (.slice oa out.length oc)), (10, I z), (11, .p 1 0), (40, B false)] ?_ rfl ?_
    · as_aux_lemma => kernel_rfl
    refine ENDOPS (NEXT (IFF ?_ ?_))
    · as_aux_lemma => kernel_rfl
    refine SKIP (OUTN (NEXT (REGION [0, 1, 2] rfl (RUN0 3 [] [(1, .v (.slice list_a list.length list_c)), (2, I cabin), (3, I now), (4, .p 0 0), (9, .v (.slice oa out.length oc)), (10, I (wr (z - 1)))] ?_ rfl ?_))))
    · as_aux_lemma => kernel_rfl
    refine ENDOPS (BACK (wr (z - 1), oa, oc, out) [1, 2, 3, 4, 9, 10] 1 [0] _ ⟨by dsimp only; omega, by dsimp only; omega, by dsimp only; omega⟩ (by dsimp only; omega) ?_ rfl rfl rfl)
    · as_aux_lemma => kernel_rfl
 ·
  have h3 := bh3
  have h3 := of_decide_eq_false h3
  refine EXIT (PASS trivial (PASS trivial (OUT (NEXT (SEQ (REGION [0, 1] rfl (RUN0 2 [] [(8, .v (.slice oa out.length oc))] ?_ rfl ?_)))))))
  · as_aux_lemma => kernel_rfl
  refine ENDOPS (NEXT (RET (FIN (.slice oa out.length oc) ?_ ⟨((oa, oc), out), (by first | omega | (dsimp only; omega))⟩ ?_ [0] ?_)))
  · as_aux_lemma => kernel_rfl
  · rfl
  · rfl

end SX
end Go.Proofs.YtpdijcbgdalphabGreatDoor
