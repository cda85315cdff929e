/- Walks, printed by program. -/
import Derived.Test.YtpdijcbgdalphabGreatDoorE1
namespace Go.Proofs.YtpdijcbgdalphabGreatDoor
namespace SX
open Go Go.RowKit
set_option linter.unusedVariables false
set_option linter.unusedSimpArgs false
set_option maxRecDepth 10000
set_option maxHeartbeats 400000
theorem l9Put_c (W : World) (list : List Pin) (list_a : Option Addr) (list_c : Nat) (hlist : Rd pinL W list_a list) (pn : Pin) (hcap : list.length ≤ list_c) (hb : list.length ≤ 4194304) : Spec Tryz.prog W [] 84 #[.slice list_a list.length list_c, .agg #[vi pn.at', vi pn.id]] (⟨{q : (HH) × (List Pin) // (fun x : List Pin => x.length = list.length + 1) q.2}, fun q => .slice q.1.1.1 q.1.2.length q.1.1.2, fun q => [slA 111 pinL (.slice q.1.1.1 q.1.2.length q.1.1.2) q.1.2]⟩) := by
 refine ENTER0 (N := 35) (vs := [.slice list_a list.length list_c, .agg #[vi pn.at', vi pn.id]]) Tryz.func84 rfl rfl (NL rfl) ?_
 have hlist_len := hlist.len
 refine SEQ (REGION [0, 1] rfl (RUN 2 [] [(0, .v (.slice list_a list.length list_c)), (3, .p 0 0)] [(111, [vi pn.at', vi pn.id])] ?_ rfl ?_))
 · as_aux_lemma => kernel_rfl
 refine ENDOPS (NEXT (SEQ (REGION [0] rfl (RUN0 1 [] [(0, .v (.slice list_a list.length list_c)), (3, .p 0 0), (5, I 0)] ?_ rfl ?_))))
 · as_aux_lemma => kernel_rfl
 refine ENDOPS (NEXT (SEQJ (ι := Nat) (fun j => [(0, .v (.slice list_a list.length list_c)), (3, .p 0 0), (5, I (j : Int))]) (fun j => [(111, [vi pn.at', vi pn.id])]) (fun j => []) (fun j => j ≤ list.length) ?_ ?_))
 ·
  refine BLOCK (LOOP (ι := Nat) (fun j => [(0, .v (.slice list_a list.length list_c)), (3, .p 0 0), (5, I (j : Int))]) (fun j => [(111, [vi pn.at', vi pn.id])]) (fun j => []) (fun j => j ≤ list.length) (fun j => list.length - j) (0) [0, 3, 5] (by first | omega | (dsimp only; omega)) ?_ rfl rfl ?_)
  · as_aux_lemma => kernel_rfl
  rintro k hk
  try dsimp only at hk
  refine SEQ (SEQ (REGIONQ ?_ ?_ ?_))
  iterate 2 (as_aux_lemma => kernel_rfl)
  refine QRUN 5 0 5 [(0, .v (.slice list_a list.length list_c)), (3, .p 0 0), (5, I (k : Int)), (11, B (decide ((k : Int) < (list.length : Int))))] ?_ rfl ?_
  · as_aux_lemma => kernel_rfl
  refine QSPLIT (d := 11) (decide ((k : Int) < (list.length : Int))) ?_ (fun bh1 => ?_) (fun bh1 => ?_)
  · as_aux_lemma => kernel_rfl
  ·
   have h1 := bh1
   have h1 := of_decide_eq_true h1
   refine QRUN 2 5 7 [(0, .v (.slice list_a list.length list_c)), (3, .p 0 0), (5, I (k : Int)), (11, B true), (12, .v (.slice list_a list.length list_c)), (13, I (k : Int))] ?_ rfl ?_
   · as_aux_lemma => kernel_rfl
   obtain ⟨x2, hx3⟩ : ∃ y, list[k]? = some y := ⟨_, List.getElem?_eq_getElem (by omega)⟩
   refine QINDEX 106 (.tmp 12) (.tmp 13) 14 0 ?_ (NL rfl) list_a list.length list_c .i64 (k : Int) 111 2 ?_ ?_ ?_ ?_ (Rd.some hlist (by omega)) (by omega) (by omega) ?_
   iterate 5 (as_aux_lemma => kernel_rfl)
   refine QLOADE 111 (.tmp 14) 15 111 ?_ (NL rfl) list_a (k * 2) 0 [vi x2.at', vi x2.id] (.agg #[vi x2.at', vi x2.id]) ?_ (fun w hw => (hlist.fr hw.fr).flat hx3) ?_ ?_
   iterate 3 (as_aux_lemma => kernel_rfl)
   refine QRUN 1 9 10 [(0, .v (.slice list_a list.length list_c)), (3, .p 0 0), (5, I (k : Int)), (11, B true), (15, .v (.agg #[vi x2.at', vi x2.id])), (16, .v (.agg #[vi pn.at', vi pn.id]))] ?_ rfl ?_
   · as_aux_lemma => kernel_rfl
   refine QCALL 99 #[.agg #[vi x2.at', vi x2.id], .agg #[vi pn.at', vi pn.id]] (some 17) ?_ (.bool (pinLess x2 pn)) (fun w hw => l9Less_c w x2 pn) (NO rfl) ?_
   · as_aux_lemma => kernel_rfl
   refine QRUN 1 11 12 [(0, .v (.slice list_a list.length list_c)), (3, .p 0 0), (5, I (k : Int)), (18, B (pinLess x2 pn))] ?_ rfl ?_
   · as_aux_lemma => kernel_rfl
   refine QEND rfl (NEXT (IF (pinLess x2 pn) ?_ (fun bh4 => ?_) (fun bh4 => ?_)))
   · as_aux_lemma => kernel_rfl
   ·
    have h4 := bh4
    refine SKIP (NEXT (BLOCK (REGION [0, 1, 2] rfl (RUN0 2 [2] [(0, .v (.slice list_a list.length list_c)), (3, .p 0 0), (20, I (wr ((k : Int) + 1)))] ?_ rfl ?_))))
    · as_aux_lemma => kernel_rfl
    refine CAST (d := 20) (vi (wr ((k : Int) + 1))) (vi ((k + 1 : Nat) : Int)) ?_ (vi_cast (by omega) (by omega)) ?_
    · as_aux_lemma => kernel_rfl
    refine RUN0 1 [] [(0, .v (.slice list_a list.length list_c)), (3, .p 0 0), (5, I ((k + 1 : Nat) : Int))] ?_ rfl ?_
    · as_aux_lemma => kernel_rfl
    refine ENDOPS (OUTN (BACK (k + 1) [0, 3, 5] 1 [] _ (by first | omega | (dsimp only; omega)) (by first | omega | (dsimp only; omega)) ?_ rfl rfl rfl))
    · as_aux_lemma => kernel_rfl
   ·
    have h4 := bh4
    refine EXIT (PASS trivial (PASS trivial (OUT (JBACK (k) [0, 3, 5] 1 [] _ (by first | omega | (dsimp only; omega) | (simp only [List.length_append, List.length_cons, List.length_nil, List.length_take]; omega)) ?_ rfl rfl rfl))))
    · as_aux_lemma => kernel_rfl
  ·
   have h1 := bh1
   have h1 := of_decide_eq_false h1
   refine QRUN 7 5 12 [(0, .v (.slice list_a list.length list_c)), (3, .p 0 0), (5, I (k : Int)), (18, B false)] ?_ rfl ?_
   · as_aux_lemma => kernel_rfl
   refine QEND rfl (NEXT (IFF ?_ ?_))
   · as_aux_lemma => kernel_rfl
   refine EXIT (PASS trivial (PASS trivial (OUT (JBACK (k) [0, 3, 5] 1 [] _ (by first | omega | (dsimp only; omega) | (simp only [List.length_append, List.length_cons, List.length_nil, List.length_take]; omega)) ?_ rfl rfl rfl))))
   · as_aux_lemma => kernel_rfl
 rintro kk hi5
 try dsimp only at hi5
 refine SEQ (REGION [0, 1, 2, 3, 4, 5] rfl (OPC (BUILDS 106 0 #[] 21 106 ?_ (NL rfl) 111 [] ?_ pinL [] rfl (by simp only [maxLen]; omega) [] [] _ rfl (flatRep rfl) (fun a6 ha7 => ?_))))
 iterate 2 (as_aux_lemma => kernel_rfl)
 refine RUN0 2 [3, 4, 5] [(0, .v (.slice list_a list.length list_c)), (3, .p 0 0), (5, I (kk : Int)), (21, .v (.slice a6 0 0)), (22, .v (.slice list_a list.length list_c)), (23, I (kk : Int))] ?_ rfl ?_
 · as_aux_lemma => kernel_rfl
 refine OPC (CUTH 106 (.tmp 22) (.tmp 23) 24 106 ?_ (NL rfl) list_a list.length list_c .i64 (kk : Int) ?_ ?_ 111 pinL list ?_ ?_ (by omega) (by first | omega | (simp only [List.length_append, List.length_cons, List.length_nil, List.length_take, List.length_drop] at *; omega)) rfl (by omega) (fun a8 hsh9 => ?_))
 iterate 5 (as_aux_lemma => kernel_rfl)
 have hsh9 : ∀ w, Rd pinL w list_a list → Rd pinL w a8 (list.take kk) := hsh9
 have hln10 : (list.take kk).length = kk := by first | (simp; done) | (simp; omega)
 refine CAST (d := 24) (.slice a8 kk list_c) (.slice a8 ((list.take kk).length) list_c) ?_ (by rw [hln10]) ?_
 · as_aux_lemma => kernel_rfl
 refine OPC (APPENDR 106 (.tmp 21) (.tmp 24) 25 106 ?_ (NL rfl) (.slice a6 0 0) a8 ((list.take kk).length) list_c ?_ ?_ 111 ?_ (.agg #[vi 0, vi 0]) 16 ?_ rfl (by decide) 0 ([]) (list.take kk) _ rfl rfl (fun w hw => (hsh9 _ (hlist.fr hw.fr))) (by first | omega | (simp only [List.length_append, List.length_cons, List.length_nil, List.length_take, List.length_drop] at *; omega)) (by simp only [maxLen]; first | omega | (simp only [List.length_append, List.length_cons, List.length_nil, List.length_take, List.length_drop] at *; omega)) (fun a11 c12 hn13 => ?_))
 iterate 5 (as_aux_lemma => kernel_rfl)
 refine RUN0 1 [] [(0, .v (.slice list_a list.length list_c)), (3, .p 0 0), (5, I (kk : Int)), (6, .v (.slice a11 ((([]) ++ (list.take kk)).length) c12))] ?_ rfl ?_
 · as_aux_lemma => kernel_rfl
 refine ENDOPS (NEXT (SEQ (REGION [0, 1, 2, 3, 4] rfl (RUN0 2 [2, 3, 4] [(0, .v (.slice list_a list.length list_c)), (5, I (kk : Int)), (26, .v (.slice a11 ((([]) ++ (list.take kk)).length) c12)), (27, .v (.agg #[vi pn.at', vi pn.id]))] ?_ rfl ?_))))
 · as_aux_lemma => kernel_rfl
 refine OPC (BUILDS 106 1 #[(0, .tmp 27)] 28 106 ?_ (NL rfl) 111 [vi pn.at', vi pn.id] ?_ pinL [pn] rfl (by simp only [maxLen]; omega) [] [] _ rfl (flatRep rfl) (fun a14 ha15 => ?_))
 iterate 2 (as_aux_lemma => kernel_rfl)
 refine OPC (APPENDO 106 (.tmp 26) (.tmp 28) 29 106 ?_ (NL rfl) (.slice a11 ((([]) ++ (list.take kk)).length) c12) a14 1 1 ?_ ?_ ha15 111 ?_ pinL (.agg #[vi 0, vi 0]) 16 ?_ rfl (by decide) 0 0 (([]) ++ (list.take kk)) ([pn]) _ rfl rfl (by first | omega | (simp only [List.length_append, List.length_cons, List.length_nil, List.length_take, List.length_drop] at *; omega)) (by simp only [maxLen]; first | omega | (simp only [List.length_append, List.length_cons, List.length_nil, List.length_take, List.length_drop] at *; omega)) (fun a16 c17 hn18 => ?_))
 iterate 5 (as_aux_lemma => kernel_rfl)
 refine RUN0 1 [] [(0, .v (.slice list_a list.length list_c)), (5, I (kk : Int)), (6, .v (.slice a16 (((([]) ++ (list.take kk)) ++ ([pn])).length) c17))] ?_ rfl ?_
 · as_aux_lemma => kernel_rfl
 refine ENDOPS (NEXT (SEQ (REGION [0, 1, 2, 3, 4, 5] rfl (RUN0 3 [3, 4, 5] [(30, .v (.slice a16 (((([]) ++ (list.take kk)) ++ ([pn])).length) c17)), (31, .v (.slice list_a list.length list_c)), (32, I (kk : Int))] ?_ rfl ?_))))
 · as_aux_lemma => kernel_rfl
 refine OPC (CUTL 106 (.tmp 31) (.tmp 32) 33 106 ?_ (NL rfl) list_a list.length list_c .i64 (kk : Int) ?_ ?_ 111 pinL list ?_ ?_ (by omega) (by first | omega | (simp only [List.length_append, List.length_cons, List.length_nil, List.length_take, List.length_drop] at *; omega)) rfl (by omega) (fun a19 hsh20 => ?_))
 iterate 5 (as_aux_lemma => kernel_rfl)
 have hsh20 : ∀ w, Rd pinL w list_a list → Rd pinL w a19 (list.drop kk) := hsh20
 have hln21 : (list.drop kk).length = list.length - kk := by first | (simp; done) | (simp; omega)
 refine CAST (d := 33) (.slice a19 (list.length - kk) (list_c - kk)) (.slice a19 ((list.drop kk).length) (list_c - kk)) ?_ (by rw [hln21]) ?_
 · as_aux_lemma => kernel_rfl
 refine OPC (APPENDR 106 (.tmp 30) (.tmp 33) 34 106 ?_ (NL rfl) (.slice a16 (((([]) ++ (list.take kk)) ++ ([pn])).length) c17) a19 ((list.drop kk).length) (list_c - kk) ?_ ?_ 111 ?_ (.agg #[vi 0, vi 0]) 16 ?_ rfl (by decide) 0 ((([]) ++ (list.take kk)) ++ ([pn])) (list.drop kk) _ rfl rfl (fun w hw => (hsh20 _ (hlist.fr hw.fr))) (by first | omega | (simp only [List.length_append, List.length_cons, List.length_nil, List.length_take, List.length_drop] at *; omega)) (by simp only [maxLen]; first | omega | (simp only [List.length_append, List.length_cons, List.length_nil, List.length_take, List.length_drop] at *; omega)) (fun a22 c23 hn24 => ?_))
 iterate 5 (as_aux_lemma => kernel_rfl)
 refine RUN0 1 [] [(4, .v (.slice a22 ((((([]) ++ (list.take kk)) ++ ([pn])) ++ (list.drop kk)).length) c23))] ?_ rfl ?_
 · as_aux_lemma => kernel_rfl
 refine ENDOPS (NEXT (RET (FIN (.slice a22 ((((([]) ++ (list.take kk)) ++ ([pn])) ++ (list.drop kk)).length) c23) ?_ ⟨((a22, c23), ((([]) ++ (list.take kk)) ++ ([pn])) ++ (list.drop kk)), (by first | omega | (simp only [List.length_append, List.length_cons, List.length_nil, List.length_take, List.length_drop]; omega) | (dsimp only; omega))⟩ ?_ [0] ?_)))
 · as_aux_lemma => kernel_rfl
 · rfl
 · rfl

theorem pinsIn_c (W : World) (list : List Party) (list_a : Option Addr) (list_c : Nat) (hlist : Rd partyL W list_a list) (cabin : Int) (hb : list.length ≤ 1048576) : Spec Tryz.prog W [] 72 #[.slice list_a list.length list_c, vi cabin] (⟨{q : (HH) × (List Pin) // (fun x : List Pin => x.length ≤ list.length) q.2}, fun q => .slice q.1.1.1 q.1.2.length q.1.1.2, fun q => [slA 111 pinL (.slice q.1.1.1 q.1.2.length q.1.1.2) q.1.2]⟩) := by
 refine ENTER0 (N := 43) (vs := [.slice list_a list.length list_c, vi cabin]) Tryz.func72 rfl rfl (NL rfl) ?_
 have hlist_len := hlist.len
 refine SEQ (REGION [0] rfl (RUN0 1 [] [(0, .v (.slice list_a list.length list_c)), (1, I cabin)] ?_ rfl ?_))
 · as_aux_lemma => kernel_rfl
 refine ENDOPS (NEXT (SEQ (REGION [0, 1] rfl (OPC (BUILDS 106 0 #[] 7 106 ?_ (NL rfl) 111 [] ?_ pinL [] rfl (by simp only [maxLen]; omega) [] [] _ rfl (flatRep rfl) (fun a1 ha2 => ?_))))))
 iterate 2 (as_aux_lemma => kernel_rfl)
 refine RUN0 1 [] [(0, .v (.slice list_a list.length list_c)), (1, I cabin), (5, .v (.slice a1 0 0))] ?_ rfl ?_
 · as_aux_lemma => kernel_rfl
 refine ENDOPS (NEXT (SEQ (SEQ (REGION [0] rfl (RUN0 1 [] [(0, .v (.slice list_a list.length list_c)), (1, I cabin), (5, .v (.slice a1 0 0)), (6, I 0)] ?_ rfl ?_)))))
 · as_aux_lemma => kernel_rfl
 refine ENDOPS (NEXT (BLOCK (LOOP (ι := Nat × (List Party) × (Option Addr) × Nat × (List Pin)) (fun j => [(0, .v (.slice list_a list.length list_c)), (1, I cabin), (5, .v (.slice j.2.2.1 j.2.2.2.2.length j.2.2.2.1)), (6, I (j.1 : Int))]) (fun j => []) (fun j => [slA 111 pinL (.slice j.2.2.1 j.2.2.2.2.length j.2.2.2.1) j.2.2.2.2]) (fun j => j.1 + j.2.1.length = list.length ∧ list.drop j.1 = j.2.1 ∧ j.2.2.2.2.length ≤ j.1) (fun j => j.2.1.length) (0, list, a1, 0, []) [0, 1, 5, 6] ⟨by simp, rfl, by simp⟩ ?_ rfl rfl ?_)))
 · as_aux_lemma => kernel_rfl
 rintro ⟨k, ys, oa, oc, out⟩ ⟨hk, hd, hv0⟩
 try dsimp only at hk hd hv0
 refine SEQ (SEQ (REGION [0, 1, 2, 3] rfl (RUN0 4 [] [(0, .v (.slice list_a list.length list_c)), (1, I cabin), (5, .v (.slice oa out.length oc)), (6, I (k : Int)), (11, B (decide ((k : Int) < (list.length : Int))))] ?_ rfl ?_)))
 · as_aux_lemma => kernel_rfl
 refine ENDOPS (NEXT (IF (decide ((k : Int) < (list.length : Int))) ?_ (fun bh3 => ?_) (fun bh3 => ?_)))
 · as_aux_lemma => kernel_rfl
 ·
  have h3 := bh3
  have h3 := of_decide_eq_true h3
  obtain ⟨y4, ys5, rfl, hx_y4, hd_y4, hl_y4⟩ := drop_cons hd hk (by omega)
  refine SKIP (NEXT (SEQ (BLOCK (SEQ (REGION [0, 1, 2, 3, 4, 5, 6, 7, 8, 9, 10, 11, 12, 13, 14] rfl (RUN0 2 [2, 3, 4, 5, 6, 7, 8, 9, 10, 11, 12, 13, 14] [(0, .v (.slice list_a list.length list_c)), (1, I cabin), (5, .v (.slice oa out.length oc)), (6, I (k : Int)), (14, .v (.slice list_a list.length list_c)), (15, I (k : Int))] ?_ rfl ?_))))))
  · as_aux_lemma => kernel_rfl
  refine OPC (INDEX 52 (.tmp 14) (.tmp 15) 16 0 ?_ (NL rfl) list_a list.length list_c .i64 (k : Int) 80 10 ?_ ?_ ?_ ?_ (Rd.some hlist (by omega)) (by omega) (by omega) ?_)
  iterate 5 (as_aux_lemma => kernel_rfl)
  refine RUN0 1 [4, 5, 6, 7, 8, 9, 10, 11, 12, 13, 14] [(0, .v (.slice list_a list.length list_c)), (1, I cabin), (5, .v (.slice oa out.length oc)), (6, I (k : Int)), (17, .e list_a (k * 10) 7)] ?_ rfl ?_
  · as_aux_lemma => kernel_rfl
  refine OPC (LOADE 3 (.tmp 17) 18 3 ?_ (NL rfl) list_a (k * 10) 7 [vi y4.id, vi y4.cabin, vi y4.from', vi y4.size, vi y4.tier, vi y4.since, vi y4.turn, vi y4.state, vi y4.until', vi y4.asked] (vi y4.state) ?_ (fun w hw => (hlist.fr hw.fr).flat hx_y4) ?_ ?_)
  iterate 3 (as_aux_lemma => kernel_rfl)
  refine RUN0 2 [7, 8, 9, 10, 11, 12, 13, 14] [(0, .v (.slice list_a list.length list_c)), (1, I cabin), (5, .v (.slice oa out.length oc)), (6, I (k : Int)), (20, B (y4.state == 2))] ?_ rfl ?_
  · as_aux_lemma => kernel_rfl
  refine SPLIT (d := 20) (y4.state == 2) ?_ (fun bh6 => ?_) (fun bh6 => ?_)
  · as_aux_lemma => kernel_rfl
  ·
   have h6 := bh6
   have h6 := eq_of_beq h6
   refine RUN0 2 [9, 10, 11, 12, 13, 14] [(0, .v (.slice list_a list.length list_c)), (1, I cabin), (5, .v (.slice oa out.length oc)), (6, I (k : Int)), (20, B true), (21, .v (.slice list_a list.length list_c)), (22, I (k : Int))] ?_ rfl ?_
   · as_aux_lemma => kernel_rfl
   refine OPC (INDEX 52 (.tmp 21) (.tmp 22) 23 0 ?_ (NL rfl) list_a list.length list_c .i64 (k : Int) 80 10 ?_ ?_ ?_ ?_ (Rd.some hlist (by omega)) (by omega) (by omega) ?_)
   iterate 5 (as_aux_lemma => kernel_rfl)
   refine RUN0 1 [11, 12, 13, 14] [(0, .v (.slice list_a list.length list_c)), (1, I cabin), (5, .v (.slice oa out.length oc)), (6, I (k : Int)), (20, B true), (24, .e list_a (k * 10) 1)] ?_ rfl ?_
   · as_aux_lemma => kernel_rfl
   refine OPC (LOADE 3 (.tmp 24) 25 3 ?_ (NL rfl) list_a (k * 10) 1 [vi y4.id, vi y4.cabin, vi y4.from', vi y4.size, vi y4.tier, vi y4.since, vi y4.turn, vi y4.state, vi y4.until', vi y4.asked] (vi y4.cabin) ?_ (fun w hw => (hlist.fr hw.fr).flat hx_y4) ?_ ?_)
   iterate 3 (as_aux_lemma => kernel_rfl)
   refine RUN0 3 [] [(0, .v (.slice list_a list.length list_c)), (1, I cabin), (5, .v (.slice oa out.length oc)), (6, I (k : Int)), (28, B (y4.cabin == cabin))] ?_ rfl ?_
   · as_aux_lemma => kernel_rfl
   refine ENDOPS (NEXT (IF (y4.cabin == cabin) ?_ (fun bh7 => ?_) (fun bh7 => ?_)))
   · as_aux_lemma => kernel_rfl
   ·
    have h7 := bh7
    have h7 := eq_of_beq h7
    refine REGIONH ?_ 14 rfl [slA 111 pinL (.slice oa out.length oc) out] ?_
    · as_aux_lemma => kernel_rfl
    refine HPURE (js := [0]) 0 [(0, .v (.slice list_a list.length list_c)), (1, I cabin), (5, .v (.slice oa out.length oc)), (6, I (k : Int)), (29, .v (.slice oa out.length oc))] ?_ ?_ rfl ?_
    iterate 2 (as_aux_lemma => kernel_rfl)
    refine HPURE (js := [0]) 1 [(0, .v (.slice list_a list.length list_c)), (1, I cabin), (5, .v (.slice oa out.length oc)), (6, I (k : Int)), (29, .v (.slice oa out.length oc)), (30, .v (.slice list_a list.length list_c))] ?_ ?_ rfl ?_
    iterate 2 (as_aux_lemma => kernel_rfl)
    refine HPURE (js := [0]) 2 [(0, .v (.slice list_a list.length list_c)), (1, I cabin), (5, .v (.slice oa out.length oc)), (6, I (k : Int)), (29, .v (.slice oa out.length oc)), (30, .v (.slice list_a list.length list_c)), (31, I (k : Int))] ?_ ?_ rfl ?_
    iterate 2 (as_aux_lemma => kernel_rfl)
    refine HINDEX (i := 3) (js := [0])  52 (.tmp 30) (.tmp 31) 32 0 ?_ (NL rfl) list_a list.length list_c .i64 (k : Int) 80 10 ?_ ?_ ?_ ?_ (Rd.some hlist (by omega)) (by omega) (by omega) ?_ rfl ?_
    iterate 6 (as_aux_lemma => kernel_rfl)
    refine HPURE (js := [0]) 4 [(0, .v (.slice list_a list.length list_c)), (1, I cabin), (5, .v (.slice oa out.length oc)), (6, I (k : Int)), (29, .v (.slice oa out.length oc)), (33, .e list_a (k * 10) 8)] ?_ ?_ rfl ?_
    iterate 2 (as_aux_lemma => kernel_rfl)
    refine HLOADE (i := 5) (js := [0])  3 (.tmp 33) 34 3 ?_ (NL rfl) list_a (k * 10) 8 [vi y4.id, vi y4.cabin, vi y4.from', vi y4.size, vi y4.tier, vi y4.since, vi y4.turn, vi y4.state, vi y4.until', vi y4.asked] (vi y4.until') ?_ (fun w hw => (hlist.fr hw.fr).flat hx_y4) ?_ ?_ rfl ?_
    iterate 4 (as_aux_lemma => kernel_rfl)
    refine HPURE (js := [0]) 6 [(0, .v (.slice list_a list.length list_c)), (1, I cabin), (5, .v (.slice oa out.length oc)), (6, I (k : Int)), (29, .v (.slice oa out.length oc)), (34, I y4.until'), (35, .v (.slice list_a list.length list_c))] ?_ ?_ rfl ?_
    iterate 2 (as_aux_lemma => kernel_rfl)
    refine HPURE (js := [0]) 7 [(0, .v (.slice list_a list.length list_c)), (1, I cabin), (5, .v (.slice oa out.length oc)), (6, I (k : Int)), (29, .v (.slice oa out.length oc)), (34, I y4.until'), (35, .v (.slice list_a list.length list_c)), (36, I (k : Int))] ?_ ?_ rfl ?_
    iterate 2 (as_aux_lemma => kernel_rfl)
    refine HINDEX (i := 8) (js := [0])  52 (.tmp 35) (.tmp 36) 37 0 ?_ (NL rfl) list_a list.length list_c .i64 (k : Int) 80 10 ?_ ?_ ?_ ?_ (Rd.some hlist (by omega)) (by omega) (by omega) ?_ rfl ?_
    iterate 6 (as_aux_lemma => kernel_rfl)
    refine HPURE (js := [0]) 9 [(0, .v (.slice list_a list.length list_c)), (1, I cabin), (5, .v (.slice oa out.length oc)), (6, I (k : Int)), (29, .v (.slice oa out.length oc)), (34, I y4.until'), (38, .e list_a (k * 10) 0)] ?_ ?_ rfl ?_
    iterate 2 (as_aux_lemma => kernel_rfl)
    refine HLOADE (i := 10) (js := [0])  3 (.tmp 38) 39 3 ?_ (NL rfl) list_a (k * 10) 0 [vi y4.id, vi y4.cabin, vi y4.from', vi y4.size, vi y4.tier, vi y4.since, vi y4.turn, vi y4.state, vi y4.until', vi y4.asked] (vi y4.id) ?_ (fun w hw => (hlist.fr hw.fr).flat hx_y4) ?_ ?_ rfl ?_
    iterate 4 (as_aux_lemma => kernel_rfl)
    refine HPURE (js := [0]) 11 [(0, .v (.slice list_a list.length list_c)), (1, I cabin), (5, .v (.slice oa out.length oc)), (6, I (k : Int)), (29, .v (.slice oa out.length oc)), (40, .v (.agg #[vi y4.until', vi y4.id]))] ?_ ?_ rfl ?_
    iterate 2 (as_aux_lemma => kernel_rfl)
    refine HALL [12] ?_ (by decide) ?_
    · as_aux_lemma => kernel_rfl
    refine FACT (out.length ≤ oc) (fun w hw => SlO.capE (hw.own 0 rfl)) (fun hcap8 => ?_)
    refine CALL 84 #[.slice oa out.length oc, .agg #[vi y4.until', vi y4.id]] (some 41) ?_ [] [] _ rfl (⟨{q : (HH) × (List Pin) // (fun x : List Pin => x.length = out.length + 1) q.2}, fun q => .slice q.1.1.1 q.1.2.length q.1.1.2, fun q => [slA 111 pinL (.slice q.1.1.1 q.1.2.length q.1.1.2) q.1.2]⟩) (fun w hw => l9Put_c w out oa oc (hw.rdO 0 rfl) (⟨y4.until', y4.id⟩ : Pin) (by first | assumption | omega | (dsimp only; omega) | (simp only [List.length_append, List.length_cons, List.length_nil] at *; omega)) (by first | assumption | omega | (dsimp only; omega) | (simp only [List.length_append, List.length_cons, List.length_nil] at *; omega))) (NO rfl) ?_
    · as_aux_lemma => kernel_rfl
    rintro ⟨⟨⟨a11, c12⟩, m9⟩, hm10⟩
    try dsimp only at hm10
    skip
    refine HKEEP (js := [0]) rfl (HPURE (js := [0]) 13 [(0, .v (.slice list_a list.length list_c)), (1, I cabin), (5, .v (.slice a11 m9.length c12)), (6, I (k : Int))] ?_ ?_ rfl ?_)
    iterate 2 (as_aux_lemma => kernel_rfl)
    refine HEND ?_ ?_
    · as_aux_lemma => kernel_rfl
    refine OUTN (NEXT (REGION [0, 1, 2] rfl (RUN0 2 [2] [(0, .v (.slice list_a list.length list_c)), (1, I cabin), (5, .v (.slice a11 m9.length c12)), (13, I (wr ((k : Int) + 1)))] ?_ rfl ?_)))
    · as_aux_lemma => kernel_rfl
    refine CAST (d := 13) (vi (wr ((k : Int) + 1))) (vi ((k + 1 : Nat) : Int)) ?_ (vi_cast (by omega) (by omega)) ?_
    · as_aux_lemma => kernel_rfl
    refine RUN0 1 [] [(0, .v (.slice list_a list.length list_c)), (1, I cabin), (5, .v (.slice a11 m9.length c12)), (6, I ((k + 1 : Nat) : Int))] ?_ rfl ?_
    · as_aux_lemma => kernel_rfl
    refine ENDOPS (BACK (k + 1, ys5, a11, c12, m9) [0, 1, 5, 6] 0 [1] _ ⟨hl_y4, hd_y4, (by first | omega | (dsimp only; omega))⟩ (by simp) ?_ rfl rfl rfl)
    · as_aux_lemma => kernel_rfl
   ·
    have h7 := bh7
    have h7 := ne_of_beq_false h7
    refine SKIP (OUTN (NEXT (REGION [0, 1, 2] rfl (RUN0 2 [2] [(0, .v (.slice list_a list.length list_c)), (1, I cabin), (5, .v (.slice oa out.length oc)), (13, I (wr ((k : Int) + 1)))] ?_ rfl ?_))))
    · as_aux_lemma => kernel_rfl
    refine CAST (d := 13) (vi (wr ((k : Int) + 1))) (vi ((k + 1 : Nat) : Int)) ?_ (vi_cast (by omega) (by omega)) ?_
    · as_aux_lemma => kernel_rfl
    refine RUN0 1 [] [(0, .v (.slice list_a list.length list_c)), (1, I cabin), (5, .v (.slice oa out.length oc)), (6, I ((k + 1 : Nat) : Int))] ?_ rfl ?_
    · as_aux_lemma => kernel_rfl
    refine ENDOPS (BACK (k + 1, ys5, oa, oc, out) [0, 1, 5, 6] 0 [0] _ ⟨hl_y4, hd_y4, (by first | omega | (dsimp only; omega))⟩ (by simp) ?_ rfl rfl rfl)
    · as_aux_lemma => kernel_rfl
  ·
   have h6 := bh6
   have h6 := ne_of_beq_false h6
   refine RUN0 8 [] [(0, .v (.slice list_a list.length list_c)), (1, I cabin), (5, .v (.slice oa out.length oc)), (6, I (k : Int)), (28, B false)] ?_ rfl ?_
   · as_aux_lemma => kernel_rfl
   refine ENDOPS (NEXT (IFF ?_ ?_))
   · as_aux_lemma => kernel_rfl
   refine SKIP (OUTN (NEXT (REGION [0, 1, 2] rfl (RUN0 2 [2] [(0, .v (.slice list_a list.length list_c)), (1, I cabin), (5, .v (.slice oa out.length oc)), (13, I (wr ((k : Int) + 1)))] ?_ rfl ?_))))
   · as_aux_lemma => kernel_rfl
   refine CAST (d := 13) (vi (wr ((k : Int) + 1))) (vi ((k + 1 : Nat) : Int)) ?_ (vi_cast (by omega) (by omega)) ?_
   · as_aux_lemma => kernel_rfl
   refine RUN0 1 [] [(0, .v (.slice list_a list.length list_c)), (1, I cabin), (5, .v (.slice oa out.length oc)), (6, I ((k + 1 : Nat) : Int))] ?_ rfl ?_
   · as_aux_lemma => kernel_rfl
   refine ENDOPS (BACK (k + 1, ys5, oa, oc, out) [0, 1, 5, 6] 0 [0] _ ⟨hl_y4, hd_y4, (by first | omega | (dsimp only; omega))⟩ (by simp) ?_ rfl rfl rfl)
   · as_aux_lemma => kernel_rfl
 ·
  have h3 := bh3
  have h3 := of_decide_eq_false h3
  obtain rfl := drop_nil hk (by omega)
  refine EXIT (PASS trivial (PASS trivial (OUT (NEXT (SEQ (REGION [0, 1] rfl (RUN0 2 [] [(4, .v (.slice oa out.length oc))] ?_ rfl ?_)))))))
  · as_aux_lemma => kernel_rfl
  refine ENDOPS (NEXT (RET (FIN (.slice oa out.length oc) ?_ ⟨((oa, oc), out), (by first | omega | (dsimp only; omega))⟩ ?_ [0] ?_)))
  · as_aux_lemma => kernel_rfl
  · rfl
  · rfl

theorem l9All_c (W : World) (wh : Wheel) (wh_spoke_a : Option Addr) (wh_spoke_c : Nat) (hwh_spoke : Rd (sl 111 pinL) W wh_spoke_a wh.spoke) (hb : wh.spoke.flatten.length ≤ 4194304) : Spec Tryz.prog W [] 100 #[.agg #[.slice wh_spoke_a wh.spoke.length wh_spoke_c]] (⟨{q : (HH) × (List Pin) // (fun x : List Pin => x.length = wh.spoke.flatten.length) q.2}, fun q => .slice q.1.1.1 q.1.2.length q.1.1.2, fun q => [slA 111 pinL (.slice q.1.1.1 q.1.2.length q.1.1.2) q.1.2]⟩) := by
 refine ENTER0 (N := 21) (vs := [.agg #[.slice wh_spoke_a wh.spoke.length wh_spoke_c]]) Tryz.func100 rfl rfl (NL rfl) ?_
 have hwh_spoke_len := hwh_spoke.len
 refine SEQ (REGION [0, 1] rfl (RUN 2 [] [(1, .p 0 0)] [(91, [.slice wh_spoke_a wh.spoke.length wh_spoke_c])] ?_ rfl ?_))
 · as_aux_lemma => kernel_rfl
 refine ENDOPS (NEXT (SEQ (REGION [0, 1] rfl (OPC (BUILDS 106 0 #[] 5 106 ?_ (NL rfl) 111 [] ?_ pinL [] rfl (by simp only [maxLen]; omega) [] [] _ rfl (flatRep rfl) (fun a1 ha2 => ?_))))))
 iterate 2 (as_aux_lemma => kernel_rfl)
 refine RUN0 1 [] [(1, .p 0 0), (3, .v (.slice a1 0 0))] ?_ rfl ?_
 · as_aux_lemma => kernel_rfl
 refine ENDOPS (NEXT (SEQ (SEQ (REGION [0] rfl (RUN0 1 [] [(1, .p 0 0), (3, .v (.slice a1 0 0)), (4, I 0)] ?_ rfl ?_)))))
 · as_aux_lemma => kernel_rfl
 refine ENDOPS (NEXT (BLOCK (LOOP (ι := Nat × (List (List Pin)) × (Option Addr) × Nat × (List Pin)) (fun j => [(1, .p 0 0), (3, .v (.slice j.2.2.1 j.2.2.2.2.length j.2.2.2.1)), (4, I (j.1 : Int))]) (fun j => [(91, [.slice wh_spoke_a wh.spoke.length wh_spoke_c])]) (fun j => [slA 111 pinL (.slice j.2.2.1 j.2.2.2.2.length j.2.2.2.1) j.2.2.2.2]) (fun j => j.1 + j.2.1.length = wh.spoke.length ∧ wh.spoke.drop j.1 = j.2.1 ∧ j.2.2.2.2.length + j.2.1.flatten.length = wh.spoke.flatten.length) (fun j => j.2.1.length) (0, wh.spoke, a1, 0, []) [1, 3, 4] ⟨by simp, rfl, by simp⟩ ?_ rfl rfl ?_)))
 · as_aux_lemma => kernel_rfl
 rintro ⟨k, ys, oa, oc, out⟩ ⟨hk, hd, hv0⟩
 try dsimp only at hk hd hv0
 refine SEQ (SEQ (REGION [0, 1, 2, 3, 4] rfl (RUN0 5 [] [(1, .p 0 0), (3, .v (.slice oa out.length oc)), (4, I (k : Int)), (10, B (decide ((k : Int) < (wh.spoke.length : Int))))] ?_ rfl ?_)))
 · as_aux_lemma => kernel_rfl
 refine ENDOPS (NEXT (IF (decide ((k : Int) < (wh.spoke.length : Int))) ?_ (fun bh3 => ?_) (fun bh3 => ?_)))
 · as_aux_lemma => kernel_rfl
 ·
  have h3 := bh3
  have h3 := of_decide_eq_true h3
  obtain ⟨y4, ys5, rfl, hx_y4, hd_y4, hl_y4⟩ := drop_cons hd hk (by omega)
  have hfy := hv0; simp only [List.flatten_cons, List.length_append] at hfy
  refine SKIP (NEXT (SEQ (BLOCK (REGION [0, 1, 2, 3, 4, 5, 6, 7] rfl (RUN0 4 [4, 5, 6, 7] [(1, .p 0 0), (4, I (k : Int)), (13, .v (.slice oa out.length oc)), (15, .v (.slice wh_spoke_a wh.spoke.length wh_spoke_c)), (16, I (k : Int))] ?_ rfl ?_)))))
  · as_aux_lemma => kernel_rfl
  obtain ⟨a6, c7, hel9, hi8⟩ := sl_view hwh_spoke hx_y4
  have hi8_len := hi8.len
  refine OPC (INDEX 89 (.tmp 15) (.tmp 16) 17 0 ?_ (NL rfl) wh_spoke_a wh.spoke.length wh_spoke_c .i64 (k : Int) 106 1 ?_ ?_ ?_ ?_ (Rd.some hwh_spoke (by omega)) (by omega) (by omega) ?_)
  iterate 5 (as_aux_lemma => kernel_rfl)
  refine OPC (LOADE 106 (.tmp 17) 18 106 ?_ (NL rfl) wh_spoke_a (k * 1) 0 [.slice a6 y4.length c7] (.slice a6 y4.length c7) ?_ (fun w hw => hel9.fr hw.fr) ?_ ?_)
  iterate 3 (as_aux_lemma => kernel_rfl)
  refine OPC (APPENDR 106 (.tmp 13) (.tmp 18) 19 106 ?_ (NL rfl) (.slice oa out.length oc) a6 y4.length c7 ?_ ?_ 111 ?_ (.agg #[vi 0, vi 0]) 16 ?_ rfl (by decide) 0 out y4 _ rfl rfl (fun w hw => (hi8.fr hw.fr)) (by first | omega | (simp only [List.length_append, List.length_cons, List.length_nil, List.length_take, List.length_drop] at *; omega)) (by simp only [maxLen]; first | omega | (simp only [List.length_append, List.length_cons, List.length_nil, List.length_take, List.length_drop] at *; omega)) (fun a10 c11 hn12 => ?_))
  iterate 5 (as_aux_lemma => kernel_rfl)
  refine RUN0 1 [] [(1, .p 0 0), (3, .v (.slice a10 ((out ++ y4).length) c11)), (4, I (k : Int))] ?_ rfl ?_
  · as_aux_lemma => kernel_rfl
  refine ENDOPS (OUTN (NEXT (REGION [0, 1, 2] rfl (RUN0 2 [2] [(1, .p 0 0), (3, .v (.slice a10 ((out ++ y4).length) c11)), (12, I (wr ((k : Int) + 1)))] ?_ rfl ?_))))
  · as_aux_lemma => kernel_rfl
  refine CAST (d := 12) (vi (wr ((k : Int) + 1))) (vi ((k + 1 : Nat) : Int)) ?_ (vi_cast (by omega) (by omega)) ?_
  · as_aux_lemma => kernel_rfl
  refine RUN0 1 [] [(1, .p 0 0), (3, .v (.slice a10 ((out ++ y4).length) c11)), (4, I ((k + 1 : Nat) : Int))] ?_ rfl ?_
  · as_aux_lemma => kernel_rfl
  refine ENDOPS (BACK (k + 1, ys5, a10, c11, out ++ y4) [1, 3, 4] 1 [0] _ ⟨hl_y4, hd_y4, (by simp only [List.length_append] at *; omega)⟩ (by simp) ?_ rfl rfl rfl)
  · as_aux_lemma => kernel_rfl
 ·
  have h3 := bh3
  have h3 := of_decide_eq_false h3
  obtain rfl := drop_nil hk (by omega)
  refine EXIT (PASS trivial (PASS trivial (OUT (NEXT (SEQ (REGION [0, 1] rfl (RUN0 2 [] [(2, .v (.slice oa out.length oc))] ?_ rfl ?_)))))))
  · as_aux_lemma => kernel_rfl
  refine ENDOPS (NEXT (RET (FIN (.slice oa out.length oc) ?_ ⟨((oa, oc), out), (by simp at *; omega)⟩ ?_ [0] ?_)))
  · as_aux_lemma => kernel_rfl
  · rfl
  · rfl

theorem l9Copy_c (W : World) (wh : Wheel) (wh_spoke_a : Option Addr) (wh_spoke_c : Nat) (hwh_spoke : Rd (sl 111 pinL) W wh_spoke_a wh.spoke) (hb : wh.spoke.flatten.length ≤ 4194304) (hn : wh.spoke.length ≤ 4194304) : Spec Tryz.prog W [] 85 #[.agg #[.slice wh_spoke_a wh.spoke.length wh_spoke_c]] (⟨HH, fun p => .agg #[.slice p.1 wh.spoke.length p.2], fun p => [slA 106 (sl 111 pinL) (.slice p.1 wh.spoke.length p.2) wh.spoke]⟩) := by
 refine ENTER0 (N := 26) (vs := [.agg #[.slice wh_spoke_a wh.spoke.length wh_spoke_c]]) Tryz.func85 rfl rfl (NL rfl) ?_
 have hwh_spoke_len := hwh_spoke.len
 refine SEQ (REGION [0, 1] rfl (RUN 2 [] [(1, .p 0 0), (2, .p 1 0)] [(91, [.slice wh_spoke_a wh.spoke.length wh_spoke_c]), (91, [.slice none 0 0])] ?_ rfl ?_))
 · as_aux_lemma => kernel_rfl
 refine ENDOPS (NEXT (SEQ (REGION [0, 1, 2] rfl (RUN 3 [] [(1, .p 0 0), (2, .p 1 0), (3, .p 2 0)] [(91, [.slice wh_spoke_a wh.spoke.length wh_spoke_c]), (91, [.slice none 0 0]), (91, [.slice none 0 0])] ?_ rfl ?_))))
 · as_aux_lemma => kernel_rfl
 refine ENDOPS (NEXT (SEQ (SEQ (REGION [0] rfl (RUN0 1 [] [(1, .p 0 0), (2, .p 1 0), (3, .p 2 0), (4, I 0)] ?_ rfl ?_)))))
 · as_aux_lemma => kernel_rfl
 refine ENDOPS (NEXT (BLOCK (NIL 106 (sl 111 pinL) ?_)))
 refine LOOP (ι := Nat × (List (List Pin)) × (Option Addr) × Nat × (List (List Pin))) (fun j => [(1, .p 0 0), (2, .p 1 0), (3, .p 2 0), (4, I (j.1 : Int))]) (fun j => [(91, [.slice wh_spoke_a wh.spoke.length wh_spoke_c]), (91, [.slice none 0 0]), (91, [.slice j.2.2.1 j.2.2.2.2.length j.2.2.2.1])]) (fun j => [slA 106 (sl 111 pinL) (.slice j.2.2.1 j.2.2.2.2.length j.2.2.2.1) j.2.2.2.2]) (fun j => j.1 + j.2.1.length = wh.spoke.length ∧ wh.spoke.drop j.1 = j.2.1 ∧ j.2.2.2.2 ++ j.2.1 = wh.spoke ∧ j.2.1.flatten.length ≤ 4194304) (fun j => j.2.1.length) (0, wh.spoke, none, 0, []) [1, 2, 3, 4] ⟨by simp, rfl, rfl, hb⟩ ?_ rfl rfl ?_
 · as_aux_lemma => kernel_rfl
 rintro ⟨k, ys, oa, oc, out⟩ ⟨hk, hd, hv0, hv1⟩
 try dsimp only at hk hd hv0 hv1
 refine SEQ (SEQ (REGION [0, 1, 2, 3, 4] rfl (RUN0 5 [] [(1, .p 0 0), (2, .p 1 0), (3, .p 2 0), (4, I (k : Int)), (10, B (decide ((k : Int) < (wh.spoke.length : Int))))] ?_ rfl ?_)))
 · as_aux_lemma => kernel_rfl
 refine ENDOPS (NEXT (IF (decide ((k : Int) < (wh.spoke.length : Int))) ?_ (fun bh1 => ?_) (fun bh1 => ?_)))
 · as_aux_lemma => kernel_rfl
 ·
  have h1 := bh1
  have h1 := of_decide_eq_true h1
  obtain ⟨y2, ys3, rfl, hx_y2, hd_y2, hl_y2⟩ := drop_cons hd hk (by omega)
  have hfy := hv1; simp only [List.flatten_cons, List.length_append] at hfy; have hfl := congrArg List.length hv0; simp only [List.length_append, List.length_cons] at hfl
  refine SKIP (NEXT (SEQ (BLOCK (EXPORT (fun bs hbs => ?_)))))
  obtain ⟨b4, b5, b6, rfl⟩ := len3 hbs
  refine REGIONH ?_ 13 rfl [ptC b4 91 [.slice wh_spoke_a wh.spoke.length wh_spoke_c], ptC b5 91 [.slice none 0 0]] ?_
  · as_aux_lemma => kernel_rfl
  refine HPURE (js := [0, 0]) 0 [(1, .e (some ⟨b4, 0, none⟩) 0 0), (2, .e (some ⟨b5, 0, none⟩) 0 0), (3, .e (some ⟨b6, 0, none⟩) 0 0), (4, I (k : Int)), (13, .e (some ⟨b6, 0, none⟩) 0 0)] ?_ ?_ rfl ?_
  iterate 2 (as_aux_lemma => kernel_rfl)
  refine HPURE (js := [0, 0]) 3 [(1, .e (some ⟨b4, 0, none⟩) 0 0), (2, .e (some ⟨b5, 0, none⟩) 0 0), (3, .e (some ⟨b6, 0, none⟩) 0 0), (4, I (k : Int)), (13, .e (some ⟨b6, 0, none⟩) 0 0), (16, .e (some ⟨b4, 0, none⟩) 0 0)] ?_ ?_ rfl ?_
  iterate 2 (as_aux_lemma => kernel_rfl)
  refine HLOADE (i := 4) (js := [0, 0])  89 (.tmp 16) 17 89 ?_ (NL rfl) (some ⟨b4, 0, none⟩) 0 0 [.slice wh_spoke_a wh.spoke.length wh_spoke_c] (.slice wh_spoke_a wh.spoke.length wh_spoke_c) ?_ (fun w hw => ptC_elem (hw.own 0 rfl)) ?_ ?_ rfl ?_
  iterate 4 (as_aux_lemma => kernel_rfl)
  refine HPURE (js := [0, 0]) 5 [(1, .e (some ⟨b4, 0, none⟩) 0 0), (2, .e (some ⟨b5, 0, none⟩) 0 0), (3, .e (some ⟨b6, 0, none⟩) 0 0), (4, I (k : Int)), (13, .e (some ⟨b6, 0, none⟩) 0 0), (17, .v (.slice wh_spoke_a wh.spoke.length wh_spoke_c)), (18, I (k : Int))] ?_ ?_ rfl ?_
  iterate 2 (as_aux_lemma => kernel_rfl)
  obtain ⟨a7, c8, hel10, hi9⟩ := sl_view hwh_spoke hx_y2
  have hi9_len := hi9.len
  refine HINDEX (i := 6) (js := [0, 0])  89 (.tmp 17) (.tmp 18) 19 0 ?_ (NL rfl) wh_spoke_a wh.spoke.length wh_spoke_c .i64 (k : Int) 106 1 ?_ ?_ ?_ ?_ (Rd.some hwh_spoke (by omega)) (by omega) (by omega) ?_ rfl ?_
  iterate 6 (as_aux_lemma => kernel_rfl)
  refine HLOADE (i := 7) (js := [0, 0])  106 (.tmp 19) 20 106 ?_ (NL rfl) wh_spoke_a (k * 1) 0 [.slice a7 y2.length c8] (.slice a7 y2.length c8) ?_ (fun w hw => hel10.fr hw.fr) ?_ ?_ rfl ?_
  iterate 4 (as_aux_lemma => kernel_rfl)
  refine HALL [1, 2] ?_ (by decide) ⟨?_, ?_⟩
  · as_aux_lemma => kernel_rfl
  ·
   refine LOADE 89 (.tmp 13) 14 89 ?_ (NL rfl) (some ⟨b6, 0, none⟩) 0 0 [.slice oa out.length oc] (.slice oa out.length oc) ?_ (fun w hw => ptC_elem (hw.own 2 rfl)) ?_ ?_
   iterate 3 (as_aux_lemma => kernel_rfl)
   refine HKEEP (js := [0, 0]) rfl (HALL [2] ?_ (by decide) ?_)
   · as_aux_lemma => kernel_rfl
   refine BUILDS 106 0 #[] 15 106 ?_ (NL rfl) 111 [] ?_ pinL [] rfl (by simp only [maxLen]; omega) [] [] _ rfl (flatRep rfl) (fun a11 ha12 => ?_)
   iterate 2 (as_aux_lemma => kernel_rfl)
   refine HKEEP (js := [0, 0]) rfl (HALL [8] ?_ (by decide) ?_)
   · as_aux_lemma => kernel_rfl
   refine APPENDR 106 (.tmp 15) (.tmp 20) 21 106 ?_ (NL rfl) (.slice a11 0 0) a7 y2.length c8 ?_ ?_ 111 ?_ (.agg #[vi 0, vi 0]) 16 ?_ rfl (by decide) 4 ([]) y2 _ rfl rfl (fun w hw => (hi9.fr hw.fr)) (by first | omega | (simp only [List.length_append, List.length_cons, List.length_nil, List.length_take, List.length_drop] at *; omega)) (by simp only [maxLen]; first | omega | (simp only [List.length_append, List.length_cons, List.length_nil, List.length_take, List.length_drop] at *; omega)) (fun a13 c14 hn15 => ?_)
   iterate 5 (as_aux_lemma => kernel_rfl)
   refine HKEEP (js := [0, 0]) rfl (HALL [9] ?_ (by decide) ?_)
   · as_aux_lemma => kernel_rfl
   refine BUILDS 89 1 #[(0, .tmp 21)] 22 89 ?_ (NL rfl) 106 [.slice a13 ((([]) ++ y2).length) c14] ?_ (sl 111 pinL) [([]) ++ y2] rfl (by simp only [maxLen]; omega) [4] [slA 111 pinL (.slice a13 ((([]) ++ y2).length) c14) (([]) ++ y2)] _ rfl (oneRep (nestRep (e' := 0) (x := ([]) ++ y2))) (fun a16 ha17 => ?_)
   iterate 2 (as_aux_lemma => kernel_rfl)
   refine HKEEP (js := [0, 0]) rfl (HALL [10] ?_ (by decide) ?_)
   · as_aux_lemma => kernel_rfl
   refine APPENDO 89 (.tmp 14) (.tmp 22) 23 89 ?_ (NL rfl) (.slice oa out.length oc) a16 1 1 ?_ ?_ ha17 106 ?_ (sl 111 pinL) (.slice none 0 0) 24 ?_ rfl (by decide) 3 3 out ([([]) ++ y2]) _ rfl rfl (by first | omega | (simp only [List.length_append, List.length_cons, List.length_nil, List.length_take, List.length_drop] at *; omega)) (by simp only [maxLen]; first | omega | (simp only [List.length_append, List.length_cons, List.length_nil, List.length_take, List.length_drop] at *; omega)) (fun a18 c19 hn20 => ?_)
   iterate 5 (as_aux_lemma => kernel_rfl)
   refine HKEEP (js := [0, 0]) rfl (HPURE (js := [0, 0]) 11 [(1, .e (some ⟨b4, 0, none⟩) 0 0), (2, .e (some ⟨b5, 0, none⟩) 0 0), (3, .e (some ⟨b6, 0, none⟩) 0 0), (4, I (k : Int)), (23, .v (.slice a18 ((out ++ ([([]) ++ y2])).length) c19)), (24, .e (some ⟨b6, 0, none⟩) 0 0)] ?_ ?_ rfl ?_)
   iterate 2 (as_aux_lemma => kernel_rfl)
   refine HALL [12] ?_ (by decide) ?_
   · as_aux_lemma => kernel_rfl
   refine STOREC 89 (.tmp 24) (.tmp 23) 0 ?_ 2 _ b6 0 91 [.slice oa out.length oc] [.slice a18 ((out ++ ([([]) ++ y2])).length) c19] rfl (.slice a18 ((out ++ ([([]) ++ y2])).length) c19) ?_ ?_ ?_ ?_
   iterate 4 (as_aux_lemma => kernel_rfl)
   refine HKEEP (js := [0, 0]) rfl (HEND ?_ ?_)
   · as_aux_lemma => kernel_rfl
   refine IMPORT (L0 := [(91, [.slice wh_spoke_a wh.spoke.length wh_spoke_c]), (91, [.slice none 0 0]), (91, [.slice a18 ((out ++ ([([]) ++ y2])).length) c19])]) (L1 := []) [b4, b5, b6] rfl [0, 0, 1] _ rfl [(1, .p 0 0), (2, .p 1 0), (3, .p 2 0), (4, I (k : Int)), (23, .v (.slice a18 ((out ++ ([([]) ++ y2])).length) c19)), (24, .p 2 0)] ?_ ?_ ?_
   iterate 2 (as_aux_lemma => kernel_rfl)
   refine OUTN (NEXT (REGION [0, 1, 2] rfl (RUN0 2 [2] [(1, .p 0 0), (2, .p 1 0), (3, .p 2 0), (12, I (wr ((k : Int) + 1)))] ?_ rfl ?_)))
   · as_aux_lemma => kernel_rfl
   refine CAST (d := 12) (vi (wr ((k : Int) + 1))) (vi ((k + 1 : Nat) : Int)) ?_ (vi_cast (by omega) (by omega)) ?_
   · as_aux_lemma => kernel_rfl
   refine RUN0 1 [] [(1, .p 0 0), (2, .p 1 0), (3, .p 2 0), (4, I ((k + 1 : Nat) : Int))] ?_ rfl ?_
   · as_aux_lemma => kernel_rfl
   refine ENDOPS (BACK (k + 1, ys3, a18, c19, out ++ ([([]) ++ y2])) [1, 2, 3, 4] 3 [0] _ ⟨hl_y2, hd_y2, (by simpa using hv0), (by first | omega | (dsimp only; omega))⟩ (by simp) ?_ rfl rfl rfl)
   · as_aux_lemma => kernel_rfl
  ·
   refine BUILDS 106 0 #[] 15 106 ?_ (NL rfl) 111 [] ?_ pinL [] rfl (by simp only [maxLen]; omega) [] [] _ rfl (flatRep rfl) (fun a21 ha22 => ?_)
   iterate 2 (as_aux_lemma => kernel_rfl)
   refine HKEEP (js := [0, 0]) rfl (HALL [1, 8] ?_ (by decide) ⟨?_, ?_⟩)
   · as_aux_lemma => kernel_rfl
   ·
    refine LOADE 89 (.tmp 13) 14 89 ?_ (NL rfl) (some ⟨b6, 0, none⟩) 0 0 [.slice oa out.length oc] (.slice oa out.length oc) ?_ (fun w hw => ptC_elem (hw.own 2 rfl)) ?_ ?_
    iterate 3 (as_aux_lemma => kernel_rfl)
    refine HKEEP (js := [0, 0]) rfl (HALL [8] ?_ (by decide) ?_)
    · as_aux_lemma => kernel_rfl
    refine APPENDR 106 (.tmp 15) (.tmp 20) 21 106 ?_ (NL rfl) (.slice a21 0 0) a7 y2.length c8 ?_ ?_ 111 ?_ (.agg #[vi 0, vi 0]) 16 ?_ rfl (by decide) 4 ([]) y2 _ rfl rfl (fun w hw => (hi9.fr hw.fr)) (by first | omega | (simp only [List.length_append, List.length_cons, List.length_nil, List.length_take, List.length_drop] at *; omega)) (by simp only [maxLen]; first | omega | (simp only [List.length_append, List.length_cons, List.length_nil, List.length_take, List.length_drop] at *; omega)) (fun a23 c24 hn25 => ?_)
    iterate 5 (as_aux_lemma => kernel_rfl)
    refine HKEEP (js := [0, 0]) rfl (HALL [9] ?_ (by decide) ?_)
    · as_aux_lemma => kernel_rfl
    refine BUILDS 89 1 #[(0, .tmp 21)] 22 89 ?_ (NL rfl) 106 [.slice a23 ((([]) ++ y2).length) c24] ?_ (sl 111 pinL) [([]) ++ y2] rfl (by simp only [maxLen]; omega) [4] [slA 111 pinL (.slice a23 ((([]) ++ y2).length) c24) (([]) ++ y2)] _ rfl (oneRep (nestRep (e' := 0) (x := ([]) ++ y2))) (fun a26 ha27 => ?_)
    iterate 2 (as_aux_lemma => kernel_rfl)
    refine HKEEP (js := [0, 0]) rfl (HALL [10] ?_ (by decide) ?_)
    · as_aux_lemma => kernel_rfl
    refine APPENDO 89 (.tmp 14) (.tmp 22) 23 89 ?_ (NL rfl) (.slice oa out.length oc) a26 1 1 ?_ ?_ ha27 106 ?_ (sl 111 pinL) (.slice none 0 0) 24 ?_ rfl (by decide) 3 3 out ([([]) ++ y2]) _ rfl rfl (by first | omega | (simp only [List.length_append, List.length_cons, List.length_nil, List.length_take, List.length_drop] at *; omega)) (by simp only [maxLen]; first | omega | (simp only [List.length_append, List.length_cons, List.length_nil, List.length_take, List.length_drop] at *; omega)) (fun a28 c29 hn30 => ?_)
    iterate 5 (as_aux_lemma => kernel_rfl)
    refine HKEEP (js := [0, 0]) rfl (HPURE (js := [0, 0]) 11 [(1, .e (some ⟨b4, 0, none⟩) 0 0), (2, .e (some ⟨b5, 0, none⟩) 0 0), (3, .e (some ⟨b6, 0, none⟩) 0 0), (4, I (k : Int)), (23, .v (.slice a28 ((out ++ ([([]) ++ y2])).length) c29)), (24, .e (some ⟨b6, 0, none⟩) 0 0)] ?_ ?_ rfl ?_)
    iterate 2 (as_aux_lemma => kernel_rfl)
    refine HALL [12] ?_ (by decide) ?_
    · as_aux_lemma => kernel_rfl
    refine STOREC 89 (.tmp 24) (.tmp 23) 0 ?_ 2 _ b6 0 91 [.slice oa out.length oc] [.slice a28 ((out ++ ([([]) ++ y2])).length) c29] rfl (.slice a28 ((out ++ ([([]) ++ y2])).length) c29) ?_ ?_ ?_ ?_
    iterate 4 (as_aux_lemma => kernel_rfl)
    refine HKEEP (js := [0, 0]) rfl (HEND ?_ ?_)
    · as_aux_lemma => kernel_rfl
    refine IMPORT (L0 := [(91, [.slice wh_spoke_a wh.spoke.length wh_spoke_c]), (91, [.slice none 0 0]), (91, [.slice a28 ((out ++ ([([]) ++ y2])).length) c29])]) (L1 := []) [b4, b5, b6] rfl [0, 0, 1] _ rfl [(1, .p 0 0), (2, .p 1 0), (3, .p 2 0), (4, I (k : Int)), (23, .v (.slice a28 ((out ++ ([([]) ++ y2])).length) c29)), (24, .p 2 0)] ?_ ?_ ?_
    iterate 2 (as_aux_lemma => kernel_rfl)
    refine OUTN (NEXT (REGION [0, 1, 2] rfl (RUN0 2 [2] [(1, .p 0 0), (2, .p 1 0), (3, .p 2 0), (12, I (wr ((k : Int) + 1)))] ?_ rfl ?_)))
    · as_aux_lemma => kernel_rfl
    refine CAST (d := 12) (vi (wr ((k : Int) + 1))) (vi ((k + 1 : Nat) : Int)) ?_ (vi_cast (by omega) (by omega)) ?_
    · as_aux_lemma => kernel_rfl
    refine RUN0 1 [] [(1, .p 0 0), (2, .p 1 0), (3, .p 2 0), (4, I ((k + 1 : Nat) : Int))] ?_ rfl ?_
    · as_aux_lemma => kernel_rfl
    refine ENDOPS (BACK (k + 1, ys3, a28, c29, out ++ ([([]) ++ y2])) [1, 2, 3, 4] 3 [0] _ ⟨hl_y2, hd_y2, (by simpa using hv0), (by first | omega | (dsimp only; omega))⟩ (by simp) ?_ rfl rfl rfl)
    · as_aux_lemma => kernel_rfl
   ·
    refine APPENDR 106 (.tmp 15) (.tmp 20) 21 106 ?_ (NL rfl) (.slice a21 0 0) a7 y2.length c8 ?_ ?_ 111 ?_ (.agg #[vi 0, vi 0]) 16 ?_ rfl (by decide) 4 ([]) y2 _ rfl rfl (fun w hw => (hi9.fr hw.fr)) (by first | omega | (simp only [List.length_append, List.length_cons, List.length_nil, List.length_take, List.length_drop] at *; omega)) (by simp only [maxLen]; first | omega | (simp only [List.length_append, List.length_cons, List.length_nil, List.length_take, List.length_drop] at *; omega)) (fun a31 c32 hn33 => ?_)
    iterate 5 (as_aux_lemma => kernel_rfl)
    refine HKEEP (js := [0, 0]) rfl (HALL [1, 9] ?_ (by decide) ⟨?_, ?_⟩)
    · as_aux_lemma => kernel_rfl
    ·
     refine LOADE 89 (.tmp 13) 14 89 ?_ (NL rfl) (some ⟨b6, 0, none⟩) 0 0 [.slice oa out.length oc] (.slice oa out.length oc) ?_ (fun w hw => ptC_elem (hw.own 2 rfl)) ?_ ?_
     iterate 3 (as_aux_lemma => kernel_rfl)
     refine HKEEP (js := [0, 0]) rfl (HALL [9] ?_ (by decide) ?_)
     · as_aux_lemma => kernel_rfl
     refine BUILDS 89 1 #[(0, .tmp 21)] 22 89 ?_ (NL rfl) 106 [.slice a31 ((([]) ++ y2).length) c32] ?_ (sl 111 pinL) [([]) ++ y2] rfl (by simp only [maxLen]; omega) [4] [slA 111 pinL (.slice a31 ((([]) ++ y2).length) c32) (([]) ++ y2)] _ rfl (oneRep (nestRep (e' := 0) (x := ([]) ++ y2))) (fun a34 ha35 => ?_)
     iterate 2 (as_aux_lemma => kernel_rfl)
     refine HKEEP (js := [0, 0]) rfl (HALL [10] ?_ (by decide) ?_)
     · as_aux_lemma => kernel_rfl
     refine APPENDO 89 (.tmp 14) (.tmp 22) 23 89 ?_ (NL rfl) (.slice oa out.length oc) a34 1 1 ?_ ?_ ha35 106 ?_ (sl 111 pinL) (.slice none 0 0) 24 ?_ rfl (by decide) 3 3 out ([([]) ++ y2]) _ rfl rfl (by first | omega | (simp only [List.length_append, List.length_cons, List.length_nil, List.length_take, List.length_drop] at *; omega)) (by simp only [maxLen]; first | omega | (simp only [List.length_append, List.length_cons, List.length_nil, List.length_take, List.length_drop] at *; omega)) (fun a36 c37 hn38 => ?_)
     iterate 5 (as_aux_lemma => kernel_rfl)
     refine HKEEP (js := [0, 0]) rfl (HPURE (js := [0, 0]) 11 [(1, .e (some ⟨b4, 0, none⟩) 0 0), (2, .e (some ⟨b5, 0, none⟩) 0 0), (3, .e (some ⟨b6, 0, none⟩) 0 0), (4, I (k : Int)), (23, .v (.slice a36 ((out ++ ([([]) ++ y2])).length) c37)), (24, .e (some ⟨b6, 0, none⟩) 0 0)] ?_ ?_ rfl ?_)
     iterate 2 (as_aux_lemma => kernel_rfl)
     refine HALL [12] ?_ (by decide) ?_
     · as_aux_lemma => kernel_rfl
     refine STOREC 89 (.tmp 24) (.tmp 23) 0 ?_ 2 _ b6 0 91 [.slice oa out.length oc] [.slice a36 ((out ++ ([([]) ++ y2])).length) c37] rfl (.slice a36 ((out ++ ([([]) ++ y2])).length) c37) ?_ ?_ ?_ ?_
     iterate 4 (as_aux_lemma => kernel_rfl)
     refine HKEEP (js := [0, 0]) rfl (HEND ?_ ?_)
     · as_aux_lemma => kernel_rfl
     refine IMPORT (L0 := [(91, [.slice wh_spoke_a wh.spoke.length wh_spoke_c]), (91, [.slice none 0 0]), (91, [.slice a36 ((out ++ ([([]) ++ y2])).length) c37])]) (L1 := []) [b4, b5, b6] rfl [0, 0, 1] _ rfl [(1, .p 0 0), (2, .p 1 0), (3, .p 2 0), (4, I (k : Int)), (23, .v (.slice a36 ((out ++ ([([]) ++ y2])).length) c37)), (24, .p 2 0)] ?_ ?_ ?_
     iterate 2 (as_aux_lemma => kernel_rfl)
     refine OUTN (NEXT (REGION [0, 1, 2] rfl (RUN0 2 [2] [(1, .p 0 0), (2, .p 1 0), (3, .p 2 0), (12, I (wr ((k : Int) + 1)))] ?_ rfl ?_)))
     · as_aux_lemma => kernel_rfl
     refine CAST (d := 12) (vi (wr ((k : Int) + 1))) (vi ((k + 1 : Nat) : Int)) ?_ (vi_cast (by omega) (by omega)) ?_
     · as_aux_lemma => kernel_rfl
     refine RUN0 1 [] [(1, .p 0 0), (2, .p 1 0), (3, .p 2 0), (4, I ((k + 1 : Nat) : Int))] ?_ rfl ?_
     · as_aux_lemma => kernel_rfl
     refine ENDOPS (BACK (k + 1, ys3, a36, c37, out ++ ([([]) ++ y2])) [1, 2, 3, 4] 3 [0] _ ⟨hl_y2, hd_y2, (by simpa using hv0), (by first | omega | (dsimp only; omega))⟩ (by simp) ?_ rfl rfl rfl)
     · as_aux_lemma => kernel_rfl
    ·
     refine BUILDS 89 1 #[(0, .tmp 21)] 22 89 ?_ (NL rfl) 106 [.slice a31 ((([]) ++ y2).length) c32] ?_ (sl 111 pinL) [([]) ++ y2] rfl (by simp only [maxLen]; omega) [4] [slA 111 pinL (.slice a31 ((([]) ++ y2).length) c32) (([]) ++ y2)] _ rfl (oneRep (nestRep (e' := 0) (x := ([]) ++ y2))) (fun a39 ha40 => ?_)
     iterate 2 (as_aux_lemma => kernel_rfl)
     refine HKEEP (js := [0, 0]) rfl (HALL [1] ?_ (by decide) ?_)
     · as_aux_lemma => kernel_rfl
     refine LOADE 89 (.tmp 13) 14 89 ?_ (NL rfl) (some ⟨b6, 0, none⟩) 0 0 [.slice oa out.length oc] (.slice oa out.length oc) ?_ (fun w hw => ptC_elem (hw.own 2 rfl)) ?_ ?_
     iterate 3 (as_aux_lemma => kernel_rfl)
     refine HKEEP (js := [0, 0]) rfl (HALL [10] ?_ (by decide) ?_)
     · as_aux_lemma => kernel_rfl
     refine APPENDO 89 (.tmp 14) (.tmp 22) 23 89 ?_ (NL rfl) (.slice oa out.length oc) a39 1 1 ?_ ?_ ha40 106 ?_ (sl 111 pinL) (.slice none 0 0) 24 ?_ rfl (by decide) 3 3 out ([([]) ++ y2]) _ rfl rfl (by first | omega | (simp only [List.length_append, List.length_cons, List.length_nil, List.length_take, List.length_drop] at *; omega)) (by simp only [maxLen]; first | omega | (simp only [List.length_append, List.length_cons, List.length_nil, List.length_take, List.length_drop] at *; omega)) (fun a41 c42 hn43 => ?_)
     iterate 5 (as_aux_lemma => kernel_rfl)
     refine HKEEP (js := [0, 0]) rfl (HPURE (js := [0, 0]) 11 [(1, .e (some ⟨b4, 0, none⟩) 0 0), (2, .e (some ⟨b5, 0, none⟩) 0 0), (3, .e (some ⟨b6, 0, none⟩) 0 0), (4, I (k : Int)), (23, .v (.slice a41 ((out ++ ([([]) ++ y2])).length) c42)), (24, .e (some ⟨b6, 0, none⟩) 0 0)] ?_ ?_ rfl ?_)
     iterate 2 (as_aux_lemma => kernel_rfl)
     refine HALL [12] ?_ (by decide) ?_
     · as_aux_lemma => kernel_rfl
     refine STOREC 89 (.tmp 24) (.tmp 23) 0 ?_ 2 _ b6 0 91 [.slice oa out.length oc] [.slice a41 ((out ++ ([([]) ++ y2])).length) c42] rfl (.slice a41 ((out ++ ([([]) ++ y2])).length) c42) ?_ ?_ ?_ ?_
     iterate 4 (as_aux_lemma => kernel_rfl)
     refine HKEEP (js := [0, 0]) rfl (HEND ?_ ?_)
     · as_aux_lemma => kernel_rfl
     refine IMPORT (L0 := [(91, [.slice wh_spoke_a wh.spoke.length wh_spoke_c]), (91, [.slice none 0 0]), (91, [.slice a41 ((out ++ ([([]) ++ y2])).length) c42])]) (L1 := []) [b4, b5, b6] rfl [0, 0, 1] _ rfl [(1, .p 0 0), (2, .p 1 0), (3, .p 2 0), (4, I (k : Int)), (23, .v (.slice a41 ((out ++ ([([]) ++ y2])).length) c42)), (24, .p 2 0)] ?_ ?_ ?_
     iterate 2 (as_aux_lemma => kernel_rfl)
     refine OUTN (NEXT (REGION [0, 1, 2] rfl (RUN0 2 [2] [(1, .p 0 0), (2, .p 1 0), (3, .p 2 0), (12, I (wr ((k : Int) + 1)))] ?_ rfl ?_)))
     · as_aux_lemma => kernel_rfl
     refine CAST (d := 12) (vi (wr ((k : Int) + 1))) (vi ((k + 1 : Nat) : Int)) ?_ (vi_cast (by omega) (by omega)) ?_
     · as_aux_lemma => kernel_rfl
     refine RUN0 1 [] [(1, .p 0 0), (2, .p 1 0), (3, .p 2 0), (4, I ((k + 1 : Nat) : Int))] ?_ rfl ?_
     · as_aux_lemma => kernel_rfl
     refine ENDOPS (BACK (k + 1, ys3, a41, c42, out ++ ([([]) ++ y2])) [1, 2, 3, 4] 3 [0] _ ⟨hl_y2, hd_y2, (by simpa using hv0), (by first | omega | (dsimp only; omega))⟩ (by simp) ?_ rfl rfl rfl)
     · as_aux_lemma => kernel_rfl
 ·
  have h1 := bh1
  have h1 := of_decide_eq_false h1
  obtain rfl := drop_nil hk (by omega)
  refine EXIT (PASS trivial (PASS trivial (OUT (NEXT (SEQ (REGION [0, 1] rfl (RUN 2 [] [(2, .p 1 0)] [(91, [.slice wh_spoke_a wh.spoke.length wh_spoke_c]), (91, [.slice oa out.length oc]), (91, [.slice oa out.length oc])] ?_ rfl ?_)))))))
  · as_aux_lemma => kernel_rfl
  refine ENDOPS (NEXT (RET ?_))
  have efin : wh.spoke = out := by simpa using hv0.symm
  refine FIN (.agg #[.slice oa out.length oc]) ?_ (oa, oc) ?_ [0] ?_
  · as_aux_lemma => kernel_rfl
  · (rw [efin] <;> rfl)
  · (rw [efin] <;> rfl)

theorem wheelNew_c (W : World)  : Spec Tryz.prog W [] 71 #[] (⟨{q : (HH) × Wheel // (fun x : Wheel => x.spoke.length = 9 ∧ x.spoke.flatten.length = 0) q.2}, fun q => .agg #[.slice q.1.1.1 q.1.2.spoke.length q.1.1.2], fun q => [slA 106 (sl 111 pinL) (.slice q.1.1.1 q.1.2.spoke.length q.1.1.2) q.1.2.spoke]⟩) := by
 refine ENTER0 (N := 15) (vs := []) Tryz.func71 rfl rfl (NL rfl) ?_
 refine SEQ (REGION [0] rfl (RUN 1 [] [(0, .p 0 0)] [(91, [.slice none 0 0])] ?_ rfl ?_))
 · as_aux_lemma => kernel_rfl
 refine ENDOPS (NEXT (SEQ (REGION [0, 1, 2] rfl (RUN 3 [] [(0, .p 0 0), (1, .p 1 0)] [(91, [.slice none 0 0]), (91, [.slice none 0 0])] ?_ rfl ?_))))
 · as_aux_lemma => kernel_rfl
 refine ENDOPS (NEXT (SEQ (SEQ (REGION [0] rfl (RUN0 1 [] [(0, .p 0 0), (1, .p 1 0), (2, I 0)] ?_ rfl ?_)))))
 · as_aux_lemma => kernel_rfl
 refine ENDOPS (NEXT (BLOCK (NIL 106 (sl 111 pinL) ?_)))
 refine LOOP (ι := Nat × (Option Addr) × Nat × (List (List Pin))) (fun j => [(0, .p 0 0), (1, .p 1 0), (2, I (j.1 : Int))]) (fun j => [(91, [.slice none 0 0]), (91, [.slice j.2.1 j.2.2.2.length j.2.2.1])]) (fun j => [slA 106 (sl 111 pinL) (.slice j.2.1 j.2.2.2.length j.2.2.1) j.2.2.2]) (fun j => j.2.2.2.length = j.1 ∧ j.1 ≤ 9 ∧ j.2.2.2.flatten.length = 0) (fun j => 9 - j.1) (0, none, 0, []) [0, 1, 2] ⟨rfl, by omega, rfl⟩ ?_ rfl rfl ?_
 · as_aux_lemma => kernel_rfl
 rintro ⟨k, oa, oc, out⟩ ⟨hk, hk9, hf⟩
 try dsimp only at hk hk9 hf
 refine SEQ (SEQ (REGION [0, 1] rfl (RUN0 2 [] [(0, .p 0 0), (1, .p 1 0), (2, I (k : Int)), (5, B (decide ((k : Int) < 9)))] ?_ rfl ?_)))
 · as_aux_lemma => kernel_rfl
 refine ENDOPS (NEXT (IF (decide ((k : Int) < 9)) ?_ (fun bh1 => ?_) (fun bh1 => ?_)))
 · as_aux_lemma => kernel_rfl
 ·
  have h1 := bh1
  have h1 := of_decide_eq_true h1
  refine SKIP (NEXT (SEQ (BLOCK (REGION [0, 1, 2, 3, 4, 5, 6] rfl (RUN0 2 [2, 3, 4, 5, 6] [(0, .p 0 0), (1, .p 1 0), (2, I (k : Int)), (9, .v (.slice oa out.length oc))] ?_ rfl ?_)))))
  · as_aux_lemma => kernel_rfl
  refine OPC (BUILDS 106 0 #[] 10 106 ?_ (NL rfl) 111 [] ?_ pinL [] rfl (by simp only [maxLen]; omega) [] [] _ rfl (flatRep rfl) (fun a2 ha3 => ?_))
  iterate 2 (as_aux_lemma => kernel_rfl)
  refine OPC (BUILDS 89 1 #[(0, .tmp 10)] 11 89 ?_ (NL rfl) 106 [.slice a2 0 0] ?_ (sl 111 pinL) [[]] rfl (by simp only [maxLen]; omega) [1] [slA 111 pinL (.slice a2 0 0) ([])] _ rfl (oneRep (nestRep (e' := 0) (x := []))) (fun a4 ha5 => ?_))
  iterate 2 (as_aux_lemma => kernel_rfl)
  refine OPC (APPENDO 89 (.tmp 9) (.tmp 11) 12 89 ?_ (NL rfl) (.slice oa out.length oc) a4 1 1 ?_ ?_ ha5 106 ?_ (sl 111 pinL) (.slice none 0 0) 24 ?_ rfl (by decide) 0 0 out ([[]]) _ rfl rfl (by first | omega | (simp only [List.length_append, List.length_cons, List.length_nil, List.length_take, List.length_drop] at *; omega)) (by simp only [maxLen]; first | omega | (simp only [List.length_append, List.length_cons, List.length_nil, List.length_take, List.length_drop] at *; omega)) (fun a6 c7 hn8 => ?_))
  iterate 5 (as_aux_lemma => kernel_rfl)
  refine RUN 2 [] [(0, .p 0 0), (1, .p 1 0), (2, I (k : Int))] [(91, [.slice none 0 0]), (91, [.slice a6 ((out ++ ([[]])).length) c7])] ?_ rfl ?_
  · as_aux_lemma => kernel_rfl
  refine ENDOPS (OUTN (NEXT (REGION [0, 1, 2] rfl (RUN0 2 [2] [(0, .p 0 0), (1, .p 1 0), (7, I (wr ((k : Int) + 1)))] ?_ rfl ?_))))
  · as_aux_lemma => kernel_rfl
  refine CAST (d := 7) (vi (wr ((k : Int) + 1))) (vi ((k + 1 : Nat) : Int)) ?_ (vi_cast (by omega) (by omega)) ?_
  · as_aux_lemma => kernel_rfl
  refine RUN0 1 [] [(0, .p 0 0), (1, .p 1 0), (2, I ((k + 1 : Nat) : Int))] ?_ rfl ?_
  · as_aux_lemma => kernel_rfl
  refine ENDOPS (BACK (k + 1, a6, c7, out ++ ([[]])) [0, 1, 2] 2 [0] _ ⟨by simp only [List.length_append, List.length_cons, List.length_nil]; omega, by dsimp only; omega, by simp only [List.flatten_append, List.length_append, hf]; rfl⟩ (by first | omega | (dsimp only; omega)) ?_ rfl rfl rfl)
  · as_aux_lemma => kernel_rfl
 ·
  have h1 := bh1
  have h1 := of_decide_eq_false h1
  refine EXIT (PASS trivial (PASS trivial (OUT (NEXT (SEQ (REGION [0, 1] rfl (RUN 2 [] [(0, .p 0 0)] [(91, [.slice oa out.length oc]), (91, [.slice oa out.length oc])] ?_ rfl ?_)))))))
  · as_aux_lemma => kernel_rfl
  refine ENDOPS (NEXT (RET (FIN (.agg #[.slice oa out.length oc]) ?_ ⟨((oa, oc), (⟨out⟩ : Wheel)), ⟨by dsimp only; omega, by dsimp only; omega⟩⟩ ?_ [0] ?_)))
  · as_aux_lemma => kernel_rfl
  · rfl
  · rfl

theorem wheelOk_c (W : World) (wh : Wheel) (wh_spoke_a : Option Addr) (wh_spoke_c : Nat) (hwh_spoke : Rd (sl 111 pinL) W wh_spoke_a wh.spoke) (hb : wh.spoke.flatten.length ≤ 4194304) : Spec Tryz.prog W [] 86 #[.agg #[.slice wh_spoke_a wh.spoke.length wh_spoke_c]] (⟨{x : Bool // x = true → wh.spoke.length = 9}, fun q => .bool q.1, fun q => []⟩) := by
 refine ENTER0 (N := 111) (vs := [.agg #[.slice wh_spoke_a wh.spoke.length wh_spoke_c]]) Tryz.func86 rfl rfl (NL rfl) ?_
 have hwh_spoke_len := hwh_spoke.len
 refine SEQ (REGION [0, 1] rfl (RUN 2 [] [(1, .p 0 0)] [(91, [.slice wh_spoke_a wh.spoke.length wh_spoke_c])] ?_ rfl ?_))
 · as_aux_lemma => kernel_rfl
 refine ENDOPS (NEXT (SEQ (REGION [0, 1, 2] rfl (RUN0 1 [1, 2] [(1, .p 0 0), (8, .v (.agg #[.slice wh_spoke_a wh.spoke.length wh_spoke_c]))] ?_ rfl ?_))))
 · as_aux_lemma => kernel_rfl
 refine OPC (CALL 100 #[.agg #[.slice wh_spoke_a wh.spoke.length wh_spoke_c]] (some 9) ?_ [] [] _ rfl (⟨{q : (HH) × (List Pin) // (fun x : List Pin => x.length = wh.spoke.flatten.length) q.2}, fun q => .slice q.1.1.1 q.1.2.length q.1.1.2, fun q => [slA 111 pinL (.slice q.1.1.1 q.1.2.length q.1.1.2) q.1.2]⟩) (fun w hw => l9All_c w wh wh_spoke_a wh_spoke_c (hwh_spoke.fr hw.fr) (by first | assumption | omega | (dsimp only; omega) | (simp only [List.length_append, List.length_cons, List.length_nil] at *; omega))) (NO rfl) ?_)
 · as_aux_lemma => kernel_rfl
 rintro ⟨⟨⟨a3, c4⟩, m1⟩, hm2⟩
 try dsimp only at hm2
 refine RUN0 1 [] [(1, .p 0 0), (3, .v (.slice a3 m1.length c4))] ?_ rfl ?_
 · as_aux_lemma => kernel_rfl
 refine ENDOPS (NEXT (SEQ (SEQ (REGION [0, 1, 2, 3, 4, 5, 6, 7, 8] rfl (RUN0 5 [5, 6, 7, 8] [(1, .p 0 0), (3, .v (.slice a3 m1.length c4)), (14, B ((wh.spoke.length : Int) != 9))] ?_ rfl ?_)))))
 · as_aux_lemma => kernel_rfl
 refine SPLIT (d := 14) ((wh.spoke.length : Int) != 9) ?_ (fun bh5 => ?_) (fun bh5 => ?_)
 · as_aux_lemma => kernel_rfl
 ·
  have h5 := bh5
  have h5 := bne_iff_ne.1 h5
  refine RUN0 4 [] [(1, .p 0 0), (3, .v (.slice a3 m1.length c4)), (18, B true)] ?_ rfl ?_
  · as_aux_lemma => kernel_rfl
  refine ENDOPS (NEXT (IFT ?_ ?_))
  · as_aux_lemma => kernel_rfl
  refine SEQ (REGION [0] rfl (RUN0 1 [] [(2, B false)] ?_ rfl ?_))
  · as_aux_lemma => kernel_rfl
  refine ENDOPS (NEXT (RET (PASS trivial (FIN (.bool false) ?_ ⟨false, (fun h => by cases h)⟩ ?_ [] ?_))))
  · as_aux_lemma => kernel_rfl
  · rfl
  · rfl
 ·
  have h5 := bh5
  have h5 := bneF h5
  refine RUN0 4 [] [(1, .p 0 0), (3, .v (.slice a3 m1.length c4)), (18, B (decide ((m1.length : Int) > 10)))] ?_ rfl ?_
  · as_aux_lemma => kernel_rfl
  refine ENDOPS (NEXT (IF (decide ((m1.length : Int) > 10)) ?_ (fun bh6 => ?_) (fun bh6 => ?_)))
  · as_aux_lemma => kernel_rfl
  ·
   have h6 := bh6
   have h6 := of_decide_eq_true h6
   refine SEQ (REGION [0] rfl (RUN0 1 [] [(2, B false)] ?_ rfl ?_))
   · as_aux_lemma => kernel_rfl
   refine ENDOPS (NEXT (RET (PASS trivial (FIN (.bool false) ?_ ⟨false, (fun h => by cases h)⟩ ?_ [] ?_))))
   · as_aux_lemma => kernel_rfl
   · rfl
   · rfl
  ·
   have h6 := bh6
   have h6 := of_decide_eq_false h6
   refine SKIP (NEXT (SEQ (SEQ (REGION [0] rfl (RUN0 1 [] [(1, .p 0 0), (3, .v (.slice a3 m1.length c4)), (4, I 0)] ?_ rfl ?_)))))
   · as_aux_lemma => kernel_rfl
   refine ENDOPS (NEXT (BLOCK (LOOP (ι := Nat × (List Pin)) (fun j => [(1, .p 0 0), (3, .v (.slice a3 m1.length c4)), (4, I (j.1 : Int))]) (fun j => [(91, [.slice wh_spoke_a wh.spoke.length wh_spoke_c])]) (fun j => [slA 111 pinL (.slice a3 m1.length c4) m1]) (fun j => j.1 + j.2.length = m1.length ∧ m1.drop j.1 = j.2) (fun j => j.2.length) (0, m1) [1, 3, 4] ⟨by simp, rfl⟩ ?_ rfl rfl ?_)))
   · as_aux_lemma => kernel_rfl
   rintro ⟨k, ys⟩ ⟨hk, hd⟩
   try dsimp only at hk hd
   refine SEQ (SEQ (REGION [0, 1, 2, 3] rfl (RUN0 4 [] [(1, .p 0 0), (3, .v (.slice a3 m1.length c4)), (4, I (k : Int)), (22, B (decide ((k : Int) < (m1.length : Int))))] ?_ rfl ?_)))
   · as_aux_lemma => kernel_rfl
   refine ENDOPS (NEXT (IF (decide ((k : Int) < (m1.length : Int))) ?_ (fun bh7 => ?_) (fun bh7 => ?_)))
   · as_aux_lemma => kernel_rfl
   ·
    have h7 := bh7
    have h7 := of_decide_eq_true h7
    obtain ⟨y8, ys9, rfl, hx_y8, hd_y8, hl_y8⟩ := drop_cons hd hk (by omega)
    refine SKIP (NEXT (SEQ (BLOCK (SEQ (SEQ (REGION [0, 1, 2, 3, 4, 5, 6, 7, 8, 9, 10, 11, 12, 13, 14, 15] rfl (RUN0 2 [2, 3, 4, 5, 6, 7, 8, 9, 10, 11, 12, 13, 14, 15] [(1, .p 0 0), (3, .v (.slice a3 m1.length c4)), (4, I (k : Int)), (25, .v (.slice a3 m1.length c4)), (26, I (k : Int))] ?_ rfl ?_)))))))
    · as_aux_lemma => kernel_rfl
    refine FACT (a3.isSome = true) (fun w hw => SlO.isS (hw.own 0 rfl) (by omega)) (fun hs10 => ?_)
    refine OPC (INDEX 106 (.tmp 25) (.tmp 26) 27 0 ?_ (NL rfl) a3 m1.length c4 .i64 (k : Int) 111 2 ?_ ?_ ?_ ?_ hs10 (by omega) (by omega) ?_)
    iterate 5 (as_aux_lemma => kernel_rfl)
    refine RUN0 1 [4, 5, 6, 7, 8, 9, 10, 11, 12, 13, 14, 15] [(1, .p 0 0), (3, .v (.slice a3 m1.length c4)), (4, I (k : Int)), (28, .e a3 (k * 2) 0)] ?_ rfl ?_
    · as_aux_lemma => kernel_rfl
    refine OPC (LOADE 3 (.tmp 28) 29 3 ?_ (NL rfl) a3 (k * 2) 0 [vi y8.at', vi y8.id] (vi y8.at') ?_ (fun w hw => (hw.rdO 0 rfl).flat hx_y8) ?_ ?_)
    iterate 3 (as_aux_lemma => kernel_rfl)
    refine OPC (CALL 60 #[vi y8.at', vi 1, vi 1000008] (some 30) ?_ [] [] _ rfl (RV (.bool (inB y8.at' 1 1000008))) (fun w hw => l1In_c w y8.at' 1 1000008) (NO rfl) ?_)
    · as_aux_lemma => kernel_rfl
    rintro ⟨⟩
    refine RUN0 2 [8, 9, 10, 11, 12, 13, 14, 15] [(1, .p 0 0), (3, .v (.slice a3 m1.length c4)), (4, I (k : Int)), (32, B (!(inB y8.at' 1 1000008)))] ?_ rfl ?_
    · as_aux_lemma => kernel_rfl
    refine SPLIT (d := 32) (!(inB y8.at' 1 1000008)) ?_ (fun bh11 => ?_) (fun bh11 => ?_)
    · as_aux_lemma => kernel_rfl
    ·
     have h11 := bh11
     have h11 := notT h11
     refine RUN0 8 [] [(1, .p 0 0), (3, .v (.slice a3 m1.length c4)), (4, I (k : Int)), (40, B true)] ?_ rfl ?_
     · as_aux_lemma => kernel_rfl
     refine ENDOPS (NEXT (IFT ?_ ?_))
     · as_aux_lemma => kernel_rfl
     refine SEQ (REGION [0] rfl (RUN0 1 [] [(2, B false)] ?_ rfl ?_))
     · as_aux_lemma => kernel_rfl
     refine ENDOPS (NEXT (RET (PASS trivial (OUTR (PASS trivial (PASS trivial (OUTR (PASS trivial (FIN (.bool false) ?_ ⟨false, (fun h => by cases h)⟩ ?_ [] ?_)))))))))
     · as_aux_lemma => kernel_rfl
     · rfl
     · rfl
    ·
     have h11 := bh11
     have h11 := notF h11
     refine RUN0 2 [10, 11, 12, 13, 14, 15] [(1, .p 0 0), (3, .v (.slice a3 m1.length c4)), (4, I (k : Int)), (32, B false), (33, .v (.slice a3 m1.length c4)), (34, I (k : Int))] ?_ rfl ?_
     · as_aux_lemma => kernel_rfl
     refine OPC (INDEX 106 (.tmp 33) (.tmp 34) 35 0 ?_ (NL rfl) a3 m1.length c4 .i64 (k : Int) 111 2 ?_ ?_ ?_ ?_ hs10 (by omega) (by omega) ?_)
     iterate 5 (as_aux_lemma => kernel_rfl)
     refine RUN0 1 [12, 13, 14, 15] [(1, .p 0 0), (3, .v (.slice a3 m1.length c4)), (4, I (k : Int)), (32, B false), (36, .e a3 (k * 2) 1)] ?_ rfl ?_
     · as_aux_lemma => kernel_rfl
     refine OPC (LOADE 3 (.tmp 36) 37 3 ?_ (NL rfl) a3 (k * 2) 1 [vi y8.at', vi y8.id] (vi y8.id) ?_ (fun w hw => (hw.rdO 0 rfl).flat hx_y8) ?_ ?_)
     iterate 3 (as_aux_lemma => kernel_rfl)
     refine OPC (CALL 60 #[vi y8.id, vi 1, vi 999] (some 38) ?_ [] [] _ rfl (RV (.bool (inB y8.id 1 999))) (fun w hw => l1In_c w y8.id 1 999) (NO rfl) ?_)
     · as_aux_lemma => kernel_rfl
     rintro ⟨⟩
     refine RUN0 2 [] [(1, .p 0 0), (3, .v (.slice a3 m1.length c4)), (4, I (k : Int)), (40, B (!(inB y8.id 1 999)))] ?_ rfl ?_
     · as_aux_lemma => kernel_rfl
     refine ENDOPS (NEXT (IF (!(inB y8.id 1 999)) ?_ (fun bh12 => ?_) (fun bh12 => ?_)))
     · as_aux_lemma => kernel_rfl
     ·
      have h12 := bh12
      have h12 := notT h12
      refine SEQ (REGION [0] rfl (RUN0 1 [] [(2, B false)] ?_ rfl ?_))
      · as_aux_lemma => kernel_rfl
      refine ENDOPS (NEXT (RET (PASS trivial (OUTR (PASS trivial (PASS trivial (OUTR (PASS trivial (FIN (.bool false) ?_ ⟨false, (fun h => by cases h)⟩ ?_ [] ?_)))))))))
      · as_aux_lemma => kernel_rfl
      · rfl
      · rfl
     ·
      have h12 := bh12
      have h12 := notF h12
      refine SKIP (NEXT (SEQ (REGION [0] rfl (RUN0 1 [] [(1, .p 0 0), (3, .v (.slice a3 m1.length c4)), (4, I (k : Int)), (5, I 0)] ?_ rfl ?_))))
      · as_aux_lemma => kernel_rfl
      refine ENDOPS (NEXT (BLOCK (LOOP (ι := Nat) (fun j => [(1, .p 0 0), (3, .v (.slice a3 m1.length c4)), (4, I (k : Int)), (5, I (j : Int))]) (fun j => [(91, [.slice wh_spoke_a wh.spoke.length wh_spoke_c])]) (fun j => [slA 111 pinL (.slice a3 m1.length c4) m1]) (fun j => j ≤ k) (fun j => k - j) (0) [1, 3, 4, 5] (by first | omega | (dsimp only; omega)) ?_ rfl rfl ?_)))
      · as_aux_lemma => kernel_rfl
      rintro j hj
      try dsimp only at hj
      refine SEQ (SEQ (REGION [0, 1, 2] rfl (RUN0 3 [] [(1, .p 0 0), (3, .v (.slice a3 m1.length c4)), (4, I (k : Int)), (5, I (j : Int)), (43, B (decide ((j : Int) < (k : Int))))] ?_ rfl ?_)))
      · as_aux_lemma => kernel_rfl
      refine ENDOPS (NEXT (IF (decide ((j : Int) < (k : Int))) ?_ (fun bh13 => ?_) (fun bh13 => ?_)))
      · as_aux_lemma => kernel_rfl
      ·
       have h13 := bh13
       have h13 := of_decide_eq_true h13
       refine SKIP (NEXT (SEQ (BLOCK (SEQ (REGIONQ ?_ ?_ ?_)))))
       iterate 2 (as_aux_lemma => kernel_rfl)
       refine QRUN 2 0 2 [(1, .p 0 0), (3, .v (.slice a3 m1.length c4)), (4, I (k : Int)), (5, I (j : Int)), (46, .v (.slice a3 m1.length c4)), (47, I (j : Int))] ?_ rfl ?_
       · as_aux_lemma => kernel_rfl
       obtain ⟨x14, hx15⟩ : ∃ y, m1[j]? = some y := ⟨_, List.getElem?_eq_getElem (by omega)⟩
       refine QINDEX 106 (.tmp 46) (.tmp 47) 48 0 ?_ (NL rfl) a3 m1.length c4 .i64 (j : Int) 111 2 ?_ ?_ ?_ ?_ hs10 (by omega) (by omega) ?_
       iterate 5 (as_aux_lemma => kernel_rfl)
       refine QRUN 1 3 4 [(1, .p 0 0), (3, .v (.slice a3 m1.length c4)), (4, I (k : Int)), (5, I (j : Int)), (49, .e a3 (j * 2) 1)] ?_ rfl ?_
       · as_aux_lemma => kernel_rfl
       refine QLOADE 3 (.tmp 49) 50 3 ?_ (NL rfl) a3 (j * 2) 1 [vi x14.at', vi x14.id] (vi x14.id) ?_ (fun w hw => (hw.rdO 0 rfl).flat hx15) ?_ ?_
       iterate 3 (as_aux_lemma => kernel_rfl)
       refine QRUN 2 5 7 [(1, .p 0 0), (3, .v (.slice a3 m1.length c4)), (4, I (k : Int)), (5, I (j : Int)), (50, I x14.id), (51, .v (.slice a3 m1.length c4)), (52, I (k : Int))] ?_ rfl ?_
       · as_aux_lemma => kernel_rfl
       refine QINDEX 106 (.tmp 51) (.tmp 52) 53 0 ?_ (NL rfl) a3 m1.length c4 .i64 (k : Int) 111 2 ?_ ?_ ?_ ?_ hs10 (by omega) (by omega) ?_
       iterate 5 (as_aux_lemma => kernel_rfl)
       refine QRUN 1 8 9 [(1, .p 0 0), (3, .v (.slice a3 m1.length c4)), (4, I (k : Int)), (5, I (j : Int)), (50, I x14.id), (54, .e a3 (k * 2) 1)] ?_ rfl ?_
       · as_aux_lemma => kernel_rfl
       refine QLOADE 3 (.tmp 54) 55 3 ?_ (NL rfl) a3 (k * 2) 1 [vi y8.at', vi y8.id] (vi y8.id) ?_ (fun w hw => (hw.rdO 0 rfl).flat hx_y8) ?_ ?_
       iterate 3 (as_aux_lemma => kernel_rfl)
       refine QRUN 1 10 11 [(1, .p 0 0), (3, .v (.slice a3 m1.length c4)), (4, I (k : Int)), (5, I (j : Int)), (56, B (x14.id == y8.id))] ?_ rfl ?_
       · as_aux_lemma => kernel_rfl
       refine QEND rfl (NEXT (IF (x14.id == y8.id) ?_ (fun bh16 => ?_) (fun bh16 => ?_)))
       · as_aux_lemma => kernel_rfl
       ·
        have h16 := bh16
        have h16 := eq_of_beq h16
        refine SEQ (REGION [0] rfl (RUN0 1 [] [(2, B false)] ?_ rfl ?_))
        · as_aux_lemma => kernel_rfl
        refine ENDOPS (NEXT (RET (OUTR (PASS trivial (PASS trivial (OUTR (OUTR (PASS trivial (PASS trivial (OUTR (PASS trivial (FIN (.bool false) ?_ ⟨false, (fun h => by cases h)⟩ ?_ [] ?_))))))))))))
        · as_aux_lemma => kernel_rfl
        · rfl
        · rfl
       ·
        have h16 := bh16
        have h16 := ne_of_beq_false h16
        refine SKIP (OUTN (NEXT (REGION [0, 1, 2] rfl (RUN0 2 [2] [(1, .p 0 0), (3, .v (.slice a3 m1.length c4)), (4, I (k : Int)), (45, I (wr ((j : Int) + 1)))] ?_ rfl ?_))))
        · as_aux_lemma => kernel_rfl
        refine CAST (d := 45) (vi (wr ((j : Int) + 1))) (vi ((j + 1 : Nat) : Int)) ?_ (vi_cast (by omega) (by omega)) ?_
        · as_aux_lemma => kernel_rfl
        refine RUN0 1 [] [(1, .p 0 0), (3, .v (.slice a3 m1.length c4)), (4, I (k : Int)), (5, I ((j + 1 : Nat) : Int))] ?_ rfl ?_
        · as_aux_lemma => kernel_rfl
        refine ENDOPS (BACK (j + 1) [1, 3, 4, 5] 1 [0] _ (by first | omega | (dsimp only; omega)) (by first | omega | (dsimp only; omega)) ?_ rfl rfl rfl)
        · as_aux_lemma => kernel_rfl
      ·
       have h13 := bh13
       have h13 := of_decide_eq_false h13
       refine EXIT (PASS trivial (PASS trivial (OUT (OUTN (NEXT (REGION [0, 1, 2] rfl (RUN0 2 [2] [(1, .p 0 0), (3, .v (.slice a3 m1.length c4)), (24, I (wr ((k : Int) + 1)))] ?_ rfl ?_)))))))
       · as_aux_lemma => kernel_rfl
       refine CAST (d := 24) (vi (wr ((k : Int) + 1))) (vi ((k + 1 : Nat) : Int)) ?_ (vi_cast (by omega) (by omega)) ?_
       · as_aux_lemma => kernel_rfl
       refine RUN0 1 [] [(1, .p 0 0), (3, .v (.slice a3 m1.length c4)), (4, I ((k + 1 : Nat) : Int))] ?_ rfl ?_
       · as_aux_lemma => kernel_rfl
       refine ENDOPS (BACK (k + 1, ys9) [1, 3, 4] 1 [0] _ ⟨hl_y8, hd_y8⟩ (by simp) ?_ rfl rfl rfl)
       · as_aux_lemma => kernel_rfl
   ·
    have h7 := bh7
    have h7 := of_decide_eq_false h7
    obtain rfl := drop_nil hk (by omega)
    refine EXIT (PASS trivial (PASS trivial (OUT (NEXT (SEQ (SEQ (REGION [0] rfl (RUN0 1 [] [(1, .p 0 0), (6, I 0)] ?_ rfl ?_))))))))
    · as_aux_lemma => kernel_rfl
    refine ENDOPS (NEXT (BLOCK (LOOP (ι := Nat × (List (List Pin))) (fun j => [(1, .p 0 0), (6, I (j.1 : Int))]) (fun j => [(91, [.slice wh_spoke_a wh.spoke.length wh_spoke_c])]) (fun j => [slA 111 pinL (.slice a3 m1.length c4) m1]) (fun j => j.1 + j.2.length = wh.spoke.length ∧ wh.spoke.drop j.1 = j.2) (fun j => j.2.length) (0, wh.spoke) [1, 6] ⟨by simp, rfl⟩ ?_ rfl rfl ?_)))
    · as_aux_lemma => kernel_rfl
    rintro ⟨k, ys⟩ ⟨hk, hd⟩
    try dsimp only at hk hd
    refine SEQ (SEQ (REGION [0, 1, 2, 3, 4] rfl (RUN0 5 [] [(1, .p 0 0), (6, I (k : Int)), (61, B (decide ((k : Int) < (wh.spoke.length : Int))))] ?_ rfl ?_)))
    · as_aux_lemma => kernel_rfl
    refine ENDOPS (NEXT (IF (decide ((k : Int) < (wh.spoke.length : Int))) ?_ (fun bh17 => ?_) (fun bh17 => ?_)))
    · as_aux_lemma => kernel_rfl
    ·
     have h17 := bh17
     have h17 := of_decide_eq_true h17
     obtain ⟨y18, ys19, rfl, hx_y18, hd_y18, hl_y18⟩ := drop_cons hd hk (by omega)
     refine SKIP (NEXT (SEQ (BLOCK (SEQ (REGION [0] rfl (RUN0 1 [] [(1, .p 0 0), (6, I (k : Int)), (7, I 0)] ?_ rfl ?_))))))
     · as_aux_lemma => kernel_rfl
     refine ENDOPS (NEXT (BLOCK (LOOP (ι := Nat) (fun j => [(1, .p 0 0), (6, I (k : Int)), (7, I (j : Int))]) (fun j => [(91, [.slice wh_spoke_a wh.spoke.length wh_spoke_c])]) (fun j => [slA 111 pinL (.slice a3 m1.length c4) m1]) (fun j => j ≤ y18.length) (fun j => y18.length - j) (0) [1, 6, 7] (by first | omega | (dsimp only; omega)) ?_ rfl rfl ?_)))
     · as_aux_lemma => kernel_rfl
     rintro j hj
     try dsimp only at hj
     refine SEQ (SEQ (REGION [0, 1, 2, 3, 4, 5, 6, 7] rfl (RUN0 4 [4, 5, 6, 7] [(1, .p 0 0), (6, I (k : Int)), (7, I (j : Int)), (64, I (j : Int)), (66, .v (.slice wh_spoke_a wh.spoke.length wh_spoke_c)), (67, I (k : Int))] ?_ rfl ?_)))
     · as_aux_lemma => kernel_rfl
     obtain ⟨a20, c21, hel23, hi22⟩ := sl_view hwh_spoke hx_y18
     have hi22_len := hi22.len
     refine OPC (INDEX 89 (.tmp 66) (.tmp 67) 68 0 ?_ (NL rfl) wh_spoke_a wh.spoke.length wh_spoke_c .i64 (k : Int) 106 1 ?_ ?_ ?_ ?_ (Rd.some hwh_spoke (by omega)) (by omega) (by omega) ?_)
     iterate 5 (as_aux_lemma => kernel_rfl)
     refine OPC (LOADE 106 (.tmp 68) 69 106 ?_ (NL rfl) wh_spoke_a (k * 1) 0 [.slice a20 y18.length c21] (.slice a20 y18.length c21) ?_ (fun w hw => hel23.fr hw.fr) ?_ ?_)
     iterate 3 (as_aux_lemma => kernel_rfl)
     refine RUN0 2 [] [(1, .p 0 0), (6, I (k : Int)), (7, I (j : Int)), (71, B (decide ((j : Int) < (y18.length : Int))))] ?_ rfl ?_
     · as_aux_lemma => kernel_rfl
     refine ENDOPS (NEXT (IF (decide ((j : Int) < (y18.length : Int))) ?_ (fun bh24 => ?_) (fun bh24 => ?_)))
     · as_aux_lemma => kernel_rfl
     ·
      have h24 := bh24
      have h24 := of_decide_eq_true h24
      refine SKIP (NEXT (SEQ (BLOCK (SEQ (REGIONQ ?_ ?_ ?_)))))
      iterate 2 (as_aux_lemma => kernel_rfl)
      refine QRUN 3 0 3 [(1, .p 0 0), (6, I (k : Int)), (7, I (j : Int)), (75, .v (.slice wh_spoke_a wh.spoke.length wh_spoke_c)), (76, I (k : Int))] ?_ rfl ?_
      · as_aux_lemma => kernel_rfl
      obtain ⟨a25, c26, hel28, hi27⟩ := sl_view hwh_spoke hx_y18
      have hi27_len := hi27.len
      refine QINDEX 89 (.tmp 75) (.tmp 76) 77 0 ?_ (NL rfl) wh_spoke_a wh.spoke.length wh_spoke_c .i64 (k : Int) 106 1 ?_ ?_ ?_ ?_ (Rd.some hwh_spoke (by omega)) (by omega) (by omega) ?_
      iterate 5 (as_aux_lemma => kernel_rfl)
      refine QLOADE 106 (.tmp 77) 78 106 ?_ (NL rfl) wh_spoke_a (k * 1) 0 [.slice a25 y18.length c26] (.slice a25 y18.length c26) ?_ (fun w hw => hel28.fr hw.fr) ?_ ?_
      iterate 3 (as_aux_lemma => kernel_rfl)
      refine QRUN 1 5 6 [(1, .p 0 0), (6, I (k : Int)), (7, I (j : Int)), (78, .v (.slice a25 y18.length c26)), (79, I (j : Int))] ?_ rfl ?_
      · as_aux_lemma => kernel_rfl
      obtain ⟨x29, hx30⟩ : ∃ y, y18[j]? = some y := ⟨_, List.getElem?_eq_getElem (by omega)⟩
      refine QINDEX 106 (.tmp 78) (.tmp 79) 80 0 ?_ (NL rfl) a25 y18.length c26 .i64 (j : Int) 111 2 ?_ ?_ ?_ ?_ (Rd.some hi27 (by omega)) (by omega) (by omega) ?_
      iterate 5 (as_aux_lemma => kernel_rfl)
      refine QRUN 1 7 8 [(1, .p 0 0), (6, I (k : Int)), (7, I (j : Int)), (81, .e a25 (j * 2) 0)] ?_ rfl ?_
      · as_aux_lemma => kernel_rfl
      refine QLOADE 3 (.tmp 81) 82 3 ?_ (NL rfl) a25 (j * 2) 0 [vi x29.at', vi x29.id] (vi x29.at') ?_ (fun w hw => (hi27.fr hw.fr).flat hx30) ?_ ?_
      iterate 3 (as_aux_lemma => kernel_rfl)
      refine QRUN 4 9 13 [(1, .p 0 0), (6, I (k : Int)), (7, I (j : Int)), (86, B ((Int.tmod x29.at' 9) != (k : Int)))] ?_ rfl ?_
      · as_aux_lemma => kernel_rfl
      refine QSPLIT (d := 86) ((Int.tmod x29.at' 9) != (k : Int)) ?_ (fun bh31 => ?_) (fun bh31 => ?_)
      · as_aux_lemma => kernel_rfl
      ·
       have h31 := bh31
       have h31 := bne_iff_ne.1 h31
       refine QRUN 24 13 37 [(1, .p 0 0), (6, I (k : Int)), (7, I (j : Int)), (110, B true)] ?_ rfl ?_
       · as_aux_lemma => kernel_rfl
       refine QEND rfl (NEXT (IFT ?_ ?_))
       · as_aux_lemma => kernel_rfl
       refine SEQ (REGION [0] rfl (RUN0 1 [] [(2, B false)] ?_ rfl ?_))
       · as_aux_lemma => kernel_rfl
       refine ENDOPS (NEXT (RET (OUTR (PASS trivial (PASS trivial (OUTR (OUTR (PASS trivial (PASS trivial (OUTR (PASS trivial (FIN (.bool false) ?_ ⟨false, (fun h => by cases h)⟩ ?_ [] ?_))))))))))))
       · as_aux_lemma => kernel_rfl
       · rfl
       · rfl
      ·
       have h31 := bh31
       have h31 := bneF h31
       refine QRUN 3 13 16 [(1, .p 0 0), (6, I (k : Int)), (7, I (j : Int)), (86, B false), (89, B (decide ((j : Int) > 0)))] ?_ rfl ?_
       · as_aux_lemma => kernel_rfl
       refine QSPLIT (d := 89) (decide ((j : Int) > 0)) ?_ (fun bh32 => ?_) (fun bh32 => ?_)
       · as_aux_lemma => kernel_rfl
       ·
        have h32 := bh32
        have h32 := of_decide_eq_true h32
        refine QRUN 3 16 19 [(1, .p 0 0), (6, I (k : Int)), (7, I (j : Int)), (86, B false), (89, B true), (91, .v (.slice wh_spoke_a wh.spoke.length wh_spoke_c)), (92, I (k : Int))] ?_ rfl ?_
        · as_aux_lemma => kernel_rfl
        obtain ⟨a33, c34, hel36, hi35⟩ := sl_view hwh_spoke hx_y18
        have hi35_len := hi35.len
        refine QINDEX 89 (.tmp 91) (.tmp 92) 93 0 ?_ (NL rfl) wh_spoke_a wh.spoke.length wh_spoke_c .i64 (k : Int) 106 1 ?_ ?_ ?_ ?_ (Rd.some hwh_spoke (by omega)) (by omega) (by omega) ?_
        iterate 5 (as_aux_lemma => kernel_rfl)
        refine QLOADE 106 (.tmp 93) 94 106 ?_ (NL rfl) wh_spoke_a (k * 1) 0 [.slice a33 y18.length c34] (.slice a33 y18.length c34) ?_ (fun w hw => hel36.fr hw.fr) ?_ ?_
        iterate 3 (as_aux_lemma => kernel_rfl)
        refine QRUN 2 21 23 [(1, .p 0 0), (6, I (k : Int)), (7, I (j : Int)), (86, B false), (89, B true), (94, .v (.slice a33 y18.length c34)), (96, I (wr ((j : Int) - 1)))] ?_ rfl ?_
        · as_aux_lemma => kernel_rfl
        refine QCAST (d := 96) (vi (wr ((j : Int) - 1))) (vi ((j - 1 : Nat) : Int)) ?_ (vi_cast (by omega) (by omega)) ?_
        · as_aux_lemma => kernel_rfl
        obtain ⟨x37, hx38⟩ : ∃ y, y18[j - 1]? = some y := ⟨_, List.getElem?_eq_getElem (by omega)⟩
        refine QINDEX 106 (.tmp 94) (.tmp 96) 97 0 ?_ (NL rfl) a33 y18.length c34 .i64 ((j - 1 : Nat) : Int) 111 2 ?_ ?_ ?_ ?_ (Rd.some hi35 (by omega)) (by omega) (by omega) ?_
        iterate 5 (as_aux_lemma => kernel_rfl)
        refine QLOADE 111 (.tmp 97) 98 111 ?_ (NL rfl) a33 ((j - 1) * 2) 0 [vi x37.at', vi x37.id] (.agg #[vi x37.at', vi x37.id]) ?_ (fun w hw => (hi35.fr hw.fr).flat hx38) ?_ ?_
        iterate 3 (as_aux_lemma => kernel_rfl)
        refine QRUN 3 25 28 [(1, .p 0 0), (6, I (k : Int)), (7, I (j : Int)), (86, B false), (89, B true), (98, .v (.agg #[vi x37.at', vi x37.id])), (100, .v (.slice wh_spoke_a wh.spoke.length wh_spoke_c)), (101, I (k : Int))] ?_ rfl ?_
        · as_aux_lemma => kernel_rfl
        obtain ⟨a39, c40, hel42, hi41⟩ := sl_view hwh_spoke hx_y18
        have hi41_len := hi41.len
        refine QINDEX 89 (.tmp 100) (.tmp 101) 102 0 ?_ (NL rfl) wh_spoke_a wh.spoke.length wh_spoke_c .i64 (k : Int) 106 1 ?_ ?_ ?_ ?_ (Rd.some hwh_spoke (by omega)) (by omega) (by omega) ?_
        iterate 5 (as_aux_lemma => kernel_rfl)
        refine QLOADE 106 (.tmp 102) 103 106 ?_ (NL rfl) wh_spoke_a (k * 1) 0 [.slice a39 y18.length c40] (.slice a39 y18.length c40) ?_ (fun w hw => hel42.fr hw.fr) ?_ ?_
        iterate 3 (as_aux_lemma => kernel_rfl)
        refine QRUN 1 30 31 [(1, .p 0 0), (6, I (k : Int)), (7, I (j : Int)), (86, B false), (89, B true), (98, .v (.agg #[vi x37.at', vi x37.id])), (103, .v (.slice a39 y18.length c40)), (104, I (j : Int))] ?_ rfl ?_
        · as_aux_lemma => kernel_rfl
        refine QINDEX 106 (.tmp 103) (.tmp 104) 105 0 ?_ (NL rfl) a39 y18.length c40 .i64 (j : Int) 111 2 ?_ ?_ ?_ ?_ (Rd.some hi41 (by omega)) (by omega) (by omega) ?_
        iterate 5 (as_aux_lemma => kernel_rfl)
        refine QLOADE 111 (.tmp 105) 106 111 ?_ (NL rfl) a39 (j * 2) 0 [vi x29.at', vi x29.id] (.agg #[vi x29.at', vi x29.id]) ?_ (fun w hw => (hi41.fr hw.fr).flat hx30) ?_ ?_
        iterate 3 (as_aux_lemma => kernel_rfl)
        refine QCALL 99 #[.agg #[vi x37.at', vi x37.id], .agg #[vi x29.at', vi x29.id]] (some 107) ?_ (.bool (pinLess x37 x29)) (fun w hw => l9Less_c w x37 x29) (NO rfl) ?_
        · as_aux_lemma => kernel_rfl
        refine QRUN 3 34 37 [(1, .p 0 0), (6, I (k : Int)), (7, I (j : Int)), (110, B (!(pinLess x37 x29)))] ?_ rfl ?_
        · as_aux_lemma => kernel_rfl
        refine QEND rfl (NEXT (IF (!(pinLess x37 x29)) ?_ (fun bh43 => ?_) (fun bh43 => ?_)))
        · as_aux_lemma => kernel_rfl
        ·
         have h43 := bh43
         have h43 := notT h43
         refine SEQ (REGION [0] rfl (RUN0 1 [] [(2, B false)] ?_ rfl ?_))
         · as_aux_lemma => kernel_rfl
         refine ENDOPS (NEXT (RET (OUTR (PASS trivial (PASS trivial (OUTR (OUTR (PASS trivial (PASS trivial (OUTR (PASS trivial (FIN (.bool false) ?_ ⟨false, (fun h => by cases h)⟩ ?_ [] ?_))))))))))))
         · as_aux_lemma => kernel_rfl
         · rfl
         · rfl
        ·
         have h43 := bh43
         have h43 := notF h43
         refine SKIP (OUTN (NEXT (REGION [0, 1, 2] rfl (RUN0 2 [2] [(1, .p 0 0), (6, I (k : Int)), (73, I (wr ((j : Int) + 1)))] ?_ rfl ?_))))
         · as_aux_lemma => kernel_rfl
         refine CAST (d := 73) (vi (wr ((j : Int) + 1))) (vi ((j + 1 : Nat) : Int)) ?_ (vi_cast (by omega) (by omega)) ?_
         · as_aux_lemma => kernel_rfl
         refine RUN0 1 [] [(1, .p 0 0), (6, I (k : Int)), (7, I ((j + 1 : Nat) : Int))] ?_ rfl ?_
         · as_aux_lemma => kernel_rfl
         refine ENDOPS (BACK (j + 1) [1, 6, 7] 1 [0] _ (by first | omega | (dsimp only; omega)) (by first | omega | (dsimp only; omega)) ?_ rfl rfl rfl)
         · as_aux_lemma => kernel_rfl
       ·
        have h32 := bh32
        have h32 := of_decide_eq_false h32
        refine QRUN 21 16 37 [(1, .p 0 0), (6, I (k : Int)), (7, I (j : Int)), (110, B false)] ?_ rfl ?_
        · as_aux_lemma => kernel_rfl
        refine QEND rfl (NEXT (IFF ?_ ?_))
        · as_aux_lemma => kernel_rfl
        refine SKIP (OUTN (NEXT (REGION [0, 1, 2] rfl (RUN0 2 [2] [(1, .p 0 0), (6, I (k : Int)), (73, I (wr ((j : Int) + 1)))] ?_ rfl ?_))))
        · as_aux_lemma => kernel_rfl
        refine CAST (d := 73) (vi (wr ((j : Int) + 1))) (vi ((j + 1 : Nat) : Int)) ?_ (vi_cast (by omega) (by omega)) ?_
        · as_aux_lemma => kernel_rfl
        refine RUN0 1 [] [(1, .p 0 0), (6, I (k : Int)), (7, I ((j + 1 : Nat) : Int))] ?_ rfl ?_
        · as_aux_lemma => kernel_rfl
        refine ENDOPS (BACK (j + 1) [1, 6, 7] 1 [0] _ (by first | omega | (dsimp only; omega)) (by first | omega | (dsimp only; omega)) ?_ rfl rfl rfl)
        · as_aux_lemma => kernel_rfl
     ·
      have h24 := bh24
      have h24 := of_decide_eq_false h24
      refine EXIT (PASS trivial (PASS trivial (OUT (OUTN (NEXT (REGION [0, 1, 2] rfl (RUN0 2 [2] [(1, .p 0 0), (63, I (wr ((k : Int) + 1)))] ?_ rfl ?_)))))))
      · as_aux_lemma => kernel_rfl
      refine CAST (d := 63) (vi (wr ((k : Int) + 1))) (vi ((k + 1 : Nat) : Int)) ?_ (vi_cast (by omega) (by omega)) ?_
      · as_aux_lemma => kernel_rfl
      refine RUN0 1 [] [(1, .p 0 0), (6, I ((k + 1 : Nat) : Int))] ?_ rfl ?_
      · as_aux_lemma => kernel_rfl
      refine ENDOPS (BACK (k + 1, ys19) [1, 6] 1 [0] _ ⟨hl_y18, hd_y18⟩ (by simp) ?_ rfl rfl rfl)
      · as_aux_lemma => kernel_rfl
    ·
     have h17 := bh17
     have h17 := of_decide_eq_false h17
     obtain rfl := drop_nil hk (by omega)
     refine EXIT (PASS trivial (PASS trivial (OUT (NEXT (SEQ (REGION [0] rfl (RUN0 1 [] [(2, B true)] ?_ rfl ?_)))))))
     · as_aux_lemma => kernel_rfl
     refine ENDOPS (NEXT (RET (FIN (.bool true) ?_ ⟨true, (fun _ => by first | omega | (dsimp only; omega))⟩ ?_ [] ?_)))
     · as_aux_lemma => kernel_rfl
     · rfl
     · rfl

end SX
end Go.Proofs.YtpdijcbgdalphabGreatDoor
