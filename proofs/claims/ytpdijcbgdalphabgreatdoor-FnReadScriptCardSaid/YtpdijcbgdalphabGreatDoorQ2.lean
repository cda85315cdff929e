/- Walks, printed by program. -/
import Derived.Test.YtpdijcbgdalphabGreatDoorQ1
namespace Go.Proofs.YtpdijcbgdalphabGreatDoor
namespace SX
open Go Go.RowKit
set_option linter.unusedVariables false
set_option linter.unusedSimpArgs false
set_option maxRecDepth 10000
set_option maxHeartbeats 400000
theorem l1Pick_c (W : World) (d : Cd) (hd : CodeOk W d) (p : Value) (list : List (List UInt8)) (list_a : Option Addr) (list_c : Nat) (hlist : RdP W p strL list_a list) (hl : 0 < list.length) (hs : ∀ z ∈ list, z.length ≤ 4) : Spec Tryz.prog W [curA d p] 41 #[p, .slice list_a list.length list_c] (⟨{x : List UInt8 // x.length ≤ 4}, fun q => .string (bs q.1), fun q => [curA (d) p]⟩) := by
 refine ENTERC (N := 12) (vs := [p, .slice list_a list.length list_c]) Tryz.func41 rfl rfl (NL rfl) (fun S0 hS hP => ?_)
 have hlist_len := hlist.len
 refine SEQ (REGION [0] rfl (RUN0 1 [] [(0, .v (p)), (1, .v (.slice list_a list.length list_c))] ?_ rfl ?_))
 · as_aux_lemma => kernel_rfl
 refine ENDOPS (NEXT (SEQ (REGION [0, 1, 2, 3, 4, 5, 6, 7] rfl (RUN0 4 [4, 5, 6, 7] [(5, .v (.slice list_a list.length list_c)), (6, .v (p)), (8, I (list.length : Int))] ?_ rfl ?_))))
 · as_aux_lemma => kernel_rfl
 refine OPC (CALL 29 #[p, vi (list.length : Int)] (some 9) ?_ [0] [curA (d) p] _ rfl (⟨{x : Int // 0 ≤ x ∧ ((list.length : Int) ≤ 0 → x = 0) ∧ (0 < (list.length : Int) → x < (list.length : Int))}, fun q => vi q.1, fun q => [curA (d) p]⟩) (fun w hw => l1Below_c w (d) (hd.fr hw.fr hS) p (list.length : Int)) (NO rfl) ?_)
 · as_aux_lemma => kernel_rfl
 rintro ⟨m1, hm2⟩
 try dsimp only at hm2
 obtain ⟨x3, hx4⟩ : ∃ y, list[m1.toNat]? = some y := ⟨_, List.getElem?_eq_getElem (by omega)⟩
 refine OPC (INDEX 36 (.tmp 5) (.tmp 9) 10 0 ?_ (NL rfl) list_a list.length list_c .i64 m1 9 1 ?_ ?_ ?_ ?_ (Rd.some hlist.rd0 (by omega)) (by omega) (by omega) ?_)
 iterate 5 (as_aux_lemma => kernel_rfl)
 refine OPC (LOADE 9 (.tmp 10) 11 9 ?_ (NL rfl) list_a (m1.toNat * 1) 0 [.string (bs x3)] (.string (bs x3)) ?_ (fun w hw => (hlist.rd hw.fr hP).flat hx4) ?_ ?_)
 iterate 3 (as_aux_lemma => kernel_rfl)
 refine RUN0 1 [] [(4, .v (.string (bs x3)))] ?_ rfl ?_
 · as_aux_lemma => kernel_rfl
 refine ENDOPS (NEXT (RET (FIN (.string (bs x3)) ?_ ⟨x3, (hs _ (List.mem_of_getElem? (by assumption)))⟩ ?_ [0] ?_)))
 · as_aux_lemma => kernel_rfl
 · rfl
 · rfl

theorem l29Turned_c (W : World) (d : Cd) (hd : CodeOk W d) (p : Value) (s : List UInt8) (hs : s.length ≤ 100000) : Spec Tryz.prog W [curA d p] 24 #[p, .string (bs s)] (⟨{x : List UInt8 // x.length ≤ s.length + 4}, fun q => .string (bs q.1), fun q => [curA (d) p]⟩) := by
 refine ENTERC (N := 32) (vs := [p, .string (bs s)]) Tryz.func24 rfl rfl (NL rfl) (fun S0 hS hP => ?_)
 refine SEQ (REGION [0] rfl (RUN0 1 [] [(0, .v (p)), (1, .v (.string (bs s)))] ?_ rfl ?_))
 · as_aux_lemma => kernel_rfl
 refine ENDOPS (NEXT (SEQ (REGION [0, 1, 2, 3, 4, 5] rfl (RUN0 4 [4, 5] [(0, .v (p)), (1, .v (.string (bs s))), (6, .v (p)), (9, I (wr ((s.length : Int) + 1)))] ?_ rfl ?_))))
 · as_aux_lemma => kernel_rfl
 refine CAST (d := 9) (vi (wr ((s.length : Int) + 1))) (vi ((s.length + 1 : Nat) : Int)) ?_ (vi_cast (by omega) (by omega)) ?_
 · as_aux_lemma => kernel_rfl
 refine OPC (CALL 29 #[p, vi ((s.length + 1 : Nat) : Int)] (some 10) ?_ [0] [curA (d) p] _ rfl (⟨{x : Int // 0 ≤ x ∧ (((s.length + 1 : Nat) : Int) ≤ 0 → x = 0) ∧ (0 < ((s.length + 1 : Nat) : Int) → x < ((s.length + 1 : Nat) : Int))}, fun q => vi q.1, fun q => [curA (d) p]⟩) (fun w hw => l1Below_c w (d) (hd.fr hw.fr hS) p ((s.length + 1 : Nat) : Int)) (NO rfl) ?_)
 · as_aux_lemma => kernel_rfl
 rintro ⟨m1, hm2⟩
 try dsimp only at hm2
 refine RUN0 1 [] [(0, .v (p)), (1, .v (.string (bs s))), (5, I m1)] ?_ rfl ?_
 · as_aux_lemma => kernel_rfl
 refine ENDOPS (NEXT (SEQ (SEQ (REGION [0, 1] rfl (RUN0 1 [1] [(0, .v (p)), (1, .v (.string (bs s))), (5, I m1), (11, .v (p))] ?_ rfl ?_)))))
 · as_aux_lemma => kernel_rfl
 refine OPC (CALL 29 #[p, vi 8] (some 12) ?_ [0] [curA (d) p] _ rfl (⟨{x : Int // 0 ≤ x ∧ (8 ≤ 0 → x = 0) ∧ (0 < 8 → x < 8)}, fun q => vi q.1, fun q => [curA (d) p]⟩) (fun w hw => l1Below_c w (d) (hd.fr hw.fr hS) p 8) (NO rfl) ?_)
 · as_aux_lemma => kernel_rfl
 rintro ⟨m3, hm4⟩
 try dsimp only at hm4
 refine ENDOPS (NEXT (BLOCK (SEQ (REGION [0, 1] rfl (RUN0 2 [] [(0, .v (p)), (1, .v (.string (bs s))), (5, I m1), (12, I m3), (13, B (m3 == 0))] ?_ rfl ?_)))))
 · as_aux_lemma => kernel_rfl
 refine ENDOPS (NEXT (IF (m3 == 0) ?_ (fun bh5 => ?_) (fun bh5 => ?_)))
 · as_aux_lemma => kernel_rfl
 ·
  have h5 := bh5
  have h5 := eq_of_beq h5
  refine SEQ (REGIONH ?_ 12 rfl [] ?_)
  · as_aux_lemma => kernel_rfl
  refine HPURE (js := []) 0 [(0, .v (p)), (1, .v (.string (bs s))), (5, I m1), (15, .v (.string (bs s)))] ?_ ?_ rfl ?_
  iterate 2 (as_aux_lemma => kernel_rfl)
  refine HPURE (js := []) 1 [(0, .v (p)), (1, .v (.string (bs s))), (5, I m1), (15, .v (.string (bs s))), (16, I m1)] ?_ ?_ rfl ?_
  iterate 2 (as_aux_lemma => kernel_rfl)
  refine HRUNV (i := 2) (js := [])  (.slice 9 (.tmp 15) none (some (.tmp 16)) none) 17 9 ?_ (NL rfl) (.string (bs (s.take m1.toNat))) (runs_to (s := s) (kh := .i64) (j := m1) ?_ ?_ ?_ (by first | omega | (simp only [List.length_append, List.length_cons, List.length_nil, List.length_take, List.length_drop] at *; omega)) (by first | omega | (simp only [List.length_append, List.length_cons, List.length_nil, List.length_take, List.length_drop] at *; omega))) ?_ rfl ?_
  iterate 5 (as_aux_lemma => kernel_rfl)
  refine HPURE (js := []) 3 [(1, .v (.string (bs s))), (5, I m1), (17, .v (.string (bs (s.take m1.toNat)))), (18, .v (p))] ?_ ?_ rfl ?_
  iterate 2 (as_aux_lemma => kernel_rfl)
  refine HPURE (js := []) 7 [(5, I m1), (17, .v (.string (bs (s.take m1.toNat)))), (18, .v (p)), (22, .v (.string (bs s)))] ?_ ?_ rfl ?_
  iterate 2 (as_aux_lemma => kernel_rfl)
  refine HPURE (js := []) 8 [(17, .v (.string (bs (s.take m1.toNat)))), (18, .v (p)), (22, .v (.string (bs s))), (23, I m1)] ?_ ?_ rfl ?_
  iterate 2 (as_aux_lemma => kernel_rfl)
  refine HRUNV (i := 9) (js := [])  (.slice 9 (.tmp 22) (some (.tmp 23)) none none) 24 9 ?_ (NL rfl) (.string (bs (s.drop m1.toNat))) (runs_from (s := s) (kl := .i64) (i := m1) ?_ ?_ ?_ (by first | omega | (simp only [List.length_append, List.length_cons, List.length_nil, List.length_take, List.length_drop] at *; omega)) (by first | omega | (simp only [List.length_append, List.length_cons, List.length_nil, List.length_take, List.length_drop] at *; omega))) ?_ rfl ?_
  iterate 5 (as_aux_lemma => kernel_rfl)
  refine HALL [4] ?_ (by decide) ?_
  · as_aux_lemma => kernel_rfl
  refine BUILDS 36 8 #[(0, .const (.string (bs ([32])))), (1, .const (.string (bs ([48])))), (2, .const (.string (bs ([55])))), (3, .const (.string (bs ([45])))), (4, .const (.string (bs ([120])))), (5, .const (.string (bs ([116, 105, 99, 107])))), (6, .const (.string (bs ([10])))), (7, .const (.string (bs ([10, 10]))))] 19 36 ?_ (NL rfl) 9 [.string (bs ([32])), .string (bs ([48])), .string (bs ([55])), .string (bs ([45])), .string (bs ([120])), .string (bs ([116, 105, 99, 107])), .string (bs ([10])), .string (bs ([10, 10]))] ?_ strL ([[32], [48], [55], [45], [120], [116, 105, 99, 107], [10], [10, 10]] : List (List UInt8)) rfl (by simp only [maxLen]; omega) [] [] _ rfl (flatRep rfl) (fun a6 ha7 => ?_)
  iterate 2 (as_aux_lemma => kernel_rfl)
  refine HKEEP (js := []) rfl (HALL [5] ?_ (by decide) ?_)
  · as_aux_lemma => kernel_rfl
  refine FACT (8 = ([[32], [48], [55], [45], [120], [116, 105, 99, 107], [10], [10, 10]] : List (List UInt8)).length) (fun w hw => (SlO.lenE (hw.own 1 rfl)).1) (fun hln8 => ?_)
  refine CALL 41 #[p, .slice a6 8 8] (some 20) ?_ [0] [curA (d) p] _ rfl (⟨{x : List UInt8 // x.length ≤ 4}, fun q => .string (bs q.1), fun q => [curA (d) p]⟩) (fun w hw => (congrArg (fun z : Nat => Spec Tryz.prog w [curA (d) p] 41 #[p, .slice a6 z 8] (⟨{x : List UInt8 // x.length ≤ 4}, fun q => .string (bs q.1), fun q => [curA (d) p]⟩)) hln8).mpr (l1Pick_c w (d) (hd.fr hw.fr hS) p ([[32], [48], [55], [45], [120], [116, 105, 99, 107], [10], [10, 10]] : List (List UInt8)) a6 8 (RdP.own hw 1 0 rfl rfl (by decide)) (by first | omega | decide | simp) (by simp))) (NO rfl) ?_
  · as_aux_lemma => kernel_rfl
  rintro ⟨m9, hm10⟩
  try dsimp only at hm10
  refine HKEEP (js := []) rfl (HRUNV (i := 6) (js := [])  (.binOp .add 9 (.tmp 17) (.tmp 20) 9) 21 9 ?_ (NL rfl) (.string (bs ((s.take m1.toNat) ++ m9))) (runs_scat (a := s.take m1.toNat) (b := m9) ?_ ?_ (by first | omega | (simp only [List.length_append, List.length_cons, List.length_nil, List.length_take, List.length_drop] at *; omega))) ?_ rfl ?_)
  iterate 4 (as_aux_lemma => kernel_rfl)
  refine HRUNV (i := 10) (js := [])  (.binOp .add 9 (.tmp 21) (.tmp 24) 9) 25 9 ?_ (NL rfl) (.string (bs (((s.take m1.toNat) ++ m9) ++ (s.drop m1.toNat)))) (runs_scat (a := (s.take m1.toNat) ++ m9) (b := s.drop m1.toNat) ?_ ?_ (by first | omega | (simp only [List.length_append, List.length_cons, List.length_nil, List.length_take, List.length_drop] at *; omega))) ?_ rfl ?_
  iterate 4 (as_aux_lemma => kernel_rfl)
  refine HPURE (js := []) 11 [(4, .v (.string (bs (((s.take m1.toNat) ++ m9) ++ (s.drop m1.toNat)))))] ?_ ?_ rfl ?_
  iterate 2 (as_aux_lemma => kernel_rfl)
  refine HEND ?_ ?_
  · as_aux_lemma => kernel_rfl
  refine NEXT (RET (OUTR (PASS trivial (FIN (.string (bs (((s.take m1.toNat) ++ m9) ++ (s.drop m1.toNat)))) ?_ ⟨((s.take m1.toNat) ++ m9) ++ (s.drop m1.toNat), (by first | omega | (simp only [List.length_append, List.length_cons, List.length_nil, List.length_take, List.length_drop]; omega))⟩ ?_ [1] ?_))))
  · as_aux_lemma => kernel_rfl
  · rfl
  · rfl
 ·
  have h5 := bh5
  have h5 := ne_of_beq_false h5
  refine SEQ (REGION [0, 1] rfl (RUN0 2 [] [(1, .v (.string (bs s))), (5, I m1), (26, B (m3 == 1))] ?_ rfl ?_))
  · as_aux_lemma => kernel_rfl
  refine ENDOPS (NEXT (IF (m3 == 1) ?_ (fun bh11 => ?_) (fun bh11 => ?_)))
  · as_aux_lemma => kernel_rfl
  ·
   have h11 := bh11
   have h11 := eq_of_beq h11
   refine SEQ (REGION [0, 1, 2, 3] rfl (RUN0 2 [2, 3] [(28, .v (.string (bs s))), (29, I m1)] ?_ rfl ?_))
   · as_aux_lemma => kernel_rfl
   refine OPC (RUNV (.slice 9 (.tmp 28) none (some (.tmp 29)) none) 30 9 ?_ (NL rfl) (.string (bs (s.take m1.toNat))) (runs_to (s := s) (kh := .i64) (j := m1) ?_ ?_ ?_ (by first | omega | (simp only [List.length_append, List.length_cons, List.length_nil, List.length_take, List.length_drop] at *; omega)) (by first | omega | (simp only [List.length_append, List.length_cons, List.length_nil, List.length_take, List.length_drop] at *; omega))) ?_)
   iterate 4 (as_aux_lemma => kernel_rfl)
   refine RUN0 1 [] [(4, .v (.string (bs (s.take m1.toNat))))] ?_ rfl ?_
   · as_aux_lemma => kernel_rfl
   refine ENDOPS (NEXT (RET (OUTR (PASS trivial (FIN (.string (bs (s.take m1.toNat))) ?_ ⟨s.take m1.toNat, (by first | omega | (simp only [List.length_append, List.length_cons, List.length_nil, List.length_take, List.length_drop]; omega))⟩ ?_ [0] ?_)))))
   · as_aux_lemma => kernel_rfl
   · rfl
   · rfl
  ·
   have h11 := bh11
   have h11 := ne_of_beq_false h11
   refine SKIP (OUTN (NEXT (SEQ (REGION [0, 1] rfl (RUN0 2 [] [(4, .v (.string (bs s)))] ?_ rfl ?_)))))
   · as_aux_lemma => kernel_rfl
   refine ENDOPS (NEXT (RET (FIN (.string (bs s)) ?_ ⟨s, (by first | omega | (simp only [List.length_append, List.length_cons, List.length_nil, List.length_take, List.length_drop]; omega))⟩ ?_ [0] ?_)))
   · as_aux_lemma => kernel_rfl
   · rfl
   · rfl

theorem drawReadScript_c (W : World) (code : List UInt8) (code_a : Option Addr) (code_c : Nat) (hcode : Rd byteL W code_a code) : Spec Tryz.prog W [] 13 #[.slice code_a code.length code_c] (⟨{x : List UInt8 // x.length ≤ 1048576}, fun q => .string (bs q.1), fun q => []⟩) := by
 refine ENTER0 (N := 17) (vs := [.slice code_a code.length code_c]) Tryz.func13 rfl rfl (NL rfl) ?_
 have hcode_len := hcode.len
 refine SEQ (REGION [0] rfl (RUN0 1 [] [(0, .v (.slice code_a code.length code_c))] ?_ rfl ?_))
 · as_aux_lemma => kernel_rfl
 refine ENDOPS (NEXT (SEQ (REGION [0, 1, 2] rfl (RUN0 1 [1, 2] [(5, .v (.slice code_a code.length code_c))] ?_ rfl ?_))))
 · as_aux_lemma => kernel_rfl
 refine OPC (CALL 17 #[.slice code_a code.length code_c] (some 6) ?_ [] [] _ rfl (⟨Value, fun p => p, fun p => [curA (⟨W.heap.size, 60, code_a, code.length, code_c⟩) p]⟩) (fun w hw => l1New_c w code code_a code_c (hcode.fr hw.fr) W.heap.size hw.fr.size) (NO rfl) ?_)
 · as_aux_lemma => kernel_rfl
 rintro p1
 refine RUN0 1 [] [(3, .v (p1))] ?_ rfl ?_
 · as_aux_lemma => kernel_rfl
 refine ENDOPS (NEXT (SEQ (REGION [0, 1, 2, 3] rfl (RUN0 1 [1, 2, 3] [(3, .v (p1)), (7, .v (p1))] ?_ rfl ?_))))
 · as_aux_lemma => kernel_rfl
 refine OPC (CALL 16 #[p1] (some 8) ?_ [0] [curA (⟨W.heap.size, 60, code_a, code.length, code_c⟩) p1] _ rfl (⟨{q : (HH) × (List Req) // (fun x : List Req => x.length ≤ 201) q.2}, fun q => .slice q.1.1.1 q.1.2.length q.1.1.2, fun q => [slA 30 reqL (.slice q.1.1.1 q.1.2.length q.1.1.2) q.1.2, curA (⟨W.heap.size, 60, code_a, code.length, code_c⟩) p1]⟩) (fun w hw => l29List_c w (⟨W.heap.size, 60, code_a, code.length, code_c⟩) (CodeOk.of hcode hw.fr) p1) (NO rfl) ?_)
 · as_aux_lemma => kernel_rfl
 rintro ⟨⟨⟨a4, c5⟩, m2⟩, hm3⟩
 try dsimp only at hm3
 refine OPC (CALL 8 #[.slice a4 m2.length c5] (some 9) ?_ [] [] _ rfl (RV (.string (bs (scriptText m2)))) (fun w hw => sScriptText_c w m2 a4 c5 (hw.rdO 0 rfl)) (NO rfl) ?_)
 · as_aux_lemma => kernel_rfl
 rintro ⟨⟩
 have hr6 := script_len2 m2
 refine RUN0 1 [] [(3, .v (p1)), (4, .v (.string (bs (scriptText m2))))] ?_ rfl ?_
 · as_aux_lemma => kernel_rfl
 refine ENDOPS (NEXT (SEQ (SEQ (REGION [0, 1] rfl (RUN0 1 [1] [(3, .v (p1)), (4, .v (.string (bs (scriptText m2)))), (10, .v (p1))] ?_ rfl ?_)))))
 · as_aux_lemma => kernel_rfl
 refine OPC (CALL 23 #[p1, vi 40] (some 11) ?_ [1] [curA (⟨W.heap.size, 60, code_a, code.length, code_c⟩) p1] _ rfl (⟨{x : Bool // True}, fun q => .bool q.1, fun q => [curA (⟨W.heap.size, 60, code_a, code.length, code_c⟩) p1]⟩) (fun w hw => l1Once_c w (⟨W.heap.size, 60, code_a, code.length, code_c⟩) (CodeOk.of hcode hw.fr) p1 40) (NO rfl) ?_)
 · as_aux_lemma => kernel_rfl
 rintro ⟨m7, hm8⟩
 try dsimp only at hm8
 refine ENDOPS (NEXT (IF (m7) ?_ (fun bh9 => ?_) (fun bh9 => ?_)))
 · as_aux_lemma => kernel_rfl
 ·
  have h9 := bh9
  refine SEQ (REGION [0, 1, 2] rfl (RUN0 1 [1, 2] [(12, .v (.string (bs (scriptText m2))))] ?_ rfl ?_))
  · as_aux_lemma => kernel_rfl
  refine OPC (RUNV (.binOp .add 9 (.tmp 12) (.const (.string (bs ([10, 116, 105, 99, 107, 10, 116, 105, 99, 107])))) 9) 13 9 ?_ (NL rfl) (.string (bs ((scriptText m2) ++ ([10, 116, 105, 99, 107, 10, 116, 105, 99, 107])))) (runs_scat (a := scriptText m2) (b := [10, 116, 105, 99, 107, 10, 116, 105, 99, 107]) ?_ ?_ (by first | omega | (simp only [List.length_append, List.length_cons, List.length_nil, List.length_take, List.length_drop] at *; omega))) ?_)
  iterate 3 (as_aux_lemma => kernel_rfl)
  refine RUN0 1 [] [(2, .v (.string (bs ((scriptText m2) ++ ([10, 116, 105, 99, 107, 10, 116, 105, 99, 107])))))] ?_ rfl ?_
  · as_aux_lemma => kernel_rfl
  refine ENDOPS (NEXT (RET (PASS trivial (FIN (.string (bs ((scriptText m2) ++ ([10, 116, 105, 99, 107, 10, 116, 105, 99, 107])))) ?_ ⟨(scriptText m2) ++ ([10, 116, 105, 99, 107, 10, 116, 105, 99, 107]), (by first | omega | (simp only [List.length_append, List.length_cons, List.length_nil, List.length_take, List.length_drop]; omega))⟩ ?_ [] ?_))))
  · as_aux_lemma => kernel_rfl
  · rfl
  · rfl
 ·
  have h9 := bh9
  refine SKIP (NEXT (SEQ (REGION [0, 1, 2, 3] rfl (RUN0 2 [2, 3] [(14, .v (p1)), (15, .v (.string (bs (scriptText m2))))] ?_ rfl ?_))))
  · as_aux_lemma => kernel_rfl
  refine OPC (CALL 24 #[p1, .string (bs (scriptText m2))] (some 16) ?_ [1] [curA (⟨W.heap.size, 60, code_a, code.length, code_c⟩) p1] _ rfl (⟨{x : List UInt8 // x.length ≤ (scriptText m2).length + 4}, fun q => .string (bs q.1), fun q => [curA (⟨W.heap.size, 60, code_a, code.length, code_c⟩) p1]⟩) (fun w hw => l29Turned_c w (⟨W.heap.size, 60, code_a, code.length, code_c⟩) (CodeOk.of hcode hw.fr) p1 (scriptText m2) (by first | assumption | omega)) (NO rfl) ?_)
  · as_aux_lemma => kernel_rfl
  rintro ⟨m10, hm11⟩
  try dsimp only at hm11
  refine RUN0 1 [] [(2, .v (.string (bs m10)))] ?_ rfl ?_
  · as_aux_lemma => kernel_rfl
  refine ENDOPS (NEXT (RET (FIN (.string (bs m10)) ?_ ⟨m10, (by first | omega | (simp only [List.length_append, List.length_cons, List.length_nil, List.length_take, List.length_drop]; omega))⟩ ?_ [] ?_)))
  · as_aux_lemma => kernel_rfl
  · rfl
  · rfl

theorem fnReadScript_c (W : World) (code : List UInt8) (code_a : Option Addr) (code_c : Nat) (hcode : Rd byteL W code_a code) (htab : Tab Tryz.prog W) (hmx : MaxL Tryz.prog W) : Spec Tryz.prog W [] 4 #[.slice code_a code.length code_c] (RV (.bool true)) := by
 refine ENTER0 (N := 70) (vs := [.slice code_a code.length code_c]) Tryz.func4 rfl rfl (NL rfl) ?_
 have hcode_len := hcode.len
 refine SEQ (REGION [0] rfl (RUN0 1 [] [(0, .v (.slice code_a code.length code_c))] ?_ rfl ?_))
 · as_aux_lemma => kernel_rfl
 refine ENDOPS (NEXT (SEQ (SEQ (REGION [0, 1] rfl (RUN0 1 [1] [(0, .v (.slice code_a code.length code_c)), (12, .v (.slice code_a code.length code_c))] ?_ rfl ?_)))))
 · as_aux_lemma => kernel_rfl
 refine OPC (CALL 5 #[.slice code_a code.length code_c] (some 13) ?_ [] [] _ rfl (RV (.bool (decide ((code.length : Int) > 1048576)))) (fun w hw => big_c w code code_a code_c (hcode.fr hw.fr)) (NO rfl) ?_)
 · as_aux_lemma => kernel_rfl
 rintro ⟨⟩
 refine ENDOPS (NEXT (IF (decide ((code.length : Int) > 1048576)) ?_ (fun bh1 => ?_) (fun bh1 => ?_)))
 · as_aux_lemma => kernel_rfl
 ·
  have h1 := bh1
  have h1 := of_decide_eq_true h1
  refine SEQ (REGION [0] rfl (RUN0 1 [] [(2, B true)] ?_ rfl ?_))
  · as_aux_lemma => kernel_rfl
  refine ENDOPS (NEXT (RET (PASS trivial (FIN (.bool true) ?_ () ?_ [] ?_))))
  · as_aux_lemma => kernel_rfl
  · (first | rfl | (exfalso; simp_all; done) | (simp [RV, hng]; done) | (simp [RV, hmn]; done) | (simp [RV]; omega) | (simp_all [RV]; done))
  · rfl
 ·
  have h1 := bh1
  have h1 := of_decide_eq_false h1
  refine SKIP (NEXT (SEQ (REGION [0, 1, 2] rfl (RUN0 1 [1, 2] [(14, .v (.slice code_a code.length code_c))] ?_ rfl ?_))))
  · as_aux_lemma => kernel_rfl
  refine OPC (CALL 13 #[.slice code_a code.length code_c] (some 15) ?_ [] [] _ rfl (⟨{x : List UInt8 // x.length ≤ 1048576}, fun q => .string (bs q.1), fun q => []⟩) (fun w hw => drawReadScript_c w code code_a code_c (hcode.fr hw.fr)) (NO rfl) ?_)
  · as_aux_lemma => kernel_rfl
  rintro ⟨m2, hm3⟩
  try dsimp only at hm3
  refine RUN0 1 [] [(3, .v (.string (bs m2)))] ?_ rfl ?_
  · as_aux_lemma => kernel_rfl
  refine ENDOPS (NEXT (SEQ (REGION [0, 1, 2, 3, 4, 5, 6] rfl (RUN0 1 [1, 2, 3, 4, 5, 6] [(3, .v (.string (bs m2))), (17, .v (.string (bs m2)))] ?_ rfl ?_))))
  · as_aux_lemma => kernel_rfl
  refine OPC (CALL 9 #[.string (bs m2)] (some 18) ?_ [] [] _ rfl (⟨HH, fun p => .tuple #[.slice p.1 (((readScript m2).1).length) p.2, vi ((readScript m2).2)], fun p => [slA 30 reqL (.slice p.1 ((readScript m2).1).length p.2) ((readScript m2).1)]⟩) (fun w hw => iReadScript_c w m2 (by first | assumption | omega) (htab.fr hw.fr) (hmx.fr hw.fr)) (NO rfl) ?_)
  · as_aux_lemma => kernel_rfl
  rintro ⟨a4, c5⟩
  refine RUN0 5 [] [(3, .v (.string (bs m2))), (4, .v (.slice a4 (((readScript m2).1).length) c5)), (5, I ((readScript m2).2))] ?_ rfl ?_
  · as_aux_lemma => kernel_rfl
  refine ENDOPS (NEXT (SEQ (REGION [0, 1, 2, 3, 4, 5, 6] rfl (RUN0 1 [1, 2, 3, 4, 5, 6] [(3, .v (.string (bs m2))), (4, .v (.slice a4 (((readScript m2).1).length) c5)), (5, I ((readScript m2).2)), (22, .v (.string (bs m2)))] ?_ rfl ?_))))
  · as_aux_lemma => kernel_rfl
  refine OPC (CALL 14 #[.string (bs m2)] (some 23) ?_ [] [] _ rfl (⟨HH, fun p => .tuple #[.slice p.1 (((readScript m2).1).length) p.2, vi ((readScript m2).2)], fun p => [slA 30 reqL (.slice p.1 ((readScript m2).1).length p.2) ((readScript m2).1)]⟩) (fun w hw => sReadScript_c w m2 (by first | assumption | omega)) (NO rfl) ?_)
  · as_aux_lemma => kernel_rfl
  rintro ⟨a6, c7⟩
  refine RUN0 5 [] [(3, .v (.string (bs m2))), (4, .v (.slice a4 (((readScript m2).1).length) c5)), (5, I ((readScript m2).2)), (7, I ((readScript m2).2))] ?_ rfl ?_
  · as_aux_lemma => kernel_rfl
  refine ENDOPS (NEXT (SEQ (SEQ (REGION [0, 1, 2] rfl (RUN0 3 [] [(3, .v (.string (bs m2))), (4, .v (.slice a4 (((readScript m2).1).length) c5)), (5, I ((readScript m2).2)), (28, B (((readScript m2).2) != ((readScript m2).2)))] ?_ rfl ?_)))))
  · as_aux_lemma => kernel_rfl
  refine ENDOPS (NEXT (IF (((readScript m2).2) != ((readScript m2).2)) ?_ (fun bh8 => ?_) (fun bh8 => ?_)))
  · as_aux_lemma => kernel_rfl
  ·
   have h8 := bh8
   have h8 := bne_iff_ne.1 h8
   refine SEQ (REGION [0] rfl (RUN0 1 [] [(2, B false)] ?_ rfl ?_))
   · as_aux_lemma => kernel_rfl
   refine ENDOPS (NEXT (RET (PASS trivial (FIN (.bool false) ?_ () ?_ [] ?_))))
   · as_aux_lemma => kernel_rfl
   · (first | rfl | (exfalso; simp_all; done) | (simp [RV, hng]; done) | (simp [RV, hmn]; done) | (simp [RV]; omega) | (simp_all [RV]; done))
   · rfl
  ·
   have h8 := bh8
   have h8 := bneF h8
   refine SKIP (NEXT (SEQ (SEQ (REGION [0, 1] rfl (RUN0 2 [] [(3, .v (.string (bs m2))), (4, .v (.slice a4 (((readScript m2).1).length) c5)), (5, I ((readScript m2).2)), (30, B (decide (((readScript m2).2) < 0)))] ?_ rfl ?_)))))
   · as_aux_lemma => kernel_rfl
   refine ENDOPS (NEXT (IF (decide (((readScript m2).2) < 0)) ?_ (fun bh9 => ?_) (fun bh9 => ?_)))
   · as_aux_lemma => kernel_rfl
   ·
    have h9 := bh9
    have h9 := of_decide_eq_true h9
    have hng := rs_neg h9
    refine SEQ (REGION [0, 1, 2, 3, 4] rfl (RUN0 1 [1, 2, 3, 4] [(3, .v (.string (bs m2))), (31, .v (.slice a4 (((readScript m2).1).length) c5))] ?_ rfl ?_))
    · as_aux_lemma => kernel_rfl
    refine OPC (CALL 7 #[.slice a4 (((readScript m2).1).length) c5] (some 32) ?_ [] [] _ rfl (RV (.string (bs (scriptText ((readScript m2).1))))) (fun w hw => iScriptText_c w ((readScript m2).1) a4 c5 (hw.rdO 0 rfl) (htab.fr hw.fr)) (NO rfl) ?_)
    · as_aux_lemma => kernel_rfl
    rintro ⟨⟩
    have hr10 := script_len ((readScript m2).1)
    refine RUN0 1 [3, 4] [(32, .v (.string (bs (scriptText ((readScript m2).1))))), (33, .v (.string (bs m2)))] ?_ rfl ?_
    · as_aux_lemma => kernel_rfl
    refine OPC (RUNV (.binOp .eql 9 (.tmp 32) (.tmp 33) 9) 34 4 ?_ (NL rfl) (.bool ((scriptText ((readScript m2).1)) == m2)) (runs_seql (a := scriptText ((readScript m2).1)) (b := m2) ?_ ?_) ?_)
    iterate 3 (as_aux_lemma => kernel_rfl)
    refine RUN0 1 [] [(2, B ((scriptText ((readScript m2).1)) == m2))] ?_ rfl ?_
    · as_aux_lemma => kernel_rfl
    refine ENDOPS (NEXT (RET (PASS trivial (FIN (.bool ((scriptText ((readScript m2).1)) == m2)) ?_ () ?_ [] ?_))))
    · as_aux_lemma => kernel_rfl
    · (first | rfl | (exfalso; simp_all; done) | (simp [RV, hng]; done) | (simp [RV, hmn]; done) | (simp [RV]; omega) | (simp_all [RV]; done))
    · rfl
   ·
    have h9 := bh9
    have h9 := of_decide_eq_false h9
    have hps := Int.not_lt.1 h9
    refine SKIP (NEXT (SEQ (REGION [0, 1, 2] rfl (RUN0 1 [1, 2] [(5, I ((readScript m2).2)), (35, .v (.string (bs m2)))] ?_ rfl ?_))))
    · as_aux_lemma => kernel_rfl
    refine OPC (CALL 15 #[.string (bs m2), .int .u8 10] (some 36) ?_ [] [] _ rfl (⟨HH, fun p => .slice p.1 ((parts m2 10).length) p.2, fun p => [slA 9 strL (.slice p.1 (parts m2 10).length p.2) (parts m2 10)]⟩) (fun w hw => iParts_c w m2 10 (by first | assumption | omega) (hmx.fr hw.fr)) (NO rfl) ?_)
    · as_aux_lemma => kernel_rfl
    rintro ⟨a11, c12⟩
    have hr13 := parts_len m2 10
    refine RUN0 1 [] [(5, I ((readScript m2).2)), (8, .v (.slice a11 ((parts m2 10).length) c12))] ?_ rfl ?_
    · as_aux_lemma => kernel_rfl
    refine ENDOPS (NEXT (SEQ (SEQ (REGION [0, 1, 2] rfl (RUN0 3 [] [(5, I ((readScript m2).2)), (8, .v (.slice a11 ((parts m2 10).length) c12)), (39, B (decide ((((parts m2 10).length : Nat) : Int) > 200)))] ?_ rfl ?_)))))
    · as_aux_lemma => kernel_rfl
    refine ENDOPS (NEXT (IF (decide ((((parts m2 10).length : Nat) : Int) > 200)) ?_ (fun bh14 => ?_) (fun bh14 => ?_)))
    · as_aux_lemma => kernel_rfl
    ·
     have h14 := bh14
     have h14 := of_decide_eq_true h14
     have hmn := rs_many (over200 h14)
     refine SEQ (REGION [0, 1, 2] rfl (RUN0 3 [] [(2, B (((readScript m2).2) == 200))] ?_ rfl ?_))
     · as_aux_lemma => kernel_rfl
     refine ENDOPS (NEXT (RET (PASS trivial (FIN (.bool (((readScript m2).2) == 200)) ?_ () ?_ [] ?_))))
     · as_aux_lemma => kernel_rfl
     · (first | rfl | (exfalso; simp_all; done) | (simp [RV, hng]; done) | (simp [RV, hmn]; done) | (simp [RV]; omega) | (simp_all [RV]; done))
     · rfl
    ·
     have h14 := bh14
     have h14 := of_decide_eq_false h14
     have hmy := not200 h14
     have hlt := rs_lt hps hmy
     refine SKIP (NEXT (SEQ (SEQ (REGION [0] rfl (RUN0 1 [] [(5, I ((readScript m2).2)), (8, .v (.slice a11 ((parts m2 10).length) c12)), (9, I 0)] ?_ rfl ?_)))))
     · as_aux_lemma => kernel_rfl
     refine ENDOPS (NEXT (BLOCK (LOOP (ι := Nat) (fun j => [(5, I ((readScript m2).2)), (8, .v (.slice a11 ((parts m2 10).length) c12)), (9, I (j : Int))]) (fun j => []) (fun j => [slA 30 reqL (.slice a4 ((readScript m2).1).length c5) ((readScript m2).1), slA 30 reqL (.slice a6 ((readScript m2).1).length c7) ((readScript m2).1), slA 9 strL (.slice a11 (parts m2 10).length c12) (parts m2 10)]) (fun j => j ≤ (parts m2 10).length) (fun j => (parts m2 10).length - j) (0) [5, 8, 9] (by first | omega | (dsimp only; omega)) ?_ rfl rfl ?_)))
     · as_aux_lemma => kernel_rfl
     rintro k hk
     try dsimp only at hk
     refine SEQ (SEQ (REGION [0, 1, 2, 3, 4, 5, 6, 7, 8] rfl (RUN0 4 [4, 5, 6, 7, 8] [(5, I ((readScript m2).2)), (8, .v (.slice a11 ((parts m2 10).length) c12)), (9, I (k : Int)), (45, B (decide ((k : Int) ≤ ((readScript m2).2))))] ?_ rfl ?_)))
     · as_aux_lemma => kernel_rfl
     refine SPLIT (d := 45) (decide ((k : Int) ≤ ((readScript m2).2))) ?_ (fun bh15 => ?_) (fun bh15 => ?_)
     · as_aux_lemma => kernel_rfl
     ·
      have h15 := bh15
      have h15 := of_decide_eq_true h15
      refine RUN0 5 [] [(5, I ((readScript m2).2)), (8, .v (.slice a11 ((parts m2 10).length) c12)), (9, I (k : Int)), (50, B (decide (((readScript m2).2) < (((parts m2 10).length : Nat) : Int))))] ?_ rfl ?_
      · as_aux_lemma => kernel_rfl
      refine ENDOPS (NEXT (IF (decide (((readScript m2).2) < (((parts m2 10).length : Nat) : Int))) ?_ (fun bh16 => ?_) (fun bh16 => ?_)))
      · as_aux_lemma => kernel_rfl
      ·
       have h16 := bh16
       have h16 := of_decide_eq_true h16
       refine SKIP (NEXT (SEQ (BLOCK (SEQ (REGION [0, 1, 2, 3, 4, 5, 6, 7, 8, 9, 10] rfl (RUN0 2 [2, 3, 4, 5, 6, 7, 8, 9, 10] [(5, I ((readScript m2).2)), (8, .v (.slice a11 ((parts m2 10).length) c12)), (9, I (k : Int)), (54, .v (.slice a11 ((parts m2 10).length) c12)), (55, I (k : Int))] ?_ rfl ?_))))))
       · as_aux_lemma => kernel_rfl
       obtain ⟨x17, hx18⟩ : ∃ y, (parts m2 10)[k]? = some y := ⟨_, List.getElem?_eq_getElem (by omega)⟩
       refine FACT (a11.isSome = true) (fun w hw => SlO.isS (hw.own 2 rfl) (by omega)) (fun hs19 => ?_)
       refine OPC (INDEX 36 (.tmp 54) (.tmp 55) 56 0 ?_ (NL rfl) a11 ((parts m2 10).length) c12 .i64 (k : Int) 9 1 ?_ ?_ ?_ ?_ hs19 (by omega) (by omega) ?_)
       iterate 5 (as_aux_lemma => kernel_rfl)
       refine OPC (LOADE 9 (.tmp 56) 57 9 ?_ (NL rfl) a11 (k * 1) 0 [.string (bs x17)] (.string (bs x17)) ?_ (fun w hw => (hw.rdO 2 rfl).flat hx18) ?_ ?_)
       iterate 3 (as_aux_lemma => kernel_rfl)
       have hxl := parts_mem (List.mem_of_getElem? hx18)
       have hra := rs_at hps hmy hx18 (by omega)
       refine OPC (CALL 10 #[.string (bs x17)] (some 58) ?_ [] [] _ rfl (RV (.tuple #[.agg #[vi ((optReq (readI x17)).kind), vi ((optReq (readI x17)).id), vi ((optReq (readI x17)).cabin), vi ((optReq (readI x17)).from'), vi ((optReq (readI x17)).size), vi ((optReq (readI x17)).tier)], .bool ((readI x17).isSome)])) (fun w hw => iReadReq_c w x17 (by first | assumption | omega) (htab.fr hw.fr) (hmx.fr hw.fr)) (NO rfl) ?_)
       · as_aux_lemma => kernel_rfl
       rintro ⟨⟩
       refine RUN 6 [] [(5, I ((readScript m2).2)), (8, .v (.slice a11 ((parts m2 10).length) c12)), (9, I (k : Int)), (11, B ((readI x17).isSome))] [(30, [vi ((optReq (readI x17)).kind), vi ((optReq (readI x17)).id), vi ((optReq (readI x17)).cabin), vi ((optReq (readI x17)).from'), vi ((optReq (readI x17)).size), vi ((optReq (readI x17)).tier)])] ?_ rfl ?_
       · as_aux_lemma => kernel_rfl
       refine ENDOPS (NEXT (SEQ (REGION [0, 1, 2, 3, 4] rfl (RUN0 5 [] [(5, I ((readScript m2).2)), (8, .v (.slice a11 ((parts m2 10).length) c12)), (9, I (k : Int)), (65, B (!(((readI x17).isSome) == (decide ((k : Int) < ((readScript m2).2))))))] ?_ rfl ?_))))
       · as_aux_lemma => kernel_rfl
       refine ENDOPS (NEXT (IF (!(((readI x17).isSome) == (decide ((k : Int) < ((readScript m2).2))))) ?_ (fun bh20 => ?_) (fun bh20 => ?_)))
       · as_aux_lemma => kernel_rfl
       ·
        have h20 := bh20
        have h20 := notT h20
        have h20 := ne_of_beq_false h20
        refine SEQ (REGION [0] rfl (RUN0 1 [] [(2, B false)] ?_ rfl ?_))
        · as_aux_lemma => kernel_rfl
        refine ENDOPS (NEXT (RET (OUTR (PASS trivial (PASS trivial (OUTR (PASS trivial (FIN (.bool false) ?_ () ?_ [] ?_))))))))
        · as_aux_lemma => kernel_rfl
        · (first | rfl | (exfalso; simp_all; done) | (simp [RV, hng]; done) | (simp [RV, hmn]; done) | (simp [RV]; omega) | (simp_all [RV]; done))
        · rfl
       ·
        have h20 := bh20
        have h20 := notF h20
        have h20 := eq_of_beq h20
        refine SKIP (OUTN (NEXT (REGION [0, 1, 2] rfl (RUN0 2 [2] [(5, I ((readScript m2).2)), (8, .v (.slice a11 ((parts m2 10).length) c12)), (52, I (wr ((k : Int) + 1)))] ?_ rfl ?_))))
        · as_aux_lemma => kernel_rfl
        refine CAST (d := 52) (vi (wr ((k : Int) + 1))) (vi ((k + 1 : Nat) : Int)) ?_ (vi_cast (by omega) (by omega)) ?_
        · as_aux_lemma => kernel_rfl
        refine RUN0 1 [] [(5, I ((readScript m2).2)), (8, .v (.slice a11 ((parts m2 10).length) c12)), (9, I ((k + 1 : Nat) : Int))] ?_ rfl ?_
        · as_aux_lemma => kernel_rfl
        refine ENDOPS (BACK (k + 1) [5, 8, 9] 0 [0, 0, 0] _ (by first | omega | (dsimp only; omega)) (by first | omega | (dsimp only; omega)) ?_ rfl rfl rfl)
        · as_aux_lemma => kernel_rfl
      ·
       have h16 := bh16
       have h16 := of_decide_eq_false h16
       refine EXIT (PASS trivial (PASS trivial (OUT (NEXT (SEQ (REGION [0, 1, 2, 3, 4] rfl (RUN0 5 [] [(2, B (decide (((readScript m2).2) < (((parts m2 10).length : Nat) : Int))))] ?_ rfl ?_)))))))
       · as_aux_lemma => kernel_rfl
       refine ENDOPS (NEXT (RET (FIN (.bool (decide (((readScript m2).2) < (((parts m2 10).length : Nat) : Int)))) ?_ () ?_ [] ?_)))
       · as_aux_lemma => kernel_rfl
       · (first | rfl | (exfalso; simp_all; done) | (simp [RV, hng]; done) | (simp [RV, hmn]; done) | (simp [RV]; omega) | (simp_all [RV]; done))
       · rfl
     ·
      have h15 := bh15
      have h15 := of_decide_eq_false h15
      refine RUN0 5 [] [(5, I ((readScript m2).2)), (8, .v (.slice a11 ((parts m2 10).length) c12)), (9, I (k : Int)), (50, B false)] ?_ rfl ?_
      · as_aux_lemma => kernel_rfl
      refine ENDOPS (NEXT (IFF ?_ ?_))
      · as_aux_lemma => kernel_rfl
      refine EXIT (PASS trivial (PASS trivial (OUT (NEXT (SEQ (REGION [0, 1, 2, 3, 4] rfl (RUN0 5 [] [(2, B (decide (((readScript m2).2) < (((parts m2 10).length : Nat) : Int))))] ?_ rfl ?_)))))))
      · as_aux_lemma => kernel_rfl
      refine ENDOPS (NEXT (RET (FIN (.bool (decide (((readScript m2).2) < (((parts m2 10).length : Nat) : Int)))) ?_ () ?_ [] ?_)))
      · as_aux_lemma => kernel_rfl
      · (first | rfl | (exfalso; simp_all; done) | (simp [RV, hng]; done) | (simp [RV, hmn]; done) | (simp [RV]; omega) | (simp_all [RV]; done))
      · rfl

end SX
end Go.Proofs.YtpdijcbgdalphabGreatDoor
