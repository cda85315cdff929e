/- Walks, printed by program. -/
import Derived.Test.YtpdijcbgdalphabGreatDoorV2
namespace Go.Proofs.YtpdijcbgdalphabGreatDoor
namespace SX
open Go Go.RowKit
set_option linter.unusedVariables false
set_option linter.unusedSimpArgs false
set_option maxRecDepth 10000
set_option maxHeartbeats 400000
theorem l29List_c (W : World) (d : Cd) (hd : CodeOk W d) (p : Value) : Spec Tryz.prog W [curA d p] 16 #[p] (⟨{q : (HH) × (List Req) // (fun x : List Req => x.length ≤ 201) q.2}, fun q => .slice q.1.1.1 q.1.2.length q.1.1.2, fun q => [slA 30 reqL (.slice q.1.1.1 q.1.2.length q.1.1.2) q.1.2, curA (d) p]⟩) := by
 refine ENTERC (N := 44) (vs := [p]) Tryz.func16 rfl rfl (NL rfl) (fun S0 hS hP => ?_)
 refine SEQ (REGION [0] rfl (RUN0 1 [] [(0, .v (p))] ?_ rfl ?_))
 · as_aux_lemma => kernel_rfl
 refine ENDOPS (NEXT (SEQ (REGION [0, 1] rfl (OPC (BUILDS 24 0 #[] 8 24 ?_ (NL rfl) 30 [] ?_ reqL [] rfl (by simp only [maxLen]; omega) [] [] _ rfl (flatRep rfl) (fun a1 ha2 => ?_))))))
 iterate 2 (as_aux_lemma => kernel_rfl)
 refine RUN0 1 [] [(0, .v (p)), (3, .v (.slice a1 0 0))] ?_ rfl ?_
 · as_aux_lemma => kernel_rfl
 refine ENDOPS (NEXT (SEQ (REGION [0, 1, 2, 3] rfl (RUN0 1 [1, 2, 3] [(0, .v (p)), (3, .v (.slice a1 0 0)), (9, .v (p))] ?_ rfl ?_))))
 · as_aux_lemma => kernel_rfl
 refine OPC (CALL 28 #[p] (some 10) ?_ [0] [curA (d) p] _ rfl (⟨{q : (HH × HH × HH × HH × HH) × House // (fun x : House => True) q.2}, fun q => .agg #[.slice q.1.1.1.1 q.1.2.rules.seats.length q.1.1.1.2, vi q.1.2.rules.tiers, vi q.1.2.rules.room, vi q.1.2.rules.size, vi q.1.2.rules.period, vi q.1.2.rules.window, vi q.1.2.rules.rest, vi q.1.2.rules.tries, vi q.1.2.rules.crew, vi q.1.2.now, vi q.1.2.turn, .slice q.1.1.2.1.1 q.1.2.parties.length q.1.1.2.1.2, .slice q.1.1.2.2.1.1 q.1.2.cabins.length q.1.1.2.2.1.2, .slice q.1.1.2.2.2.1.1 q.1.2.todo.length q.1.1.2.2.2.1.2, .slice q.1.1.2.2.2.2.1 q.1.2.jobs.length q.1.1.2.2.2.2.2], fun q => [slA 3 intL (.slice q.1.1.1.1 q.1.2.rules.seats.length q.1.1.1.2) q.1.2.rules.seats, slA 80 partyL (.slice q.1.1.2.1.1 q.1.2.parties.length q.1.1.2.1.2) q.1.2.parties, slA 93 (cabinLx 129 106 111) (.slice q.1.1.2.2.1.1 q.1.2.cabins.length q.1.1.2.2.1.2) q.1.2.cabins, slA 3 intL (.slice q.1.1.2.2.2.1.1 q.1.2.todo.length q.1.1.2.2.2.1.2) q.1.2.todo, slA 3 intL (.slice q.1.1.2.2.2.2.1 q.1.2.jobs.length q.1.1.2.2.2.2.2) q.1.2.jobs, curA (d) p]⟩) (fun w hw => l11Right_c w (d) (hd.fr hw.fr hS) p) (NO rfl) ?_)
 · as_aux_lemma => kernel_rfl
 rintro ⟨⟨⟨⟨a5, c6⟩, ⟨a7, c8⟩, ⟨a9, c10⟩, ⟨a11, c12⟩, ⟨a13, c14⟩⟩, m3⟩, hm4⟩
 try dsimp only at hm4
 refine RUN 2 [] [(0, .v (p)), (3, .v (.slice a1 0 0)), (4, .p 0 0)] [(55, [.slice a5 m3.rules.seats.length c6, vi m3.rules.tiers, vi m3.rules.room, vi m3.rules.size, vi m3.rules.period, vi m3.rules.window, vi m3.rules.rest, vi m3.rules.tries, vi m3.rules.crew, vi m3.now, vi m3.turn, .slice a7 m3.parties.length c8, .slice a9 m3.cabins.length c10, .slice a11 m3.todo.length c12, .slice a13 m3.jobs.length c14])] ?_ rfl ?_
 · as_aux_lemma => kernel_rfl
 refine ENDOPS (NEXT (SEQ (REGION [0, 1, 2] rfl (RUN0 1 [1, 2] [(0, .v (p)), (3, .v (.slice a1 0 0)), (4, .p 0 0), (11, .v (p))] ?_ rfl ?_))))
 · as_aux_lemma => kernel_rfl
 refine OPC (CALL 29 #[p, vi 6] (some 12) ?_ [6] [curA (d) p] _ rfl (⟨{x : Int // 0 ≤ x ∧ (6 ≤ 0 → x = 0) ∧ (0 < 6 → x < 6)}, fun q => vi q.1, fun q => [curA (d) p]⟩) (fun w hw => l1Below_c w (d) (hd.fr hw.fr hS) p 6) (NO rfl) ?_)
 · as_aux_lemma => kernel_rfl
 rintro ⟨m15, hm16⟩
 try dsimp only at hm16
 refine RUN0 1 [] [(0, .v (p)), (3, .v (.slice a1 0 0)), (4, .p 0 0), (5, I m15)] ?_ rfl ?_
 · as_aux_lemma => kernel_rfl
 refine ENDOPS (NEXT (SEQ (SEQ (REGION [0] rfl (RUN0 1 [] [(0, .v (p)), (3, .v (.slice a1 0 0)), (4, .p 0 0), (5, I m15), (6, I 0)] ?_ rfl ?_)))))
 · as_aux_lemma => kernel_rfl
 refine ENDOPS (NEXT (BLOCK (LOOP (ι := Nat × (Option Addr) × Nat × (List Req)) (fun j => [(0, .v (p)), (3, .v (.slice j.2.1 j.2.2.2.length j.2.2.1)), (4, .p 0 0), (5, I m15), (6, I (j.1 : Int))]) (fun j => [(55, [.slice a5 m3.rules.seats.length c6, vi m3.rules.tiers, vi m3.rules.room, vi m3.rules.size, vi m3.rules.period, vi m3.rules.window, vi m3.rules.rest, vi m3.rules.tries, vi m3.rules.crew, vi m3.now, vi m3.turn, .slice a7 m3.parties.length c8, .slice a9 m3.cabins.length c10, .slice a11 m3.todo.length c12, .slice a13 m3.jobs.length c14])]) (fun j => [slA 30 reqL (.slice j.2.1 j.2.2.2.length j.2.2.1) j.2.2.2, slA 3 intL (.slice a5 m3.rules.seats.length c6) m3.rules.seats, slA 80 partyL (.slice a7 m3.parties.length c8) m3.parties, slA 93 (cabinLx 129 106 111) (.slice a9 m3.cabins.length c10) m3.cabins, slA 3 intL (.slice a11 m3.todo.length c12) m3.todo, slA 3 intL (.slice a13 m3.jobs.length c14) m3.jobs, curA (d) p]) (fun j => j.2.2.2.length = j.1 ∧ j.1 ≤ 6) (fun j => 6 - j.1) (0, a1, 0, []) [0, 3, 4, 5, 6] ⟨rfl, by omega⟩ ?_ rfl rfl ?_)))
 · as_aux_lemma => kernel_rfl
 rintro ⟨i, oa, oc, out⟩ ⟨hil, hi6⟩
 try dsimp only at hil hi6
 refine SEQ (SEQ (REGION [0, 1, 2] rfl (RUN0 3 [] [(0, .v (p)), (3, .v (.slice oa out.length oc)), (4, .p 0 0), (5, I m15), (6, I (i : Int)), (15, B (decide ((i : Int) < m15)))] ?_ rfl ?_)))
 · as_aux_lemma => kernel_rfl
 refine ENDOPS (NEXT (IF (decide ((i : Int) < m15)) ?_ (fun bh17 => ?_) (fun bh17 => ?_)))
 · as_aux_lemma => kernel_rfl
 ·
  have h17 := bh17
  have h17 := of_decide_eq_true h17
  refine SKIP (NEXT (SEQ (BLOCK (SEQ (REGION [0, 1, 2, 3, 4] rfl (RUN0 2 [2, 3, 4] [(0, .v (p)), (3, .v (.slice oa out.length oc)), (4, .p 0 0), (5, I m15), (6, I (i : Int)), (18, .v (p)), (19, .v (.agg #[.slice a5 m3.rules.seats.length c6, vi m3.rules.tiers, vi m3.rules.room, vi m3.rules.size, vi m3.rules.period, vi m3.rules.window, vi m3.rules.rest, vi m3.rules.tries, vi m3.rules.crew, vi m3.now, vi m3.turn, .slice a7 m3.parties.length c8, .slice a9 m3.cabins.length c10, .slice a11 m3.todo.length c12, .slice a13 m3.jobs.length c14]))] ?_ rfl ?_))))))
  · as_aux_lemma => kernel_rfl
  refine OPC (CALL 30 #[p, .agg #[.slice a5 m3.rules.seats.length c6, vi m3.rules.tiers, vi m3.rules.room, vi m3.rules.size, vi m3.rules.period, vi m3.rules.window, vi m3.rules.rest, vi m3.rules.tries, vi m3.rules.crew, vi m3.now, vi m3.turn, .slice a7 m3.parties.length c8, .slice a9 m3.cabins.length c10, .slice a11 m3.todo.length c12, .slice a13 m3.jobs.length c14]] (some 20) ?_ [6] [curA (d) p] _ rfl (⟨{x : Req // True}, fun q => .agg #[vi q.1.kind, vi q.1.id, vi q.1.cabin, vi q.1.from', vi q.1.size, vi q.1.tier], fun q => [curA (d) p]⟩) (fun w hw => l12Right_c w (d) (hd.fr hw.fr hS) p m3 a5 c6 (RdP.own hw 1 6 rfl rfl (by decide)) a7 c8 (RdP.own hw 2 6 rfl rfl (by decide)) a9 c10 (RdP.own hw 3 6 rfl rfl (by decide)) a11 c12 (RdP.own hw 4 6 rfl rfl (by decide)) a13 c14 (RdP.own hw 5 6 rfl rfl (by decide))) (NO rfl) ?_)
  · as_aux_lemma => kernel_rfl
  rintro ⟨m18, hm19⟩
  try dsimp only at hm19
  refine RUN 2 [] [(0, .v (p)), (3, .v (.slice oa out.length oc)), (4, .p 0 0), (5, I m15), (6, I (i : Int)), (7, .p 1 0)] [(55, [.slice a5 m3.rules.seats.length c6, vi m3.rules.tiers, vi m3.rules.room, vi m3.rules.size, vi m3.rules.period, vi m3.rules.window, vi m3.rules.rest, vi m3.rules.tries, vi m3.rules.crew, vi m3.now, vi m3.turn, .slice a7 m3.parties.length c8, .slice a9 m3.cabins.length c10, .slice a11 m3.todo.length c12, .slice a13 m3.jobs.length c14]), (30, [vi m18.kind, vi m18.id, vi m18.cabin, vi m18.from', vi m18.size, vi m18.tier])] ?_ rfl ?_
  · as_aux_lemma => kernel_rfl
  refine ENDOPS (NEXT (SEQJ (ι := Int × Int × Int × Int × Int × Int) (fun j => [(0, .v (p)), (3, .v (.slice oa out.length oc)), (4, .p 0 0), (5, I m15), (6, I (i : Int)), (7, .p 1 0)]) (fun j => [(55, [.slice a5 m3.rules.seats.length c6, vi m3.rules.tiers, vi m3.rules.room, vi m3.rules.size, vi m3.rules.period, vi m3.rules.window, vi m3.rules.rest, vi m3.rules.tries, vi m3.rules.crew, vi m3.now, vi m3.turn, .slice a7 m3.parties.length c8, .slice a9 m3.cabins.length c10, .slice a11 m3.todo.length c12, .slice a13 m3.jobs.length c14]), (30, [vi j.1, vi j.2.1, vi j.2.2.1, vi j.2.2.2.1, vi j.2.2.2.2.1, vi j.2.2.2.2.2])]) (fun j => [slA 30 reqL (.slice oa out.length oc) out, slA 3 intL (.slice a5 m3.rules.seats.length c6) m3.rules.seats, slA 80 partyL (.slice a7 m3.parties.length c8) m3.parties, slA 93 (cabinLx 129 106 111) (.slice a9 m3.cabins.length c10) m3.cabins, slA 3 intL (.slice a11 m3.todo.length c12) m3.todo, slA 3 intL (.slice a13 m3.jobs.length c14) m3.jobs, curA (d) p]) (fun j => True) ?_ ?_))
  ·
   refine SEQ (REGION [0, 1] rfl (RUN0 1 [1] [(0, .v (p)), (3, .v (.slice oa out.length oc)), (4, .p 0 0), (5, I m15), (6, I (i : Int)), (7, .p 1 0), (21, .v (p))] ?_ rfl ?_))
   · as_aux_lemma => kernel_rfl
   refine OPC (CALL 23 #[p, vi 24] (some 22) ?_ [6] [curA (d) p] _ rfl (⟨{x : Bool // True}, fun q => .bool q.1, fun q => [curA (d) p]⟩) (fun w hw => l1Once_c w (d) (hd.fr hw.fr hS) p 24) (NO rfl) ?_)
   · as_aux_lemma => kernel_rfl
   rintro ⟨m20, hm21⟩
   try dsimp only at hm21
   refine ENDOPS (NEXT (IF (m20) ?_ (fun bh22 => ?_) (fun bh22 => ?_)))
   · as_aux_lemma => kernel_rfl
   ·
    have h22 := bh22
    refine REGION [0, 1, 2, 3] rfl (RUN0 2 [2, 3] [(0, .v (p)), (3, .v (.slice oa out.length oc)), (4, .p 0 0), (5, I m15), (6, I (i : Int)), (7, .p 1 0), (23, .v (p)), (24, .v (.agg #[.slice a5 m3.rules.seats.length c6, vi m3.rules.tiers, vi m3.rules.room, vi m3.rules.size, vi m3.rules.period, vi m3.rules.window, vi m3.rules.rest, vi m3.rules.tries, vi m3.rules.crew, vi m3.now, vi m3.turn, .slice a7 m3.parties.length c8, .slice a9 m3.cabins.length c10, .slice a11 m3.todo.length c12, .slice a13 m3.jobs.length c14]))] ?_ rfl ?_)
    · as_aux_lemma => kernel_rfl
    refine OPC (CALL 31 #[p, .agg #[.slice a5 m3.rules.seats.length c6, vi m3.rules.tiers, vi m3.rules.room, vi m3.rules.size, vi m3.rules.period, vi m3.rules.window, vi m3.rules.rest, vi m3.rules.tries, vi m3.rules.crew, vi m3.now, vi m3.turn, .slice a7 m3.parties.length c8, .slice a9 m3.cabins.length c10, .slice a11 m3.todo.length c12, .slice a13 m3.jobs.length c14]] (some 25) ?_ [6] [curA (d) p] _ rfl (⟨{x : Req // True}, fun q => .agg #[vi q.1.kind, vi q.1.id, vi q.1.cabin, vi q.1.from', vi q.1.size, vi q.1.tier], fun q => [curA (d) p]⟩) (fun w hw => l12Bent_c w (d) (hd.fr hw.fr hS) p m3 a5 c6 (RdP.own hw 1 6 rfl rfl (by decide)) a7 c8 (RdP.own hw 2 6 rfl rfl (by decide)) a9 c10 (RdP.own hw 3 6 rfl rfl (by decide)) a11 c12 (RdP.own hw 4 6 rfl rfl (by decide)) a13 c14 (RdP.own hw 5 6 rfl rfl (by decide))) (NO rfl) ?_)
    · as_aux_lemma => kernel_rfl
    rintro ⟨m23, hm24⟩
    try dsimp only at hm24
    refine RUN 1 [] [(0, .v (p)), (3, .v (.slice oa out.length oc)), (4, .p 0 0), (5, I m15), (6, I (i : Int)), (7, .p 1 0)] [(55, [.slice a5 m3.rules.seats.length c6, vi m3.rules.tiers, vi m3.rules.room, vi m3.rules.size, vi m3.rules.period, vi m3.rules.window, vi m3.rules.rest, vi m3.rules.tries, vi m3.rules.crew, vi m3.now, vi m3.turn, .slice a7 m3.parties.length c8, .slice a9 m3.cabins.length c10, .slice a11 m3.todo.length c12, .slice a13 m3.jobs.length c14]), (30, [vi m23.kind, vi m23.id, vi m23.cabin, vi m23.from', vi m23.size, vi m23.tier])] ?_ rfl ?_
    · as_aux_lemma => kernel_rfl
    refine ENDOPS (JBACK (m23.kind, m23.id, m23.cabin, m23.from', m23.size, m23.tier) [0, 3, 4, 5, 6, 7] 2 [0, 0, 0, 0, 0, 0, 0] _ trivial ?_ rfl rfl rfl)
    · as_aux_lemma => kernel_rfl
   ·
    have h22 := bh22
    refine SKIP (JBACK (m18.kind, m18.id, m18.cabin, m18.from', m18.size, m18.tier) [0, 3, 4, 5, 6, 7] 2 [0, 0, 0, 0, 0, 0, 0] _ trivial ?_ rfl rfl rfl)
    · as_aux_lemma => kernel_rfl
  rintro ⟨v0, v1, v2, v3, v4, v5⟩ hi25
  try dsimp only at hi25
  refine REGION [0, 1, 2, 3, 4] rfl (RUN0 2 [2, 3, 4] [(0, .v (p)), (4, .p 0 0), (5, I m15), (6, I (i : Int)), (26, .v (.slice oa out.length oc)), (27, .v (.agg #[vi v0, vi v1, vi v2, vi v3, vi v4, vi v5]))] ?_ rfl ?_)
  · as_aux_lemma => kernel_rfl
  refine OPC (BUILDS 24 1 #[(0, .tmp 27)] 28 24 ?_ (NL rfl) 30 [vi v0, vi v1, vi v2, vi v3, vi v4, vi v5] ?_ reqL [(⟨v0, v1, v2, v3, v4, v5⟩ : Req)] rfl (by simp only [maxLen]; omega) [] [] _ rfl (flatRep rfl) (fun a26 ha27 => ?_))
  iterate 2 (as_aux_lemma => kernel_rfl)
  refine OPC (APPENDO 24 (.tmp 26) (.tmp 28) 29 24 ?_ (NL rfl) (.slice oa out.length oc) a26 1 1 ?_ ?_ ha27 30 ?_ reqL (.agg #[vi 0, vi 0, vi 0, vi 0, vi 0, vi 0]) 48 ?_ rfl (by decide) 0 6 out ([(⟨v0, v1, v2, v3, v4, v5⟩ : Req)]) _ rfl rfl (by first | omega | (simp only [List.length_append, List.length_cons, List.length_nil, List.length_take, List.length_drop] at *; omega)) (by simp only [maxLen]; first | omega | (simp only [List.length_append, List.length_cons, List.length_nil, List.length_take, List.length_drop] at *; omega)) (fun a28 c29 hn30 => ?_))
  iterate 5 (as_aux_lemma => kernel_rfl)
  refine RUN0 1 [] [(0, .v (p)), (3, .v (.slice a28 ((out ++ ([(⟨v0, v1, v2, v3, v4, v5⟩ : Req)])).length) c29)), (4, .p 0 0), (5, I m15), (6, I (i : Int))] ?_ rfl ?_
  · as_aux_lemma => kernel_rfl
  refine ENDOPS (OUTN (NEXT (REGION [0, 1, 2] rfl (RUN0 2 [2] [(0, .v (p)), (3, .v (.slice a28 ((out ++ ([(⟨v0, v1, v2, v3, v4, v5⟩ : Req)])).length) c29)), (4, .p 0 0), (5, I m15), (17, I (wr ((i : Int) + 1)))] ?_ rfl ?_))))
  · as_aux_lemma => kernel_rfl
  refine CAST (d := 17) (vi (wr ((i : Int) + 1))) (vi ((i + 1 : Nat) : Int)) ?_ (vi_cast (by omega) (by omega)) ?_
  · as_aux_lemma => kernel_rfl
  refine RUN0 1 [] [(0, .v (p)), (3, .v (.slice a28 ((out ++ ([(⟨v0, v1, v2, v3, v4, v5⟩ : Req)])).length) c29)), (4, .p 0 0), (5, I m15), (6, I ((i + 1 : Nat) : Int))] ?_ rfl ?_
  · as_aux_lemma => kernel_rfl
  refine ENDOPS (BACK (i + 1, a28, c29, out ++ ([(⟨v0, v1, v2, v3, v4, v5⟩ : Req)])) [0, 3, 4, 5, 6] 1 [6, 0, 0, 0, 0, 0, 0] _ ⟨by simp only [List.length_append, List.length_cons, List.length_nil]; omega, by dsimp only; omega⟩ (by dsimp only; omega) ?_ rfl rfl rfl)
  · as_aux_lemma => kernel_rfl
 ·
  have h17 := bh17
  have h17 := of_decide_eq_false h17
  refine EXIT (PASS trivial (PASS trivial (OUT (NEXT (SEQ (SEQ (REGION [0, 1] rfl (RUN0 1 [1] [(0, .v (p)), (3, .v (.slice oa out.length oc)), (30, .v (p))] ?_ rfl ?_))))))))
  · as_aux_lemma => kernel_rfl
  refine OPC (CALL 23 #[p, vi 40] (some 31) ?_ [6] [curA (d) p] _ rfl (⟨{x : Bool // True}, fun q => .bool q.1, fun q => [curA (d) p]⟩) (fun w hw => l1Once_c w (d) (hd.fr hw.fr hS) p 40) (NO rfl) ?_)
  · as_aux_lemma => kernel_rfl
  rintro ⟨m31, hm32⟩
  try dsimp only at hm32
  refine ENDOPS (NEXT (IF (m31) ?_ (fun bh33 => ?_) (fun bh33 => ?_)))
  · as_aux_lemma => kernel_rfl
  ·
   have h33 := bh33
   refine SEQ (REGION [0, 1, 2, 3] rfl (RUN0 1 [1, 2, 3] [(3, .v (.slice oa out.length oc)), (32, .v (p))] ?_ rfl ?_))
   · as_aux_lemma => kernel_rfl
   refine OPC (CALL 29 #[p, vi 3] (some 33) ?_ [6] [curA (d) p] _ rfl (⟨{x : Int // 0 ≤ x ∧ (3 ≤ 0 → x = 0) ∧ (0 < 3 → x < 3)}, fun q => vi q.1, fun q => [curA (d) p]⟩) (fun w hw => l1Below_c w (d) (hd.fr hw.fr hS) p 3) (NO rfl) ?_)
   · as_aux_lemma => kernel_rfl
   rintro ⟨m34, hm35⟩
   try dsimp only at hm35
   refine RUN0 2 [] [(3, .v (.slice oa out.length oc)), (5, I (wr (199 + m34)))] ?_ rfl ?_
   · as_aux_lemma => kernel_rfl
   refine ENDOPS (NEXT (BLOCK (LOOP (ι := (Option Addr) × Nat × (List Req)) (fun j => [(3, .v (.slice j.1 j.2.2.length j.2.1)), (5, I (wr (199 + m34)))]) (fun j => [(55, [.slice a5 m3.rules.seats.length c6, vi m3.rules.tiers, vi m3.rules.room, vi m3.rules.size, vi m3.rules.period, vi m3.rules.window, vi m3.rules.rest, vi m3.rules.tries, vi m3.rules.crew, vi m3.now, vi m3.turn, .slice a7 m3.parties.length c8, .slice a9 m3.cabins.length c10, .slice a11 m3.todo.length c12, .slice a13 m3.jobs.length c14])]) (fun j => [slA 30 reqL (.slice j.1 j.2.2.length j.2.1) j.2.2, slA 3 intL (.slice a5 m3.rules.seats.length c6) m3.rules.seats, slA 80 partyL (.slice a7 m3.parties.length c8) m3.parties, slA 93 (cabinLx 129 106 111) (.slice a9 m3.cabins.length c10) m3.cabins, slA 3 intL (.slice a11 m3.todo.length c12) m3.todo, slA 3 intL (.slice a13 m3.jobs.length c14) m3.jobs, curA (d) p]) (fun j => j.2.2.length ≤ 201) (fun j => 201 - j.2.2.length) (oa, oc, out) [3, 5] (by dsimp only; omega) ?_ rfl rfl ?_)))
   · as_aux_lemma => kernel_rfl
   rintro ⟨ob, od, ot⟩ hot
   try dsimp only at hot
   have hwn : wr (199 + m34) = (199 + m34) := wr_of (by omega) (by omega)
   refine SEQ (SEQ (REGION [0, 1, 2, 3] rfl (RUN0 4 [] [(3, .v (.slice ob ot.length od)), (5, I (wr (199 + m34))), (38, B (decide ((ot.length : Int) < (wr (199 + m34)))))] ?_ rfl ?_)))
   · as_aux_lemma => kernel_rfl
   refine ENDOPS (NEXT (IF (decide ((ot.length : Int) < (wr (199 + m34)))) ?_ (fun bh36 => ?_) (fun bh36 => ?_)))
   · as_aux_lemma => kernel_rfl
   ·
    have h36 := bh36
    have h36 := of_decide_eq_true h36
    refine SKIP (NEXT (BLOCK (REGION [0, 1, 2, 3, 4] rfl (RUN0 2 [2, 3, 4] [(5, I (wr (199 + m34))), (39, .v (.slice ob ot.length od)), (40, .v (.agg #[vi 6, vi 0, vi 0, vi 0, vi 0, vi 0]))] ?_ rfl ?_))))
    · as_aux_lemma => kernel_rfl
    refine OPC (BUILDS 24 1 #[(0, .tmp 40)] 41 24 ?_ (NL rfl) 30 [vi 6, vi 0, vi 0, vi 0, vi 0, vi 0] ?_ reqL [(⟨6, 0, 0, 0, 0, 0⟩ : Req)] rfl (by simp only [maxLen]; omega) [] [] _ rfl (flatRep rfl) (fun a37 ha38 => ?_))
    iterate 2 (as_aux_lemma => kernel_rfl)
    refine OPC (APPENDO 24 (.tmp 39) (.tmp 41) 42 24 ?_ (NL rfl) (.slice ob ot.length od) a37 1 1 ?_ ?_ ha38 30 ?_ reqL (.agg #[vi 0, vi 0, vi 0, vi 0, vi 0, vi 0]) 48 ?_ rfl (by decide) 0 6 ot ([(⟨6, 0, 0, 0, 0, 0⟩ : Req)]) _ rfl rfl (by first | omega | (simp only [List.length_append, List.length_cons, List.length_nil, List.length_take, List.length_drop] at *; omega)) (by simp only [maxLen]; first | omega | (simp only [List.length_append, List.length_cons, List.length_nil, List.length_take, List.length_drop] at *; omega)) (fun a39 c40 hn41 => ?_))
    iterate 5 (as_aux_lemma => kernel_rfl)
    refine RUN0 1 [] [(3, .v (.slice a39 ((ot ++ ([(⟨6, 0, 0, 0, 0, 0⟩ : Req)])).length) c40)), (5, I (wr (199 + m34)))] ?_ rfl ?_
    · as_aux_lemma => kernel_rfl
    refine ENDOPS (OUTN (BACK (a39, c40, ot ++ ([(⟨6, 0, 0, 0, 0, 0⟩ : Req)])) [3, 5] 1 [6, 0, 0, 0, 0, 0, 0] _ (by simp only [List.length_append, List.length_cons, List.length_nil]; omega) (by simp only [List.length_append, List.length_cons, List.length_nil]; omega) ?_ rfl rfl rfl))
    · as_aux_lemma => kernel_rfl
   ·
    have h36 := bh36
    have h36 := of_decide_eq_false h36
    refine EXIT (PASS trivial (PASS trivial (OUT (NEXT (SEQ (REGION [0, 1] rfl (RUN0 2 [] [(2, .v (.slice ob ot.length od))] ?_ rfl ?_)))))))
    · as_aux_lemma => kernel_rfl
    refine ENDOPS (NEXT (RET (FIN (.slice ob ot.length od) ?_ ⟨((ob, od), ot), (by first | omega | (dsimp only; omega))⟩ ?_ [0, 5] ?_)))
    · as_aux_lemma => kernel_rfl
    · rfl
    · rfl
  ·
   have h33 := bh33
   refine SKIP (NEXT (SEQ (REGION [0, 1] rfl (RUN0 2 [] [(2, .v (.slice oa out.length oc))] ?_ rfl ?_))))
   · as_aux_lemma => kernel_rfl
   refine ENDOPS (NEXT (RET (FIN (.slice oa out.length oc) ?_ ⟨((oa, oc), out), (by first | omega | (dsimp only; omega))⟩ ?_ [0, 5] ?_)))
   · as_aux_lemma => kernel_rfl
   · rfl
   · rfl

theorem drawScriptText_c (W : World) (code : List UInt8) (code_a : Option Addr) (code_c : Nat) (hcode : Rd byteL W code_a code) : Spec Tryz.prog W [] 6 #[.slice code_a code.length code_c] (⟨{q : (HH) × (List Req) // (fun x : List Req => x.length ≤ 201) q.2}, fun q => .slice q.1.1.1 q.1.2.length q.1.1.2, fun q => [slA 30 reqL (.slice q.1.1.1 q.1.2.length q.1.1.2) q.1.2]⟩) := by
 refine ENTER0 (N := 6) (vs := [.slice code_a code.length code_c]) Tryz.func6 rfl rfl (NL rfl) ?_
 have hcode_len := hcode.len
 refine SEQ (REGION [0] rfl (RUN0 1 [] [(0, .v (.slice code_a code.length code_c))] ?_ rfl ?_))
 · as_aux_lemma => kernel_rfl
 refine ENDOPS (NEXT (SEQ (REGION [0, 1, 2, 3] rfl (RUN0 1 [1, 2, 3] [(3, .v (.slice code_a code.length code_c))] ?_ rfl ?_))))
 · as_aux_lemma => kernel_rfl
 refine OPC (CALL 17 #[.slice code_a code.length code_c] (some 4) ?_ [] [] _ rfl (⟨Value, fun p => p, fun p => [curA (⟨W.heap.size, 60, code_a, code.length, code_c⟩) p]⟩) (fun w hw => l1New_c w code code_a code_c (hcode.fr hw.fr) W.heap.size hw.fr.size) (NO rfl) ?_)
 · as_aux_lemma => kernel_rfl
 rintro p1
 refine OPC (CALL 16 #[p1] (some 5) ?_ [0] [curA (⟨W.heap.size, 60, code_a, code.length, code_c⟩) p1] _ rfl (⟨{q : (HH) × (List Req) // (fun x : List Req => x.length ≤ 201) q.2}, fun q => .slice q.1.1.1 q.1.2.length q.1.1.2, fun q => [slA 30 reqL (.slice q.1.1.1 q.1.2.length q.1.1.2) q.1.2, curA (⟨W.heap.size, 60, code_a, code.length, code_c⟩) p1]⟩) (fun w hw => l29List_c w (⟨W.heap.size, 60, code_a, code.length, code_c⟩) (CodeOk.of hcode hw.fr) p1) (NO rfl) ?_)
 · as_aux_lemma => kernel_rfl
 rintro ⟨⟨⟨a4, c5⟩, m2⟩, hm3⟩
 try dsimp only at hm3
 refine RUN0 1 [] [(2, .v (.slice a4 m2.length c5))] ?_ rfl ?_
 · as_aux_lemma => kernel_rfl
 refine ENDOPS (NEXT (RET (FIN (.slice a4 m2.length c5) ?_ ⟨((a4, c5), m2), (by first | assumption | omega)⟩ ?_ [0] ?_)))
 · as_aux_lemma => kernel_rfl
 · rfl
 · rfl

theorem big_c (W : World) (code : List UInt8) (code_a : Option Addr) (code_c : Nat) (hcode : Rd byteL W code_a code) : Spec Tryz.prog W [] 5 #[.slice code_a code.length code_c] (RV (.bool (decide ((code.length : Int) > 1048576)))) := by
 refine ENTER0 (N := 6) (vs := [.slice code_a code.length code_c]) Tryz.func5 rfl rfl (NL rfl) ?_
 have hcode_len := hcode.len
 refine SEQ (REGION [0] rfl (RUN0 1 [] [(0, .v (.slice code_a code.length code_c))] ?_ rfl ?_))
 · as_aux_lemma => kernel_rfl
 refine ENDOPS (NEXT (SEQ (REGION [0, 1, 2, 3] rfl (RUN0 4 [] [(2, B (decide ((code.length : Int) > 1048576)))] ?_ rfl ?_))))
 · as_aux_lemma => kernel_rfl
 refine ENDOPS (NEXT (RET (FIN (.bool (decide ((code.length : Int) > 1048576))) ?_ () ?_ [] ?_)))
 · as_aux_lemma => kernel_rfl
 · rfl
 · rfl

end SX
end Go.Proofs.YtpdijcbgdalphabGreatDoor
