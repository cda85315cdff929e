/- Walks, printed by program. -/
import Derived.Test.YtpdijcbgdalphabGreatDoorE5
import Derived.Test.YtpdijcbgdalphabGreatDoorE7
namespace Go.Proofs.YtpdijcbgdalphabGreatDoor
namespace SX
open Go Go.RowKit
set_option linter.unusedVariables false
set_option linter.unusedSimpArgs false
set_option maxRecDepth 10000
set_option maxHeartbeats 400000
theorem l11Right_c (W : World) (d : Cd) (hd : CodeOk W d) (p : Value) : Spec Tryz.prog W [curA d p] 28 #[p] (⟨{q : (HH × HH × HH × HH × HH) × House // (fun x : House => True) q.2}, fun q => .agg #[.slice q.1.1.1.1 q.1.2.rules.seats.length q.1.1.1.2, vi q.1.2.rules.tiers, vi q.1.2.rules.room, vi q.1.2.rules.size, vi q.1.2.rules.period, vi q.1.2.rules.window, vi q.1.2.rules.rest, vi q.1.2.rules.tries, vi q.1.2.rules.crew, vi q.1.2.now, vi q.1.2.turn, .slice q.1.1.2.1.1 q.1.2.parties.length q.1.1.2.1.2, .slice q.1.1.2.2.1.1 q.1.2.cabins.length q.1.1.2.2.1.2, .slice q.1.1.2.2.2.1.1 q.1.2.todo.length q.1.1.2.2.2.1.2, .slice q.1.1.2.2.2.2.1 q.1.2.jobs.length q.1.1.2.2.2.2.2], fun q => [slA 3 intL (.slice q.1.1.1.1 q.1.2.rules.seats.length q.1.1.1.2) q.1.2.rules.seats, slA 80 partyL (.slice q.1.1.2.1.1 q.1.2.parties.length q.1.1.2.1.2) q.1.2.parties, slA 93 (cabinLx 129 106 111) (.slice q.1.1.2.2.1.1 q.1.2.cabins.length q.1.1.2.2.1.2) q.1.2.cabins, slA 3 intL (.slice q.1.1.2.2.2.1.1 q.1.2.todo.length q.1.1.2.2.2.1.2) q.1.2.todo, slA 3 intL (.slice q.1.1.2.2.2.2.1 q.1.2.jobs.length q.1.1.2.2.2.2.2) q.1.2.jobs, curA (d) p]⟩) := by
 refine ENTERC (N := 136) (vs := [p]) Tryz.func28 rfl rfl (NL rfl) (fun S0 hS hP => ?_)
 refine SEQ (REGION [0] rfl (RUN 1 [] [(0, .v (p)), (2, .p 0 0)] [(55, [.slice none 0 0, vi 0, vi 0, vi 0, vi 0, vi 0, vi 0, vi 0, vi 0, vi 0, vi 0, .slice none 0 0, .slice none 0 0, .slice none 0 0, .slice none 0 0])] ?_ rfl ?_))
 · as_aux_lemma => kernel_rfl
 refine ENDOPS (NEXT (SEQ (REGION [0, 1, 2, 3] rfl (RUN0 1 [1, 2, 3] [(0, .v (p)), (2, .p 0 0), (12, .v (p))] ?_ rfl ?_))))
 · as_aux_lemma => kernel_rfl
 refine OPC (CALL 44 #[p] (some 13) ?_ [0] [curA (d) p] _ rfl (⟨{q : (HH) × Rules // (fun x : Rules => True) q.2}, fun q => .agg #[.slice q.1.1.1 q.1.2.seats.length q.1.1.2, vi q.1.2.tiers, vi q.1.2.room, vi q.1.2.size, vi q.1.2.period, vi q.1.2.window, vi q.1.2.rest, vi q.1.2.tries, vi q.1.2.crew], fun q => [slA 3 intL (.slice q.1.1.1 q.1.2.seats.length q.1.1.2) q.1.2.seats, curA (d) p]⟩) (fun w hw => l5Right_c w (d) (hd.fr hw.fr hS) p) (NO rfl) ?_)
 · as_aux_lemma => kernel_rfl
 rintro ⟨⟨⟨a3, c4⟩, m1⟩, hm2⟩
 try dsimp only at hm2
 refine RUN 2 [] [(0, .v (p)), (2, .p 0 0), (3, .p 1 0)] [(55, [.slice none 0 0, vi 0, vi 0, vi 0, vi 0, vi 0, vi 0, vi 0, vi 0, vi 0, vi 0, .slice none 0 0, .slice none 0 0, .slice none 0 0, .slice none 0 0]), (51, [.slice a3 m1.seats.length c4, vi m1.tiers, vi m1.room, vi m1.size, vi m1.period, vi m1.window, vi m1.rest, vi m1.tries, vi m1.crew])] ?_ rfl ?_
 · as_aux_lemma => kernel_rfl
 refine ENDOPS (NEXT (SEQ (REGION [0, 1, 2, 3, 4, 5, 6, 7] rfl (RUN0 1 [1, 2, 3, 4, 5, 6, 7] [(0, .v (p)), (2, .p 0 0), (3, .p 1 0), (15, .v (.agg #[.slice a3 m1.seats.length c4, vi m1.tiers, vi m1.room, vi m1.size, vi m1.period, vi m1.window, vi m1.rest, vi m1.tries, vi m1.crew]))] ?_ rfl ?_))))
 · as_aux_lemma => kernel_rfl
 refine OPC (CALL 45 #[.agg #[.slice a3 m1.seats.length c4, vi m1.tiers, vi m1.room, vi m1.size, vi m1.period, vi m1.window, vi m1.rest, vi m1.tries, vi m1.crew]] (some 16) ?_ [] [] _ rfl (⟨{q : (HH × HH × HH × HH × HH) × (House × Bool) // (fun x : House × Bool => x.1.cabins.length ≤ m1.seats.length ∧ x.1.cabins.length ≤ x.1.rules.seats.length ∧ x.1.parties.length = 0 ∧ x.1.todo.length = 0 ∧ x.1.cabins.length ≤ 4 ∧ x.1.jobs.length ≤ 3) q.2}, fun q => .tuple #[.agg #[.slice q.1.1.1.1 q.1.2.1.rules.seats.length q.1.1.1.2, vi q.1.2.1.rules.tiers, vi q.1.2.1.rules.room, vi q.1.2.1.rules.size, vi q.1.2.1.rules.period, vi q.1.2.1.rules.window, vi q.1.2.1.rules.rest, vi q.1.2.1.rules.tries, vi q.1.2.1.rules.crew, vi q.1.2.1.now, vi q.1.2.1.turn, .slice q.1.1.2.1.1 q.1.2.1.parties.length q.1.1.2.1.2, .slice q.1.1.2.2.1.1 q.1.2.1.cabins.length q.1.1.2.2.1.2, .slice q.1.1.2.2.2.1.1 q.1.2.1.todo.length q.1.1.2.2.2.1.2, .slice q.1.1.2.2.2.2.1 q.1.2.1.jobs.length q.1.1.2.2.2.2.2], .bool q.1.2.2], fun q => [slA 3 intL (.slice q.1.1.1.1 q.1.2.1.rules.seats.length q.1.1.1.2) q.1.2.1.rules.seats, slA 80 partyL (.slice q.1.1.2.1.1 q.1.2.1.parties.length q.1.1.2.1.2) q.1.2.1.parties, slA 93 (cabinLx 129 106 111) (.slice q.1.1.2.2.1.1 q.1.2.1.cabins.length q.1.1.2.2.1.2) q.1.2.1.cabins, slA 3 intL (.slice q.1.1.2.2.2.1.1 q.1.2.1.todo.length q.1.1.2.2.2.1.2) q.1.2.1.todo, slA 3 intL (.slice q.1.1.2.2.2.2.1 q.1.2.1.jobs.length q.1.1.2.2.2.2.2) q.1.2.1.jobs]⟩) (fun w hw => houseNew_c w m1 a3 c4 (hw.rdO 0 rfl)) (NO rfl) ?_)
 · as_aux_lemma => kernel_rfl
 rintro ⟨⟨⟨⟨a7, c8⟩, ⟨a9, c10⟩, ⟨a11, c12⟩, ⟨a13, c14⟩, ⟨a15, c16⟩⟩, m5⟩, hm6⟩
 try dsimp only at hm6
 refine RUN 6 [] [(0, .v (p)), (2, .p 0 0), (3, .p 1 0), (4, .p 2 0)] [(55, [.slice none 0 0, vi 0, vi 0, vi 0, vi 0, vi 0, vi 0, vi 0, vi 0, vi 0, vi 0, .slice none 0 0, .slice none 0 0, .slice none 0 0, .slice none 0 0]), (51, [.slice a3 m1.seats.length c4, vi m1.tiers, vi m1.room, vi m1.size, vi m1.period, vi m1.window, vi m1.rest, vi m1.tries, vi m1.crew]), (55, [.slice a7 m5.1.rules.seats.length c8, vi m5.1.rules.tiers, vi m5.1.rules.room, vi m5.1.rules.size, vi m5.1.rules.period, vi m5.1.rules.window, vi m5.1.rules.rest, vi m5.1.rules.tries, vi m5.1.rules.crew, vi m5.1.now, vi m5.1.turn, .slice a9 m5.1.parties.length c10, .slice a11 m5.1.cabins.length c12, .slice a13 m5.1.todo.length c14, .slice a15 m5.1.jobs.length c16])] ?_ rfl ?_
 · as_aux_lemma => kernel_rfl
 refine ENDOPS (NEXT (SEQ (REGION [0, 1, 2, 3] rfl (RUN0 1 [1, 2, 3] [(0, .v (p)), (2, .p 0 0), (3, .p 1 0), (4, .p 2 0), (19, .v (p))] ?_ rfl ?_))))
 · as_aux_lemma => kernel_rfl
 refine OPC (CALL 29 #[p, vi 20] (some 20) ?_ [1] [curA (d) p] _ rfl (⟨{x : Int // 0 ≤ x ∧ (20 ≤ 0 → x = 0) ∧ (0 < 20 → x < 20)}, fun q => vi q.1, fun q => [curA (d) p]⟩) (fun w hw => l1Below_c w (d) (hd.fr hw.fr hS) p 20) (NO rfl) ?_)
 · as_aux_lemma => kernel_rfl
 rintro ⟨m17, hm18⟩
 try dsimp only at hm18
 refine RUN 2 [] [(0, .v (p)), (2, .p 0 0), (3, .p 1 0), (4, .p 2 0)] [(55, [.slice none 0 0, vi 0, vi 0, vi 0, vi 0, vi 0, vi 0, vi 0, vi 0, vi 0, vi 0, .slice none 0 0, .slice none 0 0, .slice none 0 0, .slice none 0 0]), (51, [.slice a3 m1.seats.length c4, vi m1.tiers, vi m1.room, vi m1.size, vi m1.period, vi m1.window, vi m1.rest, vi m1.tries, vi m1.crew]), (55, [.slice a7 m5.1.rules.seats.length c8, vi m5.1.rules.tiers, vi m5.1.rules.room, vi m5.1.rules.size, vi m5.1.rules.period, vi m5.1.rules.window, vi m5.1.rules.rest, vi m5.1.rules.tries, vi m5.1.rules.crew, vi m17, vi m5.1.turn, .slice a9 m5.1.parties.length c10, .slice a11 m5.1.cabins.length c12, .slice a13 m5.1.todo.length c14, .slice a15 m5.1.jobs.length c16])] ?_ rfl ?_
 · as_aux_lemma => kernel_rfl
 refine ENDOPS (NEXT (SEQ (REGION [0, 1, 2] rfl (RUN0 1 [1, 2] [(0, .v (p)), (2, .p 0 0), (3, .p 1 0), (4, .p 2 0), (22, .v (p))] ?_ rfl ?_))))
 · as_aux_lemma => kernel_rfl
 refine OPC (CALL 29 #[p, vi 9] (some 23) ?_ [6] [curA (d) p] _ rfl (⟨{x : Int // 0 ≤ x ∧ (9 ≤ 0 → x = 0) ∧ (0 < 9 → x < 9)}, fun q => vi q.1, fun q => [curA (d) p]⟩) (fun w hw => l1Below_c w (d) (hd.fr hw.fr hS) p 9) (NO rfl) ?_)
 · as_aux_lemma => kernel_rfl
 rintro ⟨m19, hm20⟩
 try dsimp only at hm20
 refine RUN0 1 [] [(0, .v (p)), (2, .p 0 0), (3, .p 1 0), (4, .p 2 0), (6, I m19)] ?_ rfl ?_
 · as_aux_lemma => kernel_rfl
 refine ENDOPS (NEXT (SEQ (REGION [0] rfl (RUN0 1 [] [(0, .v (p)), (2, .p 0 0), (3, .p 1 0), (4, .p 2 0), (6, I m19), (7, I 0)] ?_ rfl ?_))))
 · as_aux_lemma => kernel_rfl
 refine ENDOPS (NEXT (SEQ (SEQ (REGION [0] rfl (RUN0 1 [] [(0, .v (p)), (2, .p 0 0), (3, .p 1 0), (4, .p 2 0), (6, I m19), (7, I 0), (8, I 0)] ?_ rfl ?_)))))
 · as_aux_lemma => kernel_rfl
 refine ENDOPS (NEXT (BLOCK (LOOP (ι := Nat × Int × Int × (Option Addr) × Nat × (List Party)) (fun j => [(0, .v (p)), (2, .p 0 0), (3, .p 1 0), (4, .p 2 0), (6, I m19), (7, I j.2.1), (8, I (j.1 : Int))]) (fun j => [(55, [.slice none 0 0, vi 0, vi 0, vi 0, vi 0, vi 0, vi 0, vi 0, vi 0, vi 0, vi 0, .slice none 0 0, .slice none 0 0, .slice none 0 0, .slice none 0 0]), (51, [.slice a3 m1.seats.length c4, vi m1.tiers, vi m1.room, vi m1.size, vi m1.period, vi m1.window, vi m1.rest, vi m1.tries, vi m1.crew]), (55, [.slice a7 m5.1.rules.seats.length c8, vi m5.1.rules.tiers, vi m5.1.rules.room, vi m5.1.rules.size, vi m5.1.rules.period, vi m5.1.rules.window, vi m5.1.rules.rest, vi m5.1.rules.tries, vi m5.1.rules.crew, vi m17, vi j.2.2.1, .slice j.2.2.2.1 j.2.2.2.2.2.length j.2.2.2.2.1, .slice a11 m5.1.cabins.length c12, .slice a13 m5.1.todo.length c14, .slice a15 m5.1.jobs.length c16])]) (fun j => [slA 3 intL (.slice a3 m1.seats.length c4) m1.seats, slA 3 intL (.slice a7 m5.1.rules.seats.length c8) m5.1.rules.seats, slA 80 partyL (.slice j.2.2.2.1 j.2.2.2.2.2.length j.2.2.2.2.1) j.2.2.2.2.2, slA 93 (cabinLx 129 106 111) (.slice a11 m5.1.cabins.length c12) m5.1.cabins, slA 3 intL (.slice a13 m5.1.todo.length c14) m5.1.todo, slA 3 intL (.slice a15 m5.1.jobs.length c16) m5.1.jobs, curA (d) p]) (fun j => j.2.2.2.2.2.length ≤ j.1 ∧ j.1 ≤ 9) (fun j => 9 - j.1) (0, 0, m5.1.turn, a9, c10, m5.1.parties) [0, 2, 3, 4, 6, 7, 8] ⟨by dsimp only; omega, by omega⟩ ?_ rfl rfl ?_)))
 · as_aux_lemma => kernel_rfl
 rintro ⟨i, sc, tn, oa, oc, ps⟩ ⟨hpl, hi9⟩
 try dsimp only at hpl hi9
 refine SEQ (SEQ (REGION [0, 1, 2] rfl (RUN0 3 [] [(0, .v (p)), (2, .p 0 0), (3, .p 1 0), (4, .p 2 0), (6, I m19), (7, I sc), (8, I (i : Int)), (26, B (decide ((i : Int) < m19)))] ?_ rfl ?_)))
 · as_aux_lemma => kernel_rfl
 refine ENDOPS (NEXT (IF (decide ((i : Int) < m19)) ?_ (fun bh21 => ?_) (fun bh21 => ?_)))
 · as_aux_lemma => kernel_rfl
 ·
  have h21 := bh21
  have h21 := of_decide_eq_true h21
  refine SKIP (NEXT (SEQ (BLOCK (SEQ (REGION [0, 1, 2, 3, 4, 5, 6] rfl (RUN0 4 [4, 5, 6] [(0, .v (p)), (2, .p 0 0), (3, .p 1 0), (4, .p 2 0), (6, I m19), (7, I sc), (8, I (i : Int)), (29, .v (p)), (30, .v (.agg #[.slice a3 m1.seats.length c4, vi m1.tiers, vi m1.room, vi m1.size, vi m1.period, vi m1.window, vi m1.rest, vi m1.tries, vi m1.crew])), (32, I m17)] ?_ rfl ?_))))))
  · as_aux_lemma => kernel_rfl
  refine OPC (CALL 46 #[p, .agg #[.slice a3 m1.seats.length c4, vi m1.tiers, vi m1.room, vi m1.size, vi m1.period, vi m1.window, vi m1.rest, vi m1.tries, vi m1.crew], vi m17] (some 33) ?_ [6] [curA (d) p] _ rfl (⟨{x : Party // True}, fun q => .agg #[vi q.1.id, vi q.1.cabin, vi q.1.from', vi q.1.size, vi q.1.tier, vi q.1.since, vi q.1.turn, vi q.1.state, vi q.1.until', vi q.1.asked], fun q => [curA (d) p]⟩) (fun w hw => l6Right_c w (d) (hd.fr hw.fr hS) p m1 a3 c4 (RdP.own hw 0 6 rfl rfl (by decide)) m17) (NO rfl) ?_)
  · as_aux_lemma => kernel_rfl
  rintro ⟨m22, hm23⟩
  try dsimp only at hm23
  refine RUN 2 [] [(0, .v (p)), (2, .p 0 0), (3, .p 1 0), (4, .p 2 0), (6, I m19), (7, I sc), (8, I (i : Int)), (9, .p 3 0)] [(55, [.slice none 0 0, vi 0, vi 0, vi 0, vi 0, vi 0, vi 0, vi 0, vi 0, vi 0, vi 0, .slice none 0 0, .slice none 0 0, .slice none 0 0, .slice none 0 0]), (51, [.slice a3 m1.seats.length c4, vi m1.tiers, vi m1.room, vi m1.size, vi m1.period, vi m1.window, vi m1.rest, vi m1.tries, vi m1.crew]), (55, [.slice a7 m5.1.rules.seats.length c8, vi m5.1.rules.tiers, vi m5.1.rules.room, vi m5.1.rules.size, vi m5.1.rules.period, vi m5.1.rules.window, vi m5.1.rules.rest, vi m5.1.rules.tries, vi m5.1.rules.crew, vi m17, vi tn, .slice oa ps.length oc, .slice a11 m5.1.cabins.length c12, .slice a13 m5.1.todo.length c14, .slice a15 m5.1.jobs.length c16]), (80, [vi m22.id, vi m22.cabin, vi m22.from', vi m22.size, vi m22.tier, vi m22.since, vi m22.turn, vi m22.state, vi m22.until', vi m22.asked])] ?_ rfl ?_
  · as_aux_lemma => kernel_rfl
  refine ENDOPS (NEXT (SEQ (REGION [0, 1, 2, 3, 4] rfl (RUN0 1 [1, 2, 3, 4] [(0, .v (p)), (2, .p 0 0), (3, .p 1 0), (4, .p 2 0), (6, I m19), (7, I sc), (8, I (i : Int)), (9, .p 3 0), (34, .v (p))] ?_ rfl ?_))))
  · as_aux_lemma => kernel_rfl
  refine OPC (CALL 29 #[p, vi 12] (some 35) ?_ [6] [curA (d) p] _ rfl (⟨{x : Int // 0 ≤ x ∧ (12 ≤ 0 → x = 0) ∧ (0 < 12 → x < 12)}, fun q => vi q.1, fun q => [curA (d) p]⟩) (fun w hw => l1Below_c w (d) (hd.fr hw.fr hS) p 12) (NO rfl) ?_)
  · as_aux_lemma => kernel_rfl
  rintro ⟨m24, hm25⟩
  try dsimp only at hm25
  refine RUN 3 [] [(0, .v (p)), (2, .p 0 0), (3, .p 1 0), (4, .p 2 0), (6, I m19), (7, I sc), (8, I (i : Int)), (9, .p 3 0)] [(55, [.slice none 0 0, vi 0, vi 0, vi 0, vi 0, vi 0, vi 0, vi 0, vi 0, vi 0, vi 0, .slice none 0 0, .slice none 0 0, .slice none 0 0, .slice none 0 0]), (51, [.slice a3 m1.seats.length c4, vi m1.tiers, vi m1.room, vi m1.size, vi m1.period, vi m1.window, vi m1.rest, vi m1.tries, vi m1.crew]), (55, [.slice a7 m5.1.rules.seats.length c8, vi m5.1.rules.tiers, vi m5.1.rules.room, vi m5.1.rules.size, vi m5.1.rules.period, vi m5.1.rules.window, vi m5.1.rules.rest, vi m5.1.rules.tries, vi m5.1.rules.crew, vi m17, vi tn, .slice oa ps.length oc, .slice a11 m5.1.cabins.length c12, .slice a13 m5.1.todo.length c14, .slice a15 m5.1.jobs.length c16]), (80, [vi (wr (1 + m24)), vi m22.cabin, vi m22.from', vi m22.size, vi m22.tier, vi m22.since, vi m22.turn, vi m22.state, vi m22.until', vi m22.asked])] ?_ rfl ?_
  · as_aux_lemma => kernel_rfl
  refine ENDOPS (NEXT (SEQ (EXPORT (fun bs hbs => ?_))))
  obtain ⟨b26, b27, b28, b29, rfl⟩ := len4 hbs
  refine REGIONH ?_ 7 rfl [ptC b26 55 [.slice none 0 0, vi 0, vi 0, vi 0, vi 0, vi 0, vi 0, vi 0, vi 0, vi 0, vi 0, .slice none 0 0, .slice none 0 0, .slice none 0 0, .slice none 0 0], ptC b27 51 [.slice a3 m1.seats.length c4, vi m1.tiers, vi m1.room, vi m1.size, vi m1.period, vi m1.window, vi m1.rest, vi m1.tries, vi m1.crew], ptC b28 55 [.slice a7 m5.1.rules.seats.length c8, vi m5.1.rules.tiers, vi m5.1.rules.room, vi m5.1.rules.size, vi m5.1.rules.period, vi m5.1.rules.window, vi m5.1.rules.rest, vi m5.1.rules.tries, vi m5.1.rules.crew, vi m17, vi tn, .slice oa ps.length oc, .slice a11 m5.1.cabins.length c12, .slice a13 m5.1.todo.length c14, .slice a15 m5.1.jobs.length c16], slA 3 intL (.slice a3 m1.seats.length c4) m1.seats, slA 3 intL (.slice a7 m5.1.rules.seats.length c8) m5.1.rules.seats, slA 80 partyL (.slice oa ps.length oc) ps, slA 93 (cabinLx 129 106 111) (.slice a11 m5.1.cabins.length c12) m5.1.cabins, slA 3 intL (.slice a13 m5.1.todo.length c14) m5.1.todo, slA 3 intL (.slice a15 m5.1.jobs.length c16) m5.1.jobs] ?_
  · as_aux_lemma => kernel_rfl
  refine HPURE (js := [0, 0, 0, 1, 1, 1, 1, 1, 1]) 0 [(0, .v (p)), (2, .e (some ⟨b26, 0, none⟩) 0 0), (3, .e (some ⟨b27, 0, none⟩) 0 0), (4, .e (some ⟨b28, 0, none⟩) 0 0), (6, I m19), (7, I sc), (8, I (i : Int)), (9, .e (some ⟨b29, 0, none⟩) 0 0), (38, .e (some ⟨b28, 0, none⟩) 0 10)] ?_ ?_ rfl ?_
  iterate 2 (as_aux_lemma => kernel_rfl)
  refine HLOADE (i := 1) (js := [0, 0, 0, 1, 1, 1, 1, 1, 1])  3 (.tmp 38) 39 3 ?_ (NL rfl) (some ⟨b28, 0, none⟩) 0 10 [.slice a7 m5.1.rules.seats.length c8, vi m5.1.rules.tiers, vi m5.1.rules.room, vi m5.1.rules.size, vi m5.1.rules.period, vi m5.1.rules.window, vi m5.1.rules.rest, vi m5.1.rules.tries, vi m5.1.rules.crew, vi m17, vi tn, .slice oa ps.length oc, .slice a11 m5.1.cabins.length c12, .slice a13 m5.1.todo.length c14, .slice a15 m5.1.jobs.length c16] (vi tn) ?_ (fun w hw => ptC_elem (hw.own 2 rfl)) ?_ ?_ rfl ?_
  iterate 4 (as_aux_lemma => kernel_rfl)
  refine HPURE (js := [0, 0, 0, 1, 1, 1, 1, 1, 1]) 2 [(0, .v (p)), (2, .e (some ⟨b26, 0, none⟩) 0 0), (3, .e (some ⟨b27, 0, none⟩) 0 0), (4, .e (some ⟨b28, 0, none⟩) 0 0), (6, I m19), (7, I sc), (8, I (i : Int)), (9, .e (some ⟨b29, 0, none⟩) 0 0), (39, I tn), (40, .v (p))] ?_ ?_ rfl ?_
  iterate 2 (as_aux_lemma => kernel_rfl)
  refine HALL [3] ?_ (by decide) ?_
  · as_aux_lemma => kernel_rfl
  refine CALL 29 #[p, vi 2] (some 41) ?_ [10] [curA (d) p] _ rfl (⟨{x : Int // 0 ≤ x ∧ (2 ≤ 0 → x = 0) ∧ (0 < 2 → x < 2)}, fun q => vi q.1, fun q => [curA (d) p]⟩) (fun w hw => l1Below_c w (d) (hd.fr hw.fr hS) p 2) (NO rfl) ?_
  · as_aux_lemma => kernel_rfl
  rintro ⟨m30, hm31⟩
  try dsimp only at hm31
  refine HKEEP (js := [0, 0, 0, 1, 1, 1, 1, 1, 1]) rfl (HPURE (js := [0, 0, 0, 1, 1, 1, 1, 1, 1]) 4 [(0, .v (p)), (2, .e (some ⟨b26, 0, none⟩) 0 0), (3, .e (some ⟨b27, 0, none⟩) 0 0), (4, .e (some ⟨b28, 0, none⟩) 0 0), (6, I m19), (7, I sc), (8, I (i : Int)), (9, .e (some ⟨b29, 0, none⟩) 0 0), (42, I (wr (tn + m30)))] ?_ ?_ rfl ?_)
  iterate 2 (as_aux_lemma => kernel_rfl)
  refine HPURE (js := [0, 0, 0, 1, 1, 1, 1, 1, 1]) 5 [(0, .v (p)), (2, .e (some ⟨b26, 0, none⟩) 0 0), (3, .e (some ⟨b27, 0, none⟩) 0 0), (4, .e (some ⟨b28, 0, none⟩) 0 0), (6, I m19), (7, I sc), (8, I (i : Int)), (9, .e (some ⟨b29, 0, none⟩) 0 0), (42, I (wr (tn + m30))), (43, .e (some ⟨b29, 0, none⟩) 0 6)] ?_ ?_ rfl ?_
  iterate 2 (as_aux_lemma => kernel_rfl)
  refine HALL [6] ?_ (by decide) ?_
  · as_aux_lemma => kernel_rfl
  refine STOREC 3 (.tmp 43) (.tmp 42) 0 ?_ 3 _ b29 6 80 [vi (wr (1 + m24)), vi m22.cabin, vi m22.from', vi m22.size, vi m22.tier, vi m22.since, vi m22.turn, vi m22.state, vi m22.until', vi m22.asked] [vi (wr (1 + m24)), vi m22.cabin, vi m22.from', vi m22.size, vi m22.tier, vi m22.since, vi (wr (tn + m30)), vi m22.state, vi m22.until', vi m22.asked] rfl (vi (wr (tn + m30))) ?_ ?_ ?_ ?_
  iterate 4 (as_aux_lemma => kernel_rfl)
  refine HKEEP (js := [0, 0, 0, 0, 0, 0, 0, 0, 0]) rfl (HEND ?_ ?_)
  · as_aux_lemma => kernel_rfl
  refine IMPORT (L0 := [(55, [.slice none 0 0, vi 0, vi 0, vi 0, vi 0, vi 0, vi 0, vi 0, vi 0, vi 0, vi 0, .slice none 0 0, .slice none 0 0, .slice none 0 0, .slice none 0 0]), (51, [.slice a3 m1.seats.length c4, vi m1.tiers, vi m1.room, vi m1.size, vi m1.period, vi m1.window, vi m1.rest, vi m1.tries, vi m1.crew]), (55, [.slice a7 m5.1.rules.seats.length c8, vi m5.1.rules.tiers, vi m5.1.rules.room, vi m5.1.rules.size, vi m5.1.rules.period, vi m5.1.rules.window, vi m5.1.rules.rest, vi m5.1.rules.tries, vi m5.1.rules.crew, vi m17, vi tn, .slice oa ps.length oc, .slice a11 m5.1.cabins.length c12, .slice a13 m5.1.todo.length c14, .slice a15 m5.1.jobs.length c16]), (80, [vi (wr (1 + m24)), vi m22.cabin, vi m22.from', vi m22.size, vi m22.tier, vi m22.since, vi (wr (tn + m30)), vi m22.state, vi m22.until', vi m22.asked])]) (L1 := []) [b26, b27, b28, b29] rfl [0, 0, 0, 7] _ rfl [(0, .v (p)), (2, .p 0 0), (3, .p 1 0), (4, .p 2 0), (6, I m19), (7, I sc), (8, I (i : Int)), (9, .p 3 0), (42, I (wr (tn + m30))), (43, .p 3 6)] ?_ ?_ ?_
  iterate 2 (as_aux_lemma => kernel_rfl)
  refine NEXT (SEQ (REGION [0, 1, 2, 3, 4] rfl (RUN0 2 [2, 3, 4] [(0, .v (p)), (2, .p 0 0), (3, .p 1 0), (4, .p 2 0), (6, I m19), (8, I (i : Int)), (9, .p 3 0), (44, I sc), (45, .v (p))] ?_ rfl ?_)))
  · as_aux_lemma => kernel_rfl
  refine OPC (CALL 29 #[p, vi 4] (some 46) ?_ [6] [curA (d) p] _ rfl (⟨{x : Int // 0 ≤ x ∧ (4 ≤ 0 → x = 0) ∧ (0 < 4 → x < 4)}, fun q => vi q.1, fun q => [curA (d) p]⟩) (fun w hw => l1Below_c w (d) (hd.fr hw.fr hS) p 4) (NO rfl) ?_)
  · as_aux_lemma => kernel_rfl
  rintro ⟨m32, hm33⟩
  try dsimp only at hm33
  refine RUN0 2 [] [(0, .v (p)), (2, .p 0 0), (3, .p 1 0), (4, .p 2 0), (6, I m19), (7, I (wr (sc + m32))), (8, I (i : Int)), (9, .p 3 0)] ?_ rfl ?_
  · as_aux_lemma => kernel_rfl
  refine ENDOPS (NEXT (SEQ (REGION [0, 1, 2, 3, 4, 5] rfl (RUN0 3 [3, 4, 5] [(0, .v (p)), (2, .p 0 0), (3, .p 1 0), (4, .p 2 0), (6, I m19), (7, I (wr (sc + m32))), (8, I (i : Int)), (9, .p 3 0), (48, I (wr (sc + m32))), (50, I m17)] ?_ rfl ?_))))
  · as_aux_lemma => kernel_rfl
  refine OPC (CALL 47 #[vi (wr (sc + m32)), vi m17] (some 51) ?_ [] [] _ rfl (RV (vi (if (wr (sc + m32)) < m17 then (wr (sc + m32)) else m17))) (fun w hw => l1Min_c w (wr (sc + m32)) m17) (NO rfl) ?_)
  · as_aux_lemma => kernel_rfl
  rintro ⟨⟩
  refine RUN 2 [] [(0, .v (p)), (2, .p 0 0), (3, .p 1 0), (4, .p 2 0), (6, I m19), (7, I (wr (sc + m32))), (8, I (i : Int)), (9, .p 3 0)] [(55, [.slice none 0 0, vi 0, vi 0, vi 0, vi 0, vi 0, vi 0, vi 0, vi 0, vi 0, vi 0, .slice none 0 0, .slice none 0 0, .slice none 0 0, .slice none 0 0]), (51, [.slice a3 m1.seats.length c4, vi m1.tiers, vi m1.room, vi m1.size, vi m1.period, vi m1.window, vi m1.rest, vi m1.tries, vi m1.crew]), (55, [.slice a7 m5.1.rules.seats.length c8, vi m5.1.rules.tiers, vi m5.1.rules.room, vi m5.1.rules.size, vi m5.1.rules.period, vi m5.1.rules.window, vi m5.1.rules.rest, vi m5.1.rules.tries, vi m5.1.rules.crew, vi m17, vi tn, .slice oa ps.length oc, .slice a11 m5.1.cabins.length c12, .slice a13 m5.1.todo.length c14, .slice a15 m5.1.jobs.length c16]), (80, [vi (wr (1 + m24)), vi m22.cabin, vi m22.from', vi m22.size, vi m22.tier, vi (if (wr (sc + m32)) < m17 then (wr (sc + m32)) else m17), vi (wr (tn + m30)), vi m22.state, vi m22.until', vi m22.asked])] ?_ rfl ?_
  · as_aux_lemma => kernel_rfl
  refine ENDOPS (NEXT (SEQJ (ι := Int) (fun j => [(0, .v (p)), (2, .p 0 0), (3, .p 1 0), (4, .p 2 0), (6, I m19), (7, I (wr (sc + m32))), (8, I (i : Int)), (9, .p 3 0)]) (fun j => [(55, [.slice none 0 0, vi 0, vi 0, vi 0, vi 0, vi 0, vi 0, vi 0, vi 0, vi 0, vi 0, .slice none 0 0, .slice none 0 0, .slice none 0 0, .slice none 0 0]), (51, [.slice a3 m1.seats.length c4, vi m1.tiers, vi m1.room, vi m1.size, vi m1.period, vi m1.window, vi m1.rest, vi m1.tries, vi m1.crew]), (55, [.slice a7 m5.1.rules.seats.length c8, vi m5.1.rules.tiers, vi m5.1.rules.room, vi m5.1.rules.size, vi m5.1.rules.period, vi m5.1.rules.window, vi m5.1.rules.rest, vi m5.1.rules.tries, vi m5.1.rules.crew, vi m17, vi tn, .slice oa ps.length oc, .slice a11 m5.1.cabins.length c12, .slice a13 m5.1.todo.length c14, .slice a15 m5.1.jobs.length c16]), (80, [vi (wr (1 + m24)), vi m22.cabin, vi j, vi m22.size, vi m22.tier, vi (if (wr (sc + m32)) < m17 then (wr (sc + m32)) else m17), vi (wr (tn + m30)), vi m22.state, vi m22.until', vi m22.asked])]) (fun j => [slA 3 intL (.slice a3 m1.seats.length c4) m1.seats, slA 3 intL (.slice a7 m5.1.rules.seats.length c8) m5.1.rules.seats, slA 80 partyL (.slice oa ps.length oc) ps, slA 93 (cabinLx 129 106 111) (.slice a11 m5.1.cabins.length c12) m5.1.cabins, slA 3 intL (.slice a13 m5.1.todo.length c14) m5.1.todo, slA 3 intL (.slice a15 m5.1.jobs.length c16) m5.1.jobs, curA (d) p]) (fun j => True) ?_ ?_))
  ·
   refine SEQ (REGION [0, 1, 2, 3, 4] rfl (RUN0 5 [] [(0, .v (p)), (2, .p 0 0), (3, .p 1 0), (4, .p 2 0), (6, I m19), (7, I (wr (sc + m32))), (8, I (i : Int)), (9, .p 3 0), (57, B (m22.from' == m22.cabin))] ?_ rfl ?_))
   · as_aux_lemma => kernel_rfl
   refine ENDOPS (NEXT (IF (m22.from' == m22.cabin) ?_ (fun bh34 => ?_) (fun bh34 => ?_)))
   · as_aux_lemma => kernel_rfl
   ·
    have h34 := bh34
    have h34 := eq_of_beq h34
    refine REGION [0, 1] rfl (RUN 2 [] [(0, .v (p)), (2, .p 0 0), (3, .p 1 0), (4, .p 2 0), (6, I m19), (7, I (wr (sc + m32))), (8, I (i : Int)), (9, .p 3 0)] [(55, [.slice none 0 0, vi 0, vi 0, vi 0, vi 0, vi 0, vi 0, vi 0, vi 0, vi 0, vi 0, .slice none 0 0, .slice none 0 0, .slice none 0 0, .slice none 0 0]), (51, [.slice a3 m1.seats.length c4, vi m1.tiers, vi m1.room, vi m1.size, vi m1.period, vi m1.window, vi m1.rest, vi m1.tries, vi m1.crew]), (55, [.slice a7 m5.1.rules.seats.length c8, vi m5.1.rules.tiers, vi m5.1.rules.room, vi m5.1.rules.size, vi m5.1.rules.period, vi m5.1.rules.window, vi m5.1.rules.rest, vi m5.1.rules.tries, vi m5.1.rules.crew, vi m17, vi tn, .slice oa ps.length oc, .slice a11 m5.1.cabins.length c12, .slice a13 m5.1.todo.length c14, .slice a15 m5.1.jobs.length c16]), (80, [vi (wr (1 + m24)), vi m22.cabin, vi (-1), vi m22.size, vi m22.tier, vi (if (wr (sc + m32)) < m17 then (wr (sc + m32)) else m17), vi (wr (tn + m30)), vi m22.state, vi m22.until', vi m22.asked])] ?_ rfl ?_)
    · as_aux_lemma => kernel_rfl
    refine ENDOPS (JBACK (-1) [0, 2, 3, 4, 6, 7, 8, 9] 4 [0, 0, 0, 0, 0, 0, 0] _ trivial ?_ rfl rfl rfl)
    · as_aux_lemma => kernel_rfl
   ·
    have h34 := bh34
    have h34 := ne_of_beq_false h34
    refine SKIP (JBACK (m22.from') [0, 2, 3, 4, 6, 7, 8, 9] 4 [0, 0, 0, 0, 0, 0, 0] _ trivial ?_ rfl rfl rfl)
    · as_aux_lemma => kernel_rfl
  rintro fr hi35
  try dsimp only at hi35
  refine SEQ (SEQ (EXPORT (fun bs hbs => ?_)))
  obtain ⟨b36, b37, b38, b39, rfl⟩ := len4 hbs
  refine REGIONH ?_ 22 rfl [ptC b36 55 [.slice none 0 0, vi 0, vi 0, vi 0, vi 0, vi 0, vi 0, vi 0, vi 0, vi 0, vi 0, .slice none 0 0, .slice none 0 0, .slice none 0 0, .slice none 0 0], ptC b37 51 [.slice a3 m1.seats.length c4, vi m1.tiers, vi m1.room, vi m1.size, vi m1.period, vi m1.window, vi m1.rest, vi m1.tries, vi m1.crew], ptC b38 55 [.slice a7 m5.1.rules.seats.length c8, vi m5.1.rules.tiers, vi m5.1.rules.room, vi m5.1.rules.size, vi m5.1.rules.period, vi m5.1.rules.window, vi m5.1.rules.rest, vi m5.1.rules.tries, vi m5.1.rules.crew, vi m17, vi tn, .slice oa ps.length oc, .slice a11 m5.1.cabins.length c12, .slice a13 m5.1.todo.length c14, .slice a15 m5.1.jobs.length c16], ptC b39 80 [vi (wr (1 + m24)), vi m22.cabin, vi fr, vi m22.size, vi m22.tier, vi (if (wr (sc + m32)) < m17 then (wr (sc + m32)) else m17), vi (wr (tn + m30)), vi m22.state, vi m22.until', vi m22.asked], slA 3 intL (.slice a3 m1.seats.length c4) m1.seats, slA 3 intL (.slice a7 m5.1.rules.seats.length c8) m5.1.rules.seats, slA 80 partyL (.slice oa ps.length oc) ps, slA 93 (cabinLx 129 106 111) (.slice a11 m5.1.cabins.length c12) m5.1.cabins, slA 3 intL (.slice a13 m5.1.todo.length c14) m5.1.todo, slA 3 intL (.slice a15 m5.1.jobs.length c16) m5.1.jobs, curA (d) p] ?_
  · as_aux_lemma => kernel_rfl
  refine HPURE (js := [0, 0, 0, 0, 0, 0, 0, 0, 0, 0, 0]) 0 [(0, .v (p)), (2, .e (some ⟨b36, 0, none⟩) 0 0), (3, .e (some ⟨b37, 0, none⟩) 0 0), (4, .e (some ⟨b38, 0, none⟩) 0 0), (6, I m19), (7, I (wr (sc + m32))), (8, I (i : Int)), (9, .e (some ⟨b39, 0, none⟩) 0 0), (59, .e (some ⟨b38, 0, none⟩) 0 11)] ?_ ?_ rfl ?_
  iterate 2 (as_aux_lemma => kernel_rfl)
  refine HLOADE (i := 1) (js := [0, 0, 0, 0, 0, 0, 0, 0, 0, 0, 0])  52 (.tmp 59) 60 52 ?_ (NL rfl) (some ⟨b38, 0, none⟩) 0 11 [.slice a7 m5.1.rules.seats.length c8, vi m5.1.rules.tiers, vi m5.1.rules.room, vi m5.1.rules.size, vi m5.1.rules.period, vi m5.1.rules.window, vi m5.1.rules.rest, vi m5.1.rules.tries, vi m5.1.rules.crew, vi m17, vi tn, .slice oa ps.length oc, .slice a11 m5.1.cabins.length c12, .slice a13 m5.1.todo.length c14, .slice a15 m5.1.jobs.length c16] (.slice oa ps.length oc) ?_ (fun w hw => ptC_elem (hw.own 2 rfl)) ?_ ?_ rfl ?_
  iterate 4 (as_aux_lemma => kernel_rfl)
  refine HPURE (js := [0, 0, 0, 0, 0, 0, 0, 0, 0, 0, 0]) 2 [(0, .v (p)), (2, .e (some ⟨b36, 0, none⟩) 0 0), (3, .e (some ⟨b37, 0, none⟩) 0 0), (4, .e (some ⟨b38, 0, none⟩) 0 0), (6, I m19), (7, I (wr (sc + m32))), (8, I (i : Int)), (9, .e (some ⟨b39, 0, none⟩) 0 0), (60, .v (.slice oa ps.length oc)), (61, .e (some ⟨b39, 0, none⟩) 0 0)] ?_ ?_ rfl ?_
  iterate 2 (as_aux_lemma => kernel_rfl)
  refine HLOADE (i := 3) (js := [0, 0, 0, 0, 0, 0, 0, 0, 0, 0, 0])  3 (.tmp 61) 62 3 ?_ (NL rfl) (some ⟨b39, 0, none⟩) 0 0 [vi (wr (1 + m24)), vi m22.cabin, vi fr, vi m22.size, vi m22.tier, vi (if (wr (sc + m32)) < m17 then (wr (sc + m32)) else m17), vi (wr (tn + m30)), vi m22.state, vi m22.until', vi m22.asked] (vi (wr (1 + m24))) ?_ (fun w hw => ptC_elem (hw.own 3 rfl)) ?_ ?_ rfl ?_
  iterate 4 (as_aux_lemma => kernel_rfl)
  refine HALL [4] ?_ (by decide) ?_
  · as_aux_lemma => kernel_rfl
  refine CALL 48 #[.slice oa ps.length oc, vi (wr (1 + m24))] (some 63) ?_ [] [] _ rfl (⟨{x : Int // x < (ps.length : Int)}, fun q => vi q.1, fun q => []⟩) (fun w hw => l11At_c w ps oa oc (hw.rdO 6 rfl) (wr (1 + m24))) (NO rfl) ?_
  · as_aux_lemma => kernel_rfl
  rintro ⟨m40, hm41⟩
  try dsimp only at hm41
  refine HKEEP (js := [0, 0, 0, 0, 0, 0, 0, 0, 0, 0, 0]) rfl (HPURE (js := [0, 0, 0, 0, 0, 0, 0, 0, 0, 0, 0]) 5 [(0, .v (p)), (2, .e (some ⟨b36, 0, none⟩) 0 0), (3, .e (some ⟨b37, 0, none⟩) 0 0), (4, .e (some ⟨b38, 0, none⟩) 0 0), (6, I m19), (7, I (wr (sc + m32))), (8, I (i : Int)), (9, .e (some ⟨b39, 0, none⟩) 0 0), (64, B (decide (m40 ≥ 0)))] ?_ ?_ rfl ?_)
  iterate 2 (as_aux_lemma => kernel_rfl)
  refine HPURE (js := [0, 0, 0, 0, 0, 0, 0, 0, 0, 0, 0]) 6 [(0, .v (p)), (2, .e (some ⟨b36, 0, none⟩) 0 0), (3, .e (some ⟨b37, 0, none⟩) 0 0), (4, .e (some ⟨b38, 0, none⟩) 0 0), (6, I m19), (7, I (wr (sc + m32))), (8, I (i : Int)), (9, .e (some ⟨b39, 0, none⟩) 0 0), (65, B (decide (m40 ≥ 0)))] ?_ ?_ rfl ?_
  iterate 2 (as_aux_lemma => kernel_rfl)
  refine SPLIT (d := 65) (decide (m40 ≥ 0)) ?_ (fun bh42 => ?_) (fun bh42 => ?_)
  · as_aux_lemma => kernel_rfl
  ·
   have h42 := bh42
   have h42 := of_decide_eq_true h42
   refine HSKIP (i := 7) (js := [0, 0, 0, 0, 0, 0, 0, 0, 0, 0, 0]) _ rfl ?_ rfl ?_
   · as_aux_lemma => kernel_rfl
   refine HSKIP (i := 8) (js := [0, 0, 0, 0, 0, 0, 0, 0, 0, 0, 0]) _ rfl ?_ rfl ?_
   · as_aux_lemma => kernel_rfl
   refine HSKIP (i := 9) (js := [0, 0, 0, 0, 0, 0, 0, 0, 0, 0, 0]) _ rfl ?_ rfl ?_
   · as_aux_lemma => kernel_rfl
   refine HSKIP (i := 10) (js := [0, 0, 0, 0, 0, 0, 0, 0, 0, 0, 0]) _ rfl ?_ rfl ?_
   · as_aux_lemma => kernel_rfl
   refine HSKIP (i := 11) (js := [0, 0, 0, 0, 0, 0, 0, 0, 0, 0, 0]) _ rfl ?_ rfl ?_
   · as_aux_lemma => kernel_rfl
   refine HSKIP (i := 12) (js := [0, 0, 0, 0, 0, 0, 0, 0, 0, 0, 0]) _ rfl ?_ rfl ?_
   · as_aux_lemma => kernel_rfl
   refine HSKIP (i := 13) (js := [0, 0, 0, 0, 0, 0, 0, 0, 0, 0, 0]) _ rfl ?_ rfl ?_
   · as_aux_lemma => kernel_rfl
   refine HSKIP (i := 14) (js := [0, 0, 0, 0, 0, 0, 0, 0, 0, 0, 0]) _ rfl ?_ rfl ?_
   · as_aux_lemma => kernel_rfl
   refine HPURE (js := [0, 0, 0, 0, 0, 0, 0, 0, 0, 0, 0]) 15 [(0, .v (p)), (2, .e (some ⟨b36, 0, none⟩) 0 0), (3, .e (some ⟨b37, 0, none⟩) 0 0), (4, .e (some ⟨b38, 0, none⟩) 0 0), (6, I m19), (7, I (wr (sc + m32))), (8, I (i : Int)), (9, .e (some ⟨b39, 0, none⟩) 0 0), (74, B true)] ?_ ?_ rfl ?_
   iterate 2 (as_aux_lemma => kernel_rfl)
   refine HPURE (js := [0, 0, 0, 0, 0, 0, 0, 0, 0, 0, 0]) 16 [(0, .v (p)), (2, .e (some ⟨b36, 0, none⟩) 0 0), (3, .e (some ⟨b37, 0, none⟩) 0 0), (4, .e (some ⟨b38, 0, none⟩) 0 0), (6, I m19), (7, I (wr (sc + m32))), (8, I (i : Int)), (9, .e (some ⟨b39, 0, none⟩) 0 0), (75, B true)] ?_ ?_ rfl ?_
   iterate 2 (as_aux_lemma => kernel_rfl)
   refine HSKIP (i := 17) (js := [0, 0, 0, 0, 0, 0, 0, 0, 0, 0, 0]) _ rfl ?_ rfl ?_
   · as_aux_lemma => kernel_rfl
   refine HSKIP (i := 18) (js := [0, 0, 0, 0, 0, 0, 0, 0, 0, 0, 0]) _ rfl ?_ rfl ?_
   · as_aux_lemma => kernel_rfl
   refine HSKIP (i := 19) (js := [0, 0, 0, 0, 0, 0, 0, 0, 0, 0, 0]) _ rfl ?_ rfl ?_
   · as_aux_lemma => kernel_rfl
   refine HSKIP (i := 20) (js := [0, 0, 0, 0, 0, 0, 0, 0, 0, 0, 0]) _ rfl ?_ rfl ?_
   · as_aux_lemma => kernel_rfl
   refine HPURE (js := [0, 0, 0, 0, 0, 0, 0, 0, 0, 0, 0]) 21 [(0, .v (p)), (2, .e (some ⟨b36, 0, none⟩) 0 0), (3, .e (some ⟨b37, 0, none⟩) 0 0), (4, .e (some ⟨b38, 0, none⟩) 0 0), (6, I m19), (7, I (wr (sc + m32))), (8, I (i : Int)), (9, .e (some ⟨b39, 0, none⟩) 0 0), (80, B true)] ?_ ?_ rfl ?_
   iterate 2 (as_aux_lemma => kernel_rfl)
   refine HEND ?_ ?_
   · as_aux_lemma => kernel_rfl
   refine IMPORT (L0 := [(55, [.slice none 0 0, vi 0, vi 0, vi 0, vi 0, vi 0, vi 0, vi 0, vi 0, vi 0, vi 0, .slice none 0 0, .slice none 0 0, .slice none 0 0, .slice none 0 0]), (51, [.slice a3 m1.seats.length c4, vi m1.tiers, vi m1.room, vi m1.size, vi m1.period, vi m1.window, vi m1.rest, vi m1.tries, vi m1.crew]), (55, [.slice a7 m5.1.rules.seats.length c8, vi m5.1.rules.tiers, vi m5.1.rules.room, vi m5.1.rules.size, vi m5.1.rules.period, vi m5.1.rules.window, vi m5.1.rules.rest, vi m5.1.rules.tries, vi m5.1.rules.crew, vi m17, vi tn, .slice oa ps.length oc, .slice a11 m5.1.cabins.length c12, .slice a13 m5.1.todo.length c14, .slice a15 m5.1.jobs.length c16]), (80, [vi (wr (1 + m24)), vi m22.cabin, vi fr, vi m22.size, vi m22.tier, vi (if (wr (sc + m32)) < m17 then (wr (sc + m32)) else m17), vi (wr (tn + m30)), vi m22.state, vi m22.until', vi m22.asked])]) (L1 := []) [b36, b37, b38, b39] rfl [0, 0, 0, 0] _ rfl [(0, .v (p)), (2, .p 0 0), (3, .p 1 0), (4, .p 2 0), (6, I m19), (7, I (wr (sc + m32))), (8, I (i : Int)), (9, .p 3 0), (80, B true)] ?_ ?_ ?_
   iterate 2 (as_aux_lemma => kernel_rfl)
   refine NEXT (IFT ?_ ?_)
   · as_aux_lemma => kernel_rfl
   refine EXIT (PASS trivial (OUT (NEXT (REGION [0, 1, 2] rfl (RUN0 2 [2] [(0, .v (p)), (2, .p 0 0), (3, .p 1 0), (4, .p 2 0), (6, I m19), (7, I (wr (sc + m32))), (28, I (wr ((i : Int) + 1)))] ?_ rfl ?_)))))
   · as_aux_lemma => kernel_rfl
   refine CAST (d := 28) (vi (wr ((i : Int) + 1))) (vi ((i + 1 : Nat) : Int)) ?_ (vi_cast (by omega) (by omega)) ?_
   · as_aux_lemma => kernel_rfl
   refine RUN0 1 [] [(0, .v (p)), (2, .p 0 0), (3, .p 1 0), (4, .p 2 0), (6, I m19), (7, I (wr (sc + m32))), (8, I ((i + 1 : Nat) : Int))] ?_ rfl ?_
   · as_aux_lemma => kernel_rfl
   refine ENDOPS (BACK (i + 1, wr (sc + m32), tn, oa, oc, ps) [0, 2, 3, 4, 6, 7, 8] 3 [0, 0, 0, 0, 0, 0, 0] _ ⟨by dsimp only; omega, by dsimp only; omega⟩ (by dsimp only; omega) ?_ rfl rfl rfl)
   · as_aux_lemma => kernel_rfl
  ·
   have h42 := bh42
   have h42 := of_decide_eq_false h42
   refine HPURE (js := [0, 0, 0, 0, 0, 0, 0, 0, 0, 0, 0]) 7 [(0, .v (p)), (2, .e (some ⟨b36, 0, none⟩) 0 0), (3, .e (some ⟨b37, 0, none⟩) 0 0), (4, .e (some ⟨b38, 0, none⟩) 0 0), (6, I m19), (7, I (wr (sc + m32))), (8, I (i : Int)), (9, .e (some ⟨b39, 0, none⟩) 0 0), (65, B false), (66, .e (some ⟨b38, 0, none⟩) 0 11)] ?_ ?_ rfl ?_
   iterate 2 (as_aux_lemma => kernel_rfl)
   refine HLOADE (i := 8) (js := [0, 0, 0, 0, 0, 0, 0, 0, 0, 0, 0])  52 (.tmp 66) 67 52 ?_ (NL rfl) (some ⟨b38, 0, none⟩) 0 11 [.slice a7 m5.1.rules.seats.length c8, vi m5.1.rules.tiers, vi m5.1.rules.room, vi m5.1.rules.size, vi m5.1.rules.period, vi m5.1.rules.window, vi m5.1.rules.rest, vi m5.1.rules.tries, vi m5.1.rules.crew, vi m17, vi tn, .slice oa ps.length oc, .slice a11 m5.1.cabins.length c12, .slice a13 m5.1.todo.length c14, .slice a15 m5.1.jobs.length c16] (.slice oa ps.length oc) ?_ (fun w hw => ptC_elem (hw.own 2 rfl)) ?_ ?_ rfl ?_
   iterate 4 (as_aux_lemma => kernel_rfl)
   refine HPURE (js := [0, 0, 0, 0, 0, 0, 0, 0, 0, 0, 0]) 9 [(0, .v (p)), (2, .e (some ⟨b36, 0, none⟩) 0 0), (3, .e (some ⟨b37, 0, none⟩) 0 0), (4, .e (some ⟨b38, 0, none⟩) 0 0), (6, I m19), (7, I (wr (sc + m32))), (8, I (i : Int)), (9, .e (some ⟨b39, 0, none⟩) 0 0), (65, B false), (67, .v (.slice oa ps.length oc)), (68, .e (some ⟨b39, 0, none⟩) 0 1)] ?_ ?_ rfl ?_
   iterate 2 (as_aux_lemma => kernel_rfl)
   refine HLOADE (i := 10) (js := [0, 0, 0, 0, 0, 0, 0, 0, 0, 0, 0])  3 (.tmp 68) 69 3 ?_ (NL rfl) (some ⟨b39, 0, none⟩) 0 1 [vi (wr (1 + m24)), vi m22.cabin, vi fr, vi m22.size, vi m22.tier, vi (if (wr (sc + m32)) < m17 then (wr (sc + m32)) else m17), vi (wr (tn + m30)), vi m22.state, vi m22.until', vi m22.asked] (vi m22.cabin) ?_ (fun w hw => ptC_elem (hw.own 3 rfl)) ?_ ?_ rfl ?_
   iterate 4 (as_aux_lemma => kernel_rfl)
   refine HPURE (js := [0, 0, 0, 0, 0, 0, 0, 0, 0, 0, 0]) 12 [(0, .v (p)), (2, .e (some ⟨b36, 0, none⟩) 0 0), (3, .e (some ⟨b37, 0, none⟩) 0 0), (4, .e (some ⟨b38, 0, none⟩) 0 0), (6, I m19), (7, I (wr (sc + m32))), (8, I (i : Int)), (9, .e (some ⟨b39, 0, none⟩) 0 0), (65, B false), (67, .v (.slice oa ps.length oc)), (69, I m22.cabin), (71, .e (some ⟨b37, 0, none⟩) 0 2)] ?_ ?_ rfl ?_
   iterate 2 (as_aux_lemma => kernel_rfl)
   refine HLOADE (i := 13) (js := [0, 0, 0, 0, 0, 0, 0, 0, 0, 0, 0])  3 (.tmp 71) 72 3 ?_ (NL rfl) (some ⟨b37, 0, none⟩) 0 2 [.slice a3 m1.seats.length c4, vi m1.tiers, vi m1.room, vi m1.size, vi m1.period, vi m1.window, vi m1.rest, vi m1.tries, vi m1.crew] (vi m1.room) ?_ (fun w hw => ptC_elem (hw.own 1 rfl)) ?_ ?_ rfl ?_
   iterate 4 (as_aux_lemma => kernel_rfl)
   refine HALL [11] ?_ (by decide) ?_
   · as_aux_lemma => kernel_rfl
   refine CALL 49 #[.slice oa ps.length oc, vi m22.cabin] (some 70) ?_ [] [] _ rfl (⟨{x : Int // True}, fun q => vi q.1, fun q => []⟩) (fun w hw => countIn_c w ps oa oc (hw.rdO 6 rfl) m22.cabin) (NO rfl) ?_
   · as_aux_lemma => kernel_rfl
   rintro ⟨m43, hm44⟩
   try dsimp only at hm44
   refine HKEEP (js := [0, 0, 0, 0, 0, 0, 0, 0, 0, 0, 0]) rfl (HPURE (js := [0, 0, 0, 0, 0, 0, 0, 0, 0, 0, 0]) 14 [(0, .v (p)), (2, .e (some ⟨b36, 0, none⟩) 0 0), (3, .e (some ⟨b37, 0, none⟩) 0 0), (4, .e (some ⟨b38, 0, none⟩) 0 0), (6, I m19), (7, I (wr (sc + m32))), (8, I (i : Int)), (9, .e (some ⟨b39, 0, none⟩) 0 0), (65, B false), (73, B (decide (m43 ≥ m1.room)))] ?_ ?_ rfl ?_)
   iterate 2 (as_aux_lemma => kernel_rfl)
   refine HPURE (js := [0, 0, 0, 0, 0, 0, 0, 0, 0, 0, 0]) 15 [(0, .v (p)), (2, .e (some ⟨b36, 0, none⟩) 0 0), (3, .e (some ⟨b37, 0, none⟩) 0 0), (4, .e (some ⟨b38, 0, none⟩) 0 0), (6, I m19), (7, I (wr (sc + m32))), (8, I (i : Int)), (9, .e (some ⟨b39, 0, none⟩) 0 0), (74, B (decide (m43 ≥ m1.room)))] ?_ ?_ rfl ?_
   iterate 2 (as_aux_lemma => kernel_rfl)
   refine HPURE (js := [0, 0, 0, 0, 0, 0, 0, 0, 0, 0, 0]) 16 [(0, .v (p)), (2, .e (some ⟨b36, 0, none⟩) 0 0), (3, .e (some ⟨b37, 0, none⟩) 0 0), (4, .e (some ⟨b38, 0, none⟩) 0 0), (6, I m19), (7, I (wr (sc + m32))), (8, I (i : Int)), (9, .e (some ⟨b39, 0, none⟩) 0 0), (75, B (decide (m43 ≥ m1.room)))] ?_ ?_ rfl ?_
   iterate 2 (as_aux_lemma => kernel_rfl)
   refine SPLIT (d := 75) (decide (m43 ≥ m1.room)) ?_ (fun bh45 => ?_) (fun bh45 => ?_)
   · as_aux_lemma => kernel_rfl
   ·
    have h45 := bh45
    have h45 := of_decide_eq_true h45
    refine HSKIP (i := 17) (js := [0, 0, 0, 0, 0, 0, 0, 0, 0, 0, 0]) _ rfl ?_ rfl ?_
    · as_aux_lemma => kernel_rfl
    refine HSKIP (i := 18) (js := [0, 0, 0, 0, 0, 0, 0, 0, 0, 0, 0]) _ rfl ?_ rfl ?_
    · as_aux_lemma => kernel_rfl
    refine HSKIP (i := 19) (js := [0, 0, 0, 0, 0, 0, 0, 0, 0, 0, 0]) _ rfl ?_ rfl ?_
    · as_aux_lemma => kernel_rfl
    refine HSKIP (i := 20) (js := [0, 0, 0, 0, 0, 0, 0, 0, 0, 0, 0]) _ rfl ?_ rfl ?_
    · as_aux_lemma => kernel_rfl
    refine HPURE (js := [0, 0, 0, 0, 0, 0, 0, 0, 0, 0, 0]) 21 [(0, .v (p)), (2, .e (some ⟨b36, 0, none⟩) 0 0), (3, .e (some ⟨b37, 0, none⟩) 0 0), (4, .e (some ⟨b38, 0, none⟩) 0 0), (6, I m19), (7, I (wr (sc + m32))), (8, I (i : Int)), (9, .e (some ⟨b39, 0, none⟩) 0 0), (80, B true)] ?_ ?_ rfl ?_
    iterate 2 (as_aux_lemma => kernel_rfl)
    refine HEND ?_ ?_
    · as_aux_lemma => kernel_rfl
    refine IMPORT (L0 := [(55, [.slice none 0 0, vi 0, vi 0, vi 0, vi 0, vi 0, vi 0, vi 0, vi 0, vi 0, vi 0, .slice none 0 0, .slice none 0 0, .slice none 0 0, .slice none 0 0]), (51, [.slice a3 m1.seats.length c4, vi m1.tiers, vi m1.room, vi m1.size, vi m1.period, vi m1.window, vi m1.rest, vi m1.tries, vi m1.crew]), (55, [.slice a7 m5.1.rules.seats.length c8, vi m5.1.rules.tiers, vi m5.1.rules.room, vi m5.1.rules.size, vi m5.1.rules.period, vi m5.1.rules.window, vi m5.1.rules.rest, vi m5.1.rules.tries, vi m5.1.rules.crew, vi m17, vi tn, .slice oa ps.length oc, .slice a11 m5.1.cabins.length c12, .slice a13 m5.1.todo.length c14, .slice a15 m5.1.jobs.length c16]), (80, [vi (wr (1 + m24)), vi m22.cabin, vi fr, vi m22.size, vi m22.tier, vi (if (wr (sc + m32)) < m17 then (wr (sc + m32)) else m17), vi (wr (tn + m30)), vi m22.state, vi m22.until', vi m22.asked])]) (L1 := []) [b36, b37, b38, b39] rfl [0, 0, 0, 0] _ rfl [(0, .v (p)), (2, .p 0 0), (3, .p 1 0), (4, .p 2 0), (6, I m19), (7, I (wr (sc + m32))), (8, I (i : Int)), (9, .p 3 0), (80, B true)] ?_ ?_ ?_
    iterate 2 (as_aux_lemma => kernel_rfl)
    refine NEXT (IFT ?_ ?_)
    · as_aux_lemma => kernel_rfl
    refine EXIT (PASS trivial (OUT (NEXT (REGION [0, 1, 2] rfl (RUN0 2 [2] [(0, .v (p)), (2, .p 0 0), (3, .p 1 0), (4, .p 2 0), (6, I m19), (7, I (wr (sc + m32))), (28, I (wr ((i : Int) + 1)))] ?_ rfl ?_)))))
    · as_aux_lemma => kernel_rfl
    refine CAST (d := 28) (vi (wr ((i : Int) + 1))) (vi ((i + 1 : Nat) : Int)) ?_ (vi_cast (by omega) (by omega)) ?_
    · as_aux_lemma => kernel_rfl
    refine RUN0 1 [] [(0, .v (p)), (2, .p 0 0), (3, .p 1 0), (4, .p 2 0), (6, I m19), (7, I (wr (sc + m32))), (8, I ((i + 1 : Nat) : Int))] ?_ rfl ?_
    · as_aux_lemma => kernel_rfl
    refine ENDOPS (BACK (i + 1, wr (sc + m32), tn, oa, oc, ps) [0, 2, 3, 4, 6, 7, 8] 3 [0, 0, 0, 0, 0, 0, 0] _ ⟨by dsimp only; omega, by dsimp only; omega⟩ (by dsimp only; omega) ?_ rfl rfl rfl)
    · as_aux_lemma => kernel_rfl
   ·
    have h45 := bh45
    have h45 := of_decide_eq_false h45
    refine HLOADE (i := 17) (js := [0, 0, 0, 0, 0, 0, 0, 0, 0, 0, 0])  55 (.tmp 4) 76 55 ?_ (NL rfl) (some ⟨b38, 0, none⟩) 0 0 [.slice a7 m5.1.rules.seats.length c8, vi m5.1.rules.tiers, vi m5.1.rules.room, vi m5.1.rules.size, vi m5.1.rules.period, vi m5.1.rules.window, vi m5.1.rules.rest, vi m5.1.rules.tries, vi m5.1.rules.crew, vi m17, vi tn, .slice oa ps.length oc, .slice a11 m5.1.cabins.length c12, .slice a13 m5.1.todo.length c14, .slice a15 m5.1.jobs.length c16] (.agg #[.slice a7 m5.1.rules.seats.length c8, vi m5.1.rules.tiers, vi m5.1.rules.room, vi m5.1.rules.size, vi m5.1.rules.period, vi m5.1.rules.window, vi m5.1.rules.rest, vi m5.1.rules.tries, vi m5.1.rules.crew, vi m17, vi tn, .slice oa ps.length oc, .slice a11 m5.1.cabins.length c12, .slice a13 m5.1.todo.length c14, .slice a15 m5.1.jobs.length c16]) ?_ (fun w hw => ptC_elem (hw.own 2 rfl)) ?_ ?_ rfl ?_
    iterate 4 (as_aux_lemma => kernel_rfl)
    refine HLOADE (i := 18) (js := [0, 0, 0, 0, 0, 0, 0, 0, 0, 0, 0])  80 (.tmp 9) 77 80 ?_ (NL rfl) (some ⟨b39, 0, none⟩) 0 0 [vi (wr (1 + m24)), vi m22.cabin, vi fr, vi m22.size, vi m22.tier, vi (if (wr (sc + m32)) < m17 then (wr (sc + m32)) else m17), vi (wr (tn + m30)), vi m22.state, vi m22.until', vi m22.asked] (.agg #[vi (wr (1 + m24)), vi m22.cabin, vi fr, vi m22.size, vi m22.tier, vi (if (wr (sc + m32)) < m17 then (wr (sc + m32)) else m17), vi (wr (tn + m30)), vi m22.state, vi m22.until', vi m22.asked]) ?_ (fun w hw => ptC_elem (hw.own 3 rfl)) ?_ ?_ rfl ?_
    iterate 4 (as_aux_lemma => kernel_rfl)
    refine HALL [19] ?_ (by decide) ?_
    · as_aux_lemma => kernel_rfl
    refine CALL 50 #[.agg #[.slice a7 m5.1.rules.seats.length c8, vi m5.1.rules.tiers, vi m5.1.rules.room, vi m5.1.rules.size, vi m5.1.rules.period, vi m5.1.rules.window, vi m5.1.rules.rest, vi m5.1.rules.tries, vi m5.1.rules.crew, vi m17, vi tn, .slice oa ps.length oc, .slice a11 m5.1.cabins.length c12, .slice a13 m5.1.todo.length c14, .slice a15 m5.1.jobs.length c16], .agg #[vi (wr (1 + m24)), vi m22.cabin, vi fr, vi m22.size, vi m22.tier, vi (if (wr (sc + m32)) < m17 then (wr (sc + m32)) else m17), vi (wr (tn + m30)), vi m22.state, vi m22.until', vi m22.asked]] (some 78) ?_ [] [] _ rfl (⟨{x : Bool // True}, fun q => .bool q.1, fun q => []⟩) (fun w hw => l11Room_c w (⟨m5.1.rules, m17, tn, ps, m5.1.cabins, m5.1.todo, m5.1.jobs⟩ : House) a7 c8 (hw.rdO 5 rfl) oa oc (hw.rdO 6 rfl) a11 c12 (hw.rdO 7 rfl) a13 c14 (hw.rdO 8 rfl) a15 c16 (hw.rdO 9 rfl) (⟨wr (1 + m24), m22.cabin, fr, m22.size, m22.tier, if (wr (sc + m32)) < m17 then (wr (sc + m32)) else m17, wr (tn + m30), m22.state, m22.until', m22.asked⟩ : Party) (by first | assumption | omega | (dsimp only; omega) | (simp only [List.length_append, List.length_cons, List.length_nil] at *; omega)) (by first | assumption | omega | (dsimp only; omega) | (simp only [List.length_append, List.length_cons, List.length_nil] at *; omega))) (NO rfl) ?_
    · as_aux_lemma => kernel_rfl
    rintro ⟨m46, hm47⟩
    try dsimp only at hm47
    refine HKEEP (js := [0, 0, 0, 0, 0, 0, 0, 0, 0, 0, 0]) rfl (HPURE (js := [0, 0, 0, 0, 0, 0, 0, 0, 0, 0, 0]) 20 [(0, .v (p)), (2, .e (some ⟨b36, 0, none⟩) 0 0), (3, .e (some ⟨b37, 0, none⟩) 0 0), (4, .e (some ⟨b38, 0, none⟩) 0 0), (6, I m19), (7, I (wr (sc + m32))), (8, I (i : Int)), (9, .e (some ⟨b39, 0, none⟩) 0 0), (75, B false), (79, B (!m46))] ?_ ?_ rfl ?_)
    iterate 2 (as_aux_lemma => kernel_rfl)
    refine HPURE (js := [0, 0, 0, 0, 0, 0, 0, 0, 0, 0, 0]) 21 [(0, .v (p)), (2, .e (some ⟨b36, 0, none⟩) 0 0), (3, .e (some ⟨b37, 0, none⟩) 0 0), (4, .e (some ⟨b38, 0, none⟩) 0 0), (6, I m19), (7, I (wr (sc + m32))), (8, I (i : Int)), (9, .e (some ⟨b39, 0, none⟩) 0 0), (80, B (!m46))] ?_ ?_ rfl ?_
    iterate 2 (as_aux_lemma => kernel_rfl)
    refine HEND ?_ ?_
    · as_aux_lemma => kernel_rfl
    refine IMPORT (L0 := [(55, [.slice none 0 0, vi 0, vi 0, vi 0, vi 0, vi 0, vi 0, vi 0, vi 0, vi 0, vi 0, .slice none 0 0, .slice none 0 0, .slice none 0 0, .slice none 0 0]), (51, [.slice a3 m1.seats.length c4, vi m1.tiers, vi m1.room, vi m1.size, vi m1.period, vi m1.window, vi m1.rest, vi m1.tries, vi m1.crew]), (55, [.slice a7 m5.1.rules.seats.length c8, vi m5.1.rules.tiers, vi m5.1.rules.room, vi m5.1.rules.size, vi m5.1.rules.period, vi m5.1.rules.window, vi m5.1.rules.rest, vi m5.1.rules.tries, vi m5.1.rules.crew, vi m17, vi tn, .slice oa ps.length oc, .slice a11 m5.1.cabins.length c12, .slice a13 m5.1.todo.length c14, .slice a15 m5.1.jobs.length c16]), (80, [vi (wr (1 + m24)), vi m22.cabin, vi fr, vi m22.size, vi m22.tier, vi (if (wr (sc + m32)) < m17 then (wr (sc + m32)) else m17), vi (wr (tn + m30)), vi m22.state, vi m22.until', vi m22.asked])]) (L1 := []) [b36, b37, b38, b39] rfl [0, 0, 0, 0] _ rfl [(0, .v (p)), (2, .p 0 0), (3, .p 1 0), (4, .p 2 0), (6, I m19), (7, I (wr (sc + m32))), (8, I (i : Int)), (9, .p 3 0), (80, B (!m46))] ?_ ?_ ?_
    iterate 2 (as_aux_lemma => kernel_rfl)
    refine NEXT (IF (!m46) ?_ (fun bh48 => ?_) (fun bh48 => ?_))
    · as_aux_lemma => kernel_rfl
    ·
     have h48 := bh48
     have h48 := notT h48
     refine EXIT (PASS trivial (OUT (NEXT (REGION [0, 1, 2] rfl (RUN0 2 [2] [(0, .v (p)), (2, .p 0 0), (3, .p 1 0), (4, .p 2 0), (6, I m19), (7, I (wr (sc + m32))), (28, I (wr ((i : Int) + 1)))] ?_ rfl ?_)))))
     · as_aux_lemma => kernel_rfl
     refine CAST (d := 28) (vi (wr ((i : Int) + 1))) (vi ((i + 1 : Nat) : Int)) ?_ (vi_cast (by omega) (by omega)) ?_
     · as_aux_lemma => kernel_rfl
     refine RUN0 1 [] [(0, .v (p)), (2, .p 0 0), (3, .p 1 0), (4, .p 2 0), (6, I m19), (7, I (wr (sc + m32))), (8, I ((i + 1 : Nat) : Int))] ?_ rfl ?_
     · as_aux_lemma => kernel_rfl
     refine ENDOPS (BACK (i + 1, wr (sc + m32), tn, oa, oc, ps) [0, 2, 3, 4, 6, 7, 8] 3 [0, 0, 0, 0, 0, 0, 0] _ ⟨by dsimp only; omega, by dsimp only; omega⟩ (by dsimp only; omega) ?_ rfl rfl rfl)
     · as_aux_lemma => kernel_rfl
    ·
     have h48 := bh48
     have h48 := notF h48
     refine SKIP (NEXT (SEQ (REGION [0, 1, 2, 3, 4] rfl (RUN 5 [] [(0, .v (p)), (2, .p 0 0), (3, .p 1 0), (4, .p 2 0), (6, I m19), (7, I (wr (sc + m32))), (8, I (i : Int)), (9, .p 3 0)] [(55, [.slice none 0 0, vi 0, vi 0, vi 0, vi 0, vi 0, vi 0, vi 0, vi 0, vi 0, vi 0, .slice none 0 0, .slice none 0 0, .slice none 0 0, .slice none 0 0]), (51, [.slice a3 m1.seats.length c4, vi m1.tiers, vi m1.room, vi m1.size, vi m1.period, vi m1.window, vi m1.rest, vi m1.tries, vi m1.crew]), (55, [.slice a7 m5.1.rules.seats.length c8, vi m5.1.rules.tiers, vi m5.1.rules.room, vi m5.1.rules.size, vi m5.1.rules.period, vi m5.1.rules.window, vi m5.1.rules.rest, vi m5.1.rules.tries, vi m5.1.rules.crew, vi m17, vi (wr ((wr (tn + m30)) + 1)), .slice oa ps.length oc, .slice a11 m5.1.cabins.length c12, .slice a13 m5.1.todo.length c14, .slice a15 m5.1.jobs.length c16]), (80, [vi (wr (1 + m24)), vi m22.cabin, vi fr, vi m22.size, vi m22.tier, vi (if (wr (sc + m32)) < m17 then (wr (sc + m32)) else m17), vi (wr (tn + m30)), vi m22.state, vi m22.until', vi m22.asked])] ?_ rfl ?_))))
     · as_aux_lemma => kernel_rfl
     refine ENDOPS (NEXT (REGION [0, 1, 2, 3, 4, 5] rfl (RUN0 3 [3, 4, 5] [(0, .v (p)), (2, .p 0 0), (3, .p 1 0), (4, .p 2 0), (6, I m19), (7, I (wr (sc + m32))), (8, I (i : Int)), (86, .v (.slice oa ps.length oc)), (87, .v (.agg #[vi (wr (1 + m24)), vi m22.cabin, vi fr, vi m22.size, vi m22.tier, vi (if (wr (sc + m32)) < m17 then (wr (sc + m32)) else m17), vi (wr (tn + m30)), vi m22.state, vi m22.until', vi m22.asked]))] ?_ rfl ?_)))
     · as_aux_lemma => kernel_rfl
     refine FACT (ps.length ≤ oc) (fun w hw => SlO.capE (hw.own 2 rfl)) (fun hcap49 => ?_)
     refine OPC (CALL 51 #[.slice oa ps.length oc, .agg #[vi (wr (1 + m24)), vi m22.cabin, vi fr, vi m22.size, vi m22.tier, vi (if (wr (sc + m32)) < m17 then (wr (sc + m32)) else m17), vi (wr (tn + m30)), vi m22.state, vi m22.until', vi m22.asked]] (some 88) ?_ [] [] _ rfl (⟨{q : (HH) × (List Party) // (fun x : List Party => x.length ≤ ps.length + 1) q.2}, fun q => .slice q.1.1.1 q.1.2.length q.1.1.2, fun q => [slA 80 partyL (.slice q.1.1.1 q.1.2.length q.1.1.2) q.1.2]⟩) (fun w hw => partyPut_c w ps oa oc (hw.rdO 2 rfl) (⟨wr (1 + m24), m22.cabin, fr, m22.size, m22.tier, if (wr (sc + m32)) < m17 then (wr (sc + m32)) else m17, wr (tn + m30), m22.state, m22.until', m22.asked⟩ : Party) (by first | assumption | omega | (dsimp only; omega) | (simp only [List.length_append, List.length_cons, List.length_nil] at *; omega)) (by first | assumption | omega | (dsimp only; omega) | (simp only [List.length_append, List.length_cons, List.length_nil] at *; omega))) (NO rfl) ?_)
     · as_aux_lemma => kernel_rfl
     rintro ⟨⟨⟨a52, c53⟩, m50⟩, hm51⟩
     try dsimp only at hm51
     refine RUN 2 [] [(0, .v (p)), (2, .p 0 0), (3, .p 1 0), (4, .p 2 0), (6, I m19), (7, I (wr (sc + m32))), (8, I (i : Int))] [(55, [.slice none 0 0, vi 0, vi 0, vi 0, vi 0, vi 0, vi 0, vi 0, vi 0, vi 0, vi 0, .slice none 0 0, .slice none 0 0, .slice none 0 0, .slice none 0 0]), (51, [.slice a3 m1.seats.length c4, vi m1.tiers, vi m1.room, vi m1.size, vi m1.period, vi m1.window, vi m1.rest, vi m1.tries, vi m1.crew]), (55, [.slice a7 m5.1.rules.seats.length c8, vi m5.1.rules.tiers, vi m5.1.rules.room, vi m5.1.rules.size, vi m5.1.rules.period, vi m5.1.rules.window, vi m5.1.rules.rest, vi m5.1.rules.tries, vi m5.1.rules.crew, vi m17, vi (wr ((wr (tn + m30)) + 1)), .slice a52 m50.length c53, .slice a11 m5.1.cabins.length c12, .slice a13 m5.1.todo.length c14, .slice a15 m5.1.jobs.length c16]), (80, [vi (wr (1 + m24)), vi m22.cabin, vi fr, vi m22.size, vi m22.tier, vi (if (wr (sc + m32)) < m17 then (wr (sc + m32)) else m17), vi (wr (tn + m30)), vi m22.state, vi m22.until', vi m22.asked])] ?_ rfl ?_
     · as_aux_lemma => kernel_rfl
     refine ENDOPS (OUTN (NEXT (REGION [0, 1, 2] rfl (RUN0 2 [2] [(0, .v (p)), (2, .p 0 0), (3, .p 1 0), (4, .p 2 0), (6, I m19), (7, I (wr (sc + m32))), (28, I (wr ((i : Int) + 1)))] ?_ rfl ?_))))
     · as_aux_lemma => kernel_rfl
     refine CAST (d := 28) (vi (wr ((i : Int) + 1))) (vi ((i + 1 : Nat) : Int)) ?_ (vi_cast (by omega) (by omega)) ?_
     · as_aux_lemma => kernel_rfl
     refine RUN0 1 [] [(0, .v (p)), (2, .p 0 0), (3, .p 1 0), (4, .p 2 0), (6, I m19), (7, I (wr (sc + m32))), (8, I ((i + 1 : Nat) : Int))] ?_ rfl ?_
     · as_aux_lemma => kernel_rfl
     refine ENDOPS (BACK (i + 1, wr (sc + m32), wr ((wr (tn + m30)) + 1), a52, c53, m50) [0, 2, 3, 4, 6, 7, 8] 3 [0, 0, 5, 1, 1, 1, 1] _ ⟨by dsimp only; omega, by dsimp only; omega⟩ (by dsimp only; omega) ?_ rfl rfl rfl)
     · as_aux_lemma => kernel_rfl
 ·
  have h21 := bh21
  have h21 := of_decide_eq_false h21
  refine EXIT (PASS trivial (PASS trivial (OUT (NEXT (SEQ (SEQ (REGION [0] rfl (RUN0 1 [] [(0, .v (p)), (2, .p 0 0), (3, .p 1 0), (4, .p 2 0), (10, I 0)] ?_ rfl ?_))))))))
  · as_aux_lemma => kernel_rfl
  refine ENDOPS (NEXT (BLOCK (LOOP (ι := Nat × (List Cabin) × (Option Addr) × Nat × (List Int)) (fun j => [(0, .v (p)), (2, .p 0 0), (3, .p 1 0), (4, .p 2 0), (10, I (j.1 : Int))]) (fun j => [(55, [.slice none 0 0, vi 0, vi 0, vi 0, vi 0, vi 0, vi 0, vi 0, vi 0, vi 0, vi 0, .slice none 0 0, .slice none 0 0, .slice none 0 0, .slice none 0 0]), (51, [.slice a3 m1.seats.length c4, vi m1.tiers, vi m1.room, vi m1.size, vi m1.period, vi m1.window, vi m1.rest, vi m1.tries, vi m1.crew]), (55, [.slice a7 m5.1.rules.seats.length c8, vi m5.1.rules.tiers, vi m5.1.rules.room, vi m5.1.rules.size, vi m5.1.rules.period, vi m5.1.rules.window, vi m5.1.rules.rest, vi m5.1.rules.tries, vi m5.1.rules.crew, vi m17, vi tn, .slice oa ps.length oc, .slice a11 m5.1.cabins.length c12, .slice j.2.2.1 j.2.2.2.2.length j.2.2.2.1, .slice a15 m5.1.jobs.length c16])]) (fun j => [slA 3 intL (.slice a3 m1.seats.length c4) m1.seats, slA 3 intL (.slice a7 m5.1.rules.seats.length c8) m5.1.rules.seats, slA 80 partyL (.slice oa ps.length oc) ps, slA 93 (cabinLx 129 106 111) (.slice a11 m5.1.cabins.length c12) j.2.1, slA 3 intL (.slice j.2.2.1 j.2.2.2.2.length j.2.2.2.1) j.2.2.2.2, slA 3 intL (.slice a15 m5.1.jobs.length c16) m5.1.jobs, curA (d) p]) (fun j => j.1 ≤ m5.1.cabins.length ∧ j.2.2.2.2.length ≤ j.1) (fun j => m5.1.cabins.length - j.1) (0, m5.1.cabins, a13, c14, m5.1.todo) [0, 2, 3, 4, 10] ⟨by dsimp only; omega, by dsimp only; omega⟩ ?_ rfl rfl ?_)))
  · as_aux_lemma => kernel_rfl
  rintro ⟨k, cs, ta, tc, td⟩ ⟨hk, htd⟩
  try dsimp only at hk htd
  refine SEQ (SEQ (REGION [0, 1, 2, 3, 4] rfl (RUN0 5 [] [(0, .v (p)), (2, .p 0 0), (3, .p 1 0), (4, .p 2 0), (10, I (k : Int)), (94, B (decide ((k : Int) < (m5.1.cabins.length : Int))))] ?_ rfl ?_)))
  · as_aux_lemma => kernel_rfl
  refine ENDOPS (NEXT (IF (decide ((k : Int) < (m5.1.cabins.length : Int))) ?_ (fun bh54 => ?_) (fun bh54 => ?_)))
  · as_aux_lemma => kernel_rfl
  ·
   have h54 := bh54
   have h54 := of_decide_eq_true h54
   refine SKIP (NEXT (SEQ (BLOCK (SEQ (EXPORT (fun bs hbs => ?_))))))
   obtain ⟨b55, b56, b57, rfl⟩ := len3 hbs
   refine REGIONH ?_ 14 rfl [ptC b55 55 [.slice none 0 0, vi 0, vi 0, vi 0, vi 0, vi 0, vi 0, vi 0, vi 0, vi 0, vi 0, .slice none 0 0, .slice none 0 0, .slice none 0 0, .slice none 0 0], ptC b56 51 [.slice a3 m1.seats.length c4, vi m1.tiers, vi m1.room, vi m1.size, vi m1.period, vi m1.window, vi m1.rest, vi m1.tries, vi m1.crew], ptC b57 55 [.slice a7 m5.1.rules.seats.length c8, vi m5.1.rules.tiers, vi m5.1.rules.room, vi m5.1.rules.size, vi m5.1.rules.period, vi m5.1.rules.window, vi m5.1.rules.rest, vi m5.1.rules.tries, vi m5.1.rules.crew, vi m17, vi tn, .slice oa ps.length oc, .slice a11 m5.1.cabins.length c12, .slice ta td.length tc, .slice a15 m5.1.jobs.length c16], slA 3 intL (.slice a3 m1.seats.length c4) m1.seats] ?_
   · as_aux_lemma => kernel_rfl
   refine HPURE (js := [0, 0, 0, 0]) 0 [(0, .v (p)), (2, .e (some ⟨b55, 0, none⟩) 0 0), (3, .e (some ⟨b56, 0, none⟩) 0 0), (4, .e (some ⟨b57, 0, none⟩) 0 0), (10, I (k : Int)), (97, .e (some ⟨b57, 0, none⟩) 0 12)] ?_ ?_ rfl ?_
   iterate 2 (as_aux_lemma => kernel_rfl)
   refine HLOADE (i := 1) (js := [0, 0, 0, 0])  53 (.tmp 97) 98 53 ?_ (NL rfl) (some ⟨b57, 0, none⟩) 0 12 [.slice a7 m5.1.rules.seats.length c8, vi m5.1.rules.tiers, vi m5.1.rules.room, vi m5.1.rules.size, vi m5.1.rules.period, vi m5.1.rules.window, vi m5.1.rules.rest, vi m5.1.rules.tries, vi m5.1.rules.crew, vi m17, vi tn, .slice oa ps.length oc, .slice a11 m5.1.cabins.length c12, .slice ta td.length tc, .slice a15 m5.1.jobs.length c16] (.slice a11 m5.1.cabins.length c12) ?_ (fun w hw => ptC_elem (hw.own 2 rfl)) ?_ ?_ rfl ?_
   iterate 4 (as_aux_lemma => kernel_rfl)
   refine HPURE (js := [0, 0, 0, 0]) 2 [(0, .v (p)), (2, .e (some ⟨b55, 0, none⟩) 0 0), (3, .e (some ⟨b56, 0, none⟩) 0 0), (4, .e (some ⟨b57, 0, none⟩) 0 0), (10, I (k : Int)), (98, .v (.slice a11 m5.1.cabins.length c12)), (99, I (k : Int))] ?_ ?_ rfl ?_
   iterate 2 (as_aux_lemma => kernel_rfl)
   refine HLOADE (i := 3) (js := [0, 0, 0, 0])  51 (.tmp 3) 100 51 ?_ (NL rfl) (some ⟨b56, 0, none⟩) 0 0 [.slice a3 m1.seats.length c4, vi m1.tiers, vi m1.room, vi m1.size, vi m1.period, vi m1.window, vi m1.rest, vi m1.tries, vi m1.crew] (.agg #[.slice a3 m1.seats.length c4, vi m1.tiers, vi m1.room, vi m1.size, vi m1.period, vi m1.window, vi m1.rest, vi m1.tries, vi m1.crew]) ?_ (fun w hw => ptC_elem (hw.own 1 rfl)) ?_ ?_ rfl ?_
   iterate 4 (as_aux_lemma => kernel_rfl)
   refine HPURE (js := [0, 0, 0, 0]) 4 [(0, .v (p)), (2, .e (some ⟨b55, 0, none⟩) 0 0), (3, .e (some ⟨b56, 0, none⟩) 0 0), (4, .e (some ⟨b57, 0, none⟩) 0 0), (10, I (k : Int)), (98, .v (.slice a11 m5.1.cabins.length c12)), (99, I (k : Int)), (100, .v (.agg #[.slice a3 m1.seats.length c4, vi m1.tiers, vi m1.room, vi m1.size, vi m1.period, vi m1.window, vi m1.rest, vi m1.tries, vi m1.crew])), (101, .e (some ⟨b57, 0, none⟩) 0 11)] ?_ ?_ rfl ?_
   iterate 2 (as_aux_lemma => kernel_rfl)
   refine HLOADE (i := 5) (js := [0, 0, 0, 0])  52 (.tmp 101) 102 52 ?_ (NL rfl) (some ⟨b57, 0, none⟩) 0 11 [.slice a7 m5.1.rules.seats.length c8, vi m5.1.rules.tiers, vi m5.1.rules.room, vi m5.1.rules.size, vi m5.1.rules.period, vi m5.1.rules.window, vi m5.1.rules.rest, vi m5.1.rules.tries, vi m5.1.rules.crew, vi m17, vi tn, .slice oa ps.length oc, .slice a11 m5.1.cabins.length c12, .slice ta td.length tc, .slice a15 m5.1.jobs.length c16] (.slice oa ps.length oc) ?_ (fun w hw => ptC_elem (hw.own 2 rfl)) ?_ ?_ rfl ?_
   iterate 4 (as_aux_lemma => kernel_rfl)
   refine HPURE (js := [0, 0, 0, 0]) 6 [(0, .v (p)), (2, .e (some ⟨b55, 0, none⟩) 0 0), (3, .e (some ⟨b56, 0, none⟩) 0 0), (4, .e (some ⟨b57, 0, none⟩) 0 0), (10, I (k : Int)), (98, .v (.slice a11 m5.1.cabins.length c12)), (99, I (k : Int)), (100, .v (.agg #[.slice a3 m1.seats.length c4, vi m1.tiers, vi m1.room, vi m1.size, vi m1.period, vi m1.window, vi m1.rest, vi m1.tries, vi m1.crew])), (102, .v (.slice oa ps.length oc)), (103, I (k : Int))] ?_ ?_ rfl ?_
   iterate 2 (as_aux_lemma => kernel_rfl)
   refine HPURE (js := [0, 0, 0, 0]) 7 [(0, .v (p)), (2, .e (some ⟨b55, 0, none⟩) 0 0), (3, .e (some ⟨b56, 0, none⟩) 0 0), (4, .e (some ⟨b57, 0, none⟩) 0 0), (10, I (k : Int)), (98, .v (.slice a11 m5.1.cabins.length c12)), (99, I (k : Int)), (100, .v (.agg #[.slice a3 m1.seats.length c4, vi m1.tiers, vi m1.room, vi m1.size, vi m1.period, vi m1.window, vi m1.rest, vi m1.tries, vi m1.crew])), (102, .v (.slice oa ps.length oc)), (103, I (k : Int)), (104, .e (some ⟨b57, 0, none⟩) 0 9)] ?_ ?_ rfl ?_
   iterate 2 (as_aux_lemma => kernel_rfl)
   refine HLOADE (i := 8) (js := [0, 0, 0, 0])  3 (.tmp 104) 105 3 ?_ (NL rfl) (some ⟨b57, 0, none⟩) 0 9 [.slice a7 m5.1.rules.seats.length c8, vi m5.1.rules.tiers, vi m5.1.rules.room, vi m5.1.rules.size, vi m5.1.rules.period, vi m5.1.rules.window, vi m5.1.rules.rest, vi m5.1.rules.tries, vi m5.1.rules.crew, vi m17, vi tn, .slice oa ps.length oc, .slice a11 m5.1.cabins.length c12, .slice ta td.length tc, .slice a15 m5.1.jobs.length c16] (vi m17) ?_ (fun w hw => ptC_elem (hw.own 2 rfl)) ?_ ?_ rfl ?_
   iterate 4 (as_aux_lemma => kernel_rfl)
   refine HPURE (js := [0, 0, 0, 0]) 9 [(0, .v (p)), (2, .e (some ⟨b55, 0, none⟩) 0 0), (3, .e (some ⟨b56, 0, none⟩) 0 0), (4, .e (some ⟨b57, 0, none⟩) 0 0), (10, I (k : Int)), (98, .v (.slice a11 m5.1.cabins.length c12)), (99, I (k : Int)), (100, .v (.agg #[.slice a3 m1.seats.length c4, vi m1.tiers, vi m1.room, vi m1.size, vi m1.period, vi m1.window, vi m1.rest, vi m1.tries, vi m1.crew])), (102, .v (.slice oa ps.length oc)), (103, I (k : Int)), (105, I m17), (106, .v (p))] ?_ ?_ rfl ?_
   iterate 2 (as_aux_lemma => kernel_rfl)
   refine HALL [10] ?_ (by decide) ?_
   · as_aux_lemma => kernel_rfl
   refine CALL 29 #[p, vi 6] (some 107) ?_ [9] [curA (d) p] _ rfl (⟨{x : Int // 0 ≤ x ∧ (6 ≤ 0 → x = 0) ∧ (0 < 6 → x < 6)}, fun q => vi q.1, fun q => [curA (d) p]⟩) (fun w hw => l1Below_c w (d) (hd.fr hw.fr hS) p 6) (NO rfl) ?_
   · as_aux_lemma => kernel_rfl
   rintro ⟨m58, hm59⟩
   try dsimp only at hm59
   refine HKEEP (js := [0, 0, 0, 0]) rfl (HALL [11] ?_ (by decide) ?_)
   · as_aux_lemma => kernel_rfl
   refine CALL 52 #[.agg #[.slice a3 m1.seats.length c4, vi m1.tiers, vi m1.room, vi m1.size, vi m1.period, vi m1.window, vi m1.rest, vi m1.tries, vi m1.crew], .slice oa ps.length oc, vi (k : Int), vi m17, vi m58] (some 108) ?_ [] [] _ rfl (⟨{q : (HH × HH) × Cabin // (fun x : Cabin => True) q.2}, fun q => .agg #[vi q.1.2.seats.total, vi q.1.2.seats.free, vi q.1.2.seats.held, vi q.1.2.seats.sold, vi q.1.2.seats.tied, .slice q.1.1.1.1 q.1.2.row.length q.1.1.1.2, .slice q.1.1.2.1 q.1.2.wheel.spoke.length q.1.1.2.2], fun q => [slA 129 entryL (.slice q.1.1.1.1 q.1.2.row.length q.1.1.1.2) q.1.2.row, slA 106 (sl 111 pinL) (.slice q.1.1.2.1 q.1.2.wheel.spoke.length q.1.1.2.2) q.1.2.wheel.spoke]⟩) (fun w hw => l10Made_c w m1 a3 c4 (hw.rdO 3 rfl) ps oa oc (hw.rdO 5 rfl) (k : Int) m17 m58 (by first | assumption | omega | (dsimp only; omega) | (simp only [List.length_append, List.length_cons, List.length_nil] at *; omega)) (by first | assumption | omega | (dsimp only; omega) | (simp only [List.length_append, List.length_cons, List.length_nil] at *; omega)) (by first | assumption | omega | (dsimp only; omega) | (simp only [List.length_append, List.length_cons, List.length_nil] at *; omega))) (NO rfl) ?_
   · as_aux_lemma => kernel_rfl
   rintro ⟨⟨⟨⟨a62, c63⟩, ⟨a64, c65⟩⟩, m60⟩, hm61⟩
   try dsimp only at hm61
   refine HKEEP (js := [0, 0, 0, 0]) rfl (FACT (m5.1.cabins.length = cs.length) (fun w hw => (SlO.lenE (hw.own 6 rfl)).1) (fun hln66 => ?_))
   obtain ⟨x67, hx68⟩ : ∃ y, cs[k]? = some y := ⟨_, List.getElem?_eq_getElem (by omega)⟩
   refine FACT (a11.isSome = true) (fun w hw => SlO.isS (hw.own 6 rfl) (by omega)) (fun hs69 => ?_)
   refine HINDEX (i := 12) (js := [0, 0, 0, 0])  53 (.tmp 98) (.tmp 99) 109 0 ?_ (NL rfl) a11 m5.1.cabins.length c12 .i64 (k : Int) 93 7 ?_ ?_ ?_ ?_ hs69 (by omega) (by omega) ?_ rfl ?_
   iterate 6 (as_aux_lemma => kernel_rfl)
   refine HALL [13] ?_ (by decide) ?_
   · as_aux_lemma => kernel_rfl
   refine STOREN 93 (.tmp 109) (.tmp 108) 0 ?_ 93 (cabinLx 129 106 111) a11 m5.1.cabins.length c12 k cs [6, 9, 9] [slA 129 entryL (.slice a62 m60.row.length c63) m60.row, slA 106 (sl 111 pinL) (.slice a64 m60.wheel.spoke.length c65) m60.wheel.spoke] _ rfl m60 (by omega) (.agg #[vi m60.seats.total, vi m60.seats.free, vi m60.seats.held, vi m60.seats.sold, vi m60.seats.tied, .slice a62 m60.row.length c63, .slice a64 m60.wheel.spoke.length c65]) ?_ ?_ ?_ (cabinRep (c := m60)) ?_
   iterate 4 (as_aux_lemma => kernel_rfl)
   refine HKEEP (js := [0, 0, 0, 0]) rfl (HEND ?_ ?_)
   · as_aux_lemma => kernel_rfl
   refine IMPORT (L0 := [(55, [.slice none 0 0, vi 0, vi 0, vi 0, vi 0, vi 0, vi 0, vi 0, vi 0, vi 0, vi 0, .slice none 0 0, .slice none 0 0, .slice none 0 0, .slice none 0 0]), (51, [.slice a3 m1.seats.length c4, vi m1.tiers, vi m1.room, vi m1.size, vi m1.period, vi m1.window, vi m1.rest, vi m1.tries, vi m1.crew]), (55, [.slice a7 m5.1.rules.seats.length c8, vi m5.1.rules.tiers, vi m5.1.rules.room, vi m5.1.rules.size, vi m5.1.rules.period, vi m5.1.rules.window, vi m5.1.rules.rest, vi m5.1.rules.tries, vi m5.1.rules.crew, vi m17, vi tn, .slice oa ps.length oc, .slice a11 m5.1.cabins.length c12, .slice ta td.length tc, .slice a15 m5.1.jobs.length c16])]) (L1 := []) [b55, b56, b57] rfl [0, 0, 0] _ rfl [(0, .v (p)), (2, .p 0 0), (3, .p 1 0), (4, .p 2 0), (10, I (k : Int)), (98, .v (.slice a11 m5.1.cabins.length c12)), (99, I (k : Int)), (100, .v (.agg #[.slice a3 m1.seats.length c4, vi m1.tiers, vi m1.room, vi m1.size, vi m1.period, vi m1.window, vi m1.rest, vi m1.tries, vi m1.crew])), (102, .v (.slice oa ps.length oc)), (103, I (k : Int)), (105, I m17), (106, .v (p)), (107, I m58), (108, .v (.agg #[vi m60.seats.total, vi m60.seats.free, vi m60.seats.held, vi m60.seats.sold, vi m60.seats.tied, .slice a62 m60.row.length c63, .slice a64 m60.wheel.spoke.length c65])), (109, .e a11 (k * 7) 0)] ?_ ?_ ?_
   iterate 2 (as_aux_lemma => kernel_rfl)
   refine NEXT (SEQ (REGION [0, 1] rfl (RUN0 1 [1] [(0, .v (p)), (2, .p 0 0), (3, .p 1 0), (4, .p 2 0), (10, I (k : Int)), (110, .v (p))] ?_ rfl ?_)))
   · as_aux_lemma => kernel_rfl
   refine OPC (CALL 23 #[p, vi 2] (some 111) ?_ [5] [curA (d) p] _ rfl (⟨{x : Bool // True}, fun q => .bool q.1, fun q => [curA (d) p]⟩) (fun w hw => l1Once_c w (d) (hd.fr hw.fr hS) p 2) (NO rfl) ?_)
   · as_aux_lemma => kernel_rfl
   rintro ⟨m70, hm71⟩
   try dsimp only at hm71
   refine ENDOPS (NEXT (IF (m70) ?_ (fun bh72 => ?_) (fun bh72 => ?_)))
   · as_aux_lemma => kernel_rfl
   ·
    have h72 := bh72
    refine REGION [0, 1, 2, 3, 4, 5] rfl (RUN0 3 [3, 4, 5] [(0, .v (p)), (2, .p 0 0), (3, .p 1 0), (4, .p 2 0), (10, I (k : Int)), (113, .v (.slice ta td.length tc)), (114, I (k : Int))] ?_ rfl ?_)
    · as_aux_lemma => kernel_rfl
    refine OPC (CALL 53 #[.slice ta td.length tc, vi (k : Int)] (some 115) ?_ [] [] _ rfl (⟨{q : (HH) × (List Int) // (fun x : List Int => x.length ≤ td.length + 1) q.2}, fun q => .slice q.1.1.1 q.1.2.length q.1.1.2, fun q => [slA 3 intL (.slice q.1.1.1 q.1.2.length q.1.1.2) q.1.2]⟩) (fun w hw => todoPut_c w td ta tc (hw.rdO 3 rfl) (k : Int) (by first | assumption | omega | (dsimp only; omega) | (simp only [List.length_append, List.length_cons, List.length_nil] at *; omega))) (NO rfl) ?_)
    · as_aux_lemma => kernel_rfl
    rintro ⟨⟨⟨a75, c76⟩, m73⟩, hm74⟩
    try dsimp only at hm74
    refine RUN 2 [] [(0, .v (p)), (2, .p 0 0), (3, .p 1 0), (4, .p 2 0), (10, I (k : Int))] [(55, [.slice none 0 0, vi 0, vi 0, vi 0, vi 0, vi 0, vi 0, vi 0, vi 0, vi 0, vi 0, .slice none 0 0, .slice none 0 0, .slice none 0 0, .slice none 0 0]), (51, [.slice a3 m1.seats.length c4, vi m1.tiers, vi m1.room, vi m1.size, vi m1.period, vi m1.window, vi m1.rest, vi m1.tries, vi m1.crew]), (55, [.slice a7 m5.1.rules.seats.length c8, vi m5.1.rules.tiers, vi m5.1.rules.room, vi m5.1.rules.size, vi m5.1.rules.period, vi m5.1.rules.window, vi m5.1.rules.rest, vi m5.1.rules.tries, vi m5.1.rules.crew, vi m17, vi tn, .slice oa ps.length oc, .slice a11 m5.1.cabins.length c12, .slice a75 m73.length c76, .slice a15 m5.1.jobs.length c16])] ?_ rfl ?_
    · as_aux_lemma => kernel_rfl
    refine ENDOPS (OUTN (NEXT (REGION [0, 1, 2] rfl (RUN0 2 [2] [(0, .v (p)), (2, .p 0 0), (3, .p 1 0), (4, .p 2 0), (96, I (wr ((k : Int) + 1)))] ?_ rfl ?_))))
    · as_aux_lemma => kernel_rfl
    refine CAST (d := 96) (vi (wr ((k : Int) + 1))) (vi ((k + 1 : Nat) : Int)) ?_ (vi_cast (by omega) (by omega)) ?_
    · as_aux_lemma => kernel_rfl
    refine RUN0 1 [] [(0, .v (p)), (2, .p 0 0), (3, .p 1 0), (4, .p 2 0), (10, I ((k + 1 : Nat) : Int))] ?_ rfl ?_
    · as_aux_lemma => kernel_rfl
    refine ENDOPS (BACK (k + 1, cs.set k m60, a75, c76, m73) [0, 2, 3, 4, 10] 3 [0, 0, 0, 2, 3, 1, 1] _ ⟨by dsimp only; omega, by dsimp only; omega⟩ (by dsimp only; omega) ?_ rfl rfl rfl)
    · as_aux_lemma => kernel_rfl
   ·
    have h72 := bh72
    refine SKIP (OUTN (NEXT (REGION [0, 1, 2] rfl (RUN0 2 [2] [(0, .v (p)), (2, .p 0 0), (3, .p 1 0), (4, .p 2 0), (96, I (wr ((k : Int) + 1)))] ?_ rfl ?_))))
    · as_aux_lemma => kernel_rfl
    refine CAST (d := 96) (vi (wr ((k : Int) + 1))) (vi ((k + 1 : Nat) : Int)) ?_ (vi_cast (by omega) (by omega)) ?_
    · as_aux_lemma => kernel_rfl
    refine RUN0 1 [] [(0, .v (p)), (2, .p 0 0), (3, .p 1 0), (4, .p 2 0), (10, I ((k + 1 : Nat) : Int))] ?_ rfl ?_
    · as_aux_lemma => kernel_rfl
    refine ENDOPS (BACK (k + 1, cs.set k m60, ta, tc, td) [0, 2, 3, 4, 10] 3 [0, 0, 0, 2, 0, 0, 0] _ ⟨by dsimp only; omega, by dsimp only; omega⟩ (by dsimp only; omega) ?_ rfl rfl rfl)
    · as_aux_lemma => kernel_rfl
  ·
   have h54 := bh54
   have h54 := of_decide_eq_false h54
   refine EXIT (PASS trivial (PASS trivial (OUT (NEXT (SEQ (SEQ (REGION [0] rfl (RUN0 1 [] [(0, .v (p)), (2, .p 0 0), (3, .p 1 0), (4, .p 2 0), (11, I 0)] ?_ rfl ?_))))))))
   · as_aux_lemma => kernel_rfl
   refine ENDOPS (NEXT (BLOCK (LOOP (ι := Nat × (List Int)) (fun j => [(0, .v (p)), (2, .p 0 0), (3, .p 1 0), (4, .p 2 0), (11, I (j.1 : Int))]) (fun j => [(55, [.slice none 0 0, vi 0, vi 0, vi 0, vi 0, vi 0, vi 0, vi 0, vi 0, vi 0, vi 0, .slice none 0 0, .slice none 0 0, .slice none 0 0, .slice none 0 0]), (51, [.slice a3 m1.seats.length c4, vi m1.tiers, vi m1.room, vi m1.size, vi m1.period, vi m1.window, vi m1.rest, vi m1.tries, vi m1.crew]), (55, [.slice a7 m5.1.rules.seats.length c8, vi m5.1.rules.tiers, vi m5.1.rules.room, vi m5.1.rules.size, vi m5.1.rules.period, vi m5.1.rules.window, vi m5.1.rules.rest, vi m5.1.rules.tries, vi m5.1.rules.crew, vi m17, vi tn, .slice oa ps.length oc, .slice a11 m5.1.cabins.length c12, .slice ta td.length tc, .slice a15 m5.1.jobs.length c16])]) (fun j => [slA 3 intL (.slice a3 m1.seats.length c4) m1.seats, slA 3 intL (.slice a7 m5.1.rules.seats.length c8) m5.1.rules.seats, slA 80 partyL (.slice oa ps.length oc) ps, slA 93 (cabinLx 129 106 111) (.slice a11 m5.1.cabins.length c12) cs, slA 3 intL (.slice ta td.length tc) td, slA 3 intL (.slice a15 m5.1.jobs.length c16) j.2, curA (d) p]) (fun j => j.1 ≤ m5.1.jobs.length) (fun j => m5.1.jobs.length - j.1) (0, m5.1.jobs) [0, 2, 3, 4, 11] (by dsimp only; omega) ?_ rfl rfl ?_)))
   · as_aux_lemma => kernel_rfl
   rintro ⟨k, jo⟩ hk
   try dsimp only at hk
   refine SEQ (SEQ (REGION [0, 1, 2, 3, 4] rfl (RUN0 5 [] [(0, .v (p)), (2, .p 0 0), (3, .p 1 0), (4, .p 2 0), (11, I (k : Int)), (121, B (decide ((k : Int) < (m5.1.jobs.length : Int))))] ?_ rfl ?_)))
   · as_aux_lemma => kernel_rfl
   refine ENDOPS (NEXT (IF (decide ((k : Int) < (m5.1.jobs.length : Int))) ?_ (fun bh77 => ?_) (fun bh77 => ?_)))
   · as_aux_lemma => kernel_rfl
   ·
    have h77 := bh77
    have h77 := of_decide_eq_true h77
    refine SKIP (NEXT (SEQ (BLOCK (SEQ (REGION [0, 1] rfl (RUN0 1 [1] [(0, .v (p)), (2, .p 0 0), (3, .p 1 0), (4, .p 2 0), (11, I (k : Int)), (124, .v (p))] ?_ rfl ?_))))))
    · as_aux_lemma => kernel_rfl
    refine OPC (CALL 23 #[p, vi 3] (some 125) ?_ [6] [curA (d) p] _ rfl (⟨{x : Bool // True}, fun q => .bool q.1, fun q => [curA (d) p]⟩) (fun w hw => l1Once_c w (d) (hd.fr hw.fr hS) p 3) (NO rfl) ?_)
    · as_aux_lemma => kernel_rfl
    rintro ⟨m78, hm79⟩
    try dsimp only at hm79
    refine ENDOPS (NEXT (IF (m78) ?_ (fun bh80 => ?_) (fun bh80 => ?_)))
    · as_aux_lemma => kernel_rfl
    ·
     have h80 := bh80
     refine EXPORT (fun bs hbs => ?_)
     obtain ⟨b81, b82, b83, rfl⟩ := len3 hbs
     refine REGIONH ?_ 10 rfl [ptC b81 55 [.slice none 0 0, vi 0, vi 0, vi 0, vi 0, vi 0, vi 0, vi 0, vi 0, vi 0, vi 0, .slice none 0 0, .slice none 0 0, .slice none 0 0, .slice none 0 0], ptC b82 51 [.slice a3 m1.seats.length c4, vi m1.tiers, vi m1.room, vi m1.size, vi m1.period, vi m1.window, vi m1.rest, vi m1.tries, vi m1.crew], ptC b83 55 [.slice a7 m5.1.rules.seats.length c8, vi m5.1.rules.tiers, vi m5.1.rules.room, vi m5.1.rules.size, vi m5.1.rules.period, vi m5.1.rules.window, vi m5.1.rules.rest, vi m5.1.rules.tries, vi m5.1.rules.crew, vi m17, vi tn, .slice oa ps.length oc, .slice a11 m5.1.cabins.length c12, .slice ta td.length tc, .slice a15 m5.1.jobs.length c16], slA 3 intL (.slice a3 m1.seats.length c4) m1.seats] ?_
     · as_aux_lemma => kernel_rfl
     refine HPURE (js := [0, 0, 0, 0]) 0 [(0, .v (p)), (2, .e (some ⟨b81, 0, none⟩) 0 0), (3, .e (some ⟨b82, 0, none⟩) 0 0), (4, .e (some ⟨b83, 0, none⟩) 0 0), (11, I (k : Int)), (126, .e (some ⟨b83, 0, none⟩) 0 14)] ?_ ?_ rfl ?_
     iterate 2 (as_aux_lemma => kernel_rfl)
     refine HLOADE (i := 1) (js := [0, 0, 0, 0])  42 (.tmp 126) 127 42 ?_ (NL rfl) (some ⟨b83, 0, none⟩) 0 14 [.slice a7 m5.1.rules.seats.length c8, vi m5.1.rules.tiers, vi m5.1.rules.room, vi m5.1.rules.size, vi m5.1.rules.period, vi m5.1.rules.window, vi m5.1.rules.rest, vi m5.1.rules.tries, vi m5.1.rules.crew, vi m17, vi tn, .slice oa ps.length oc, .slice a11 m5.1.cabins.length c12, .slice ta td.length tc, .slice a15 m5.1.jobs.length c16] (.slice a15 m5.1.jobs.length c16) ?_ (fun w hw => ptC_elem (hw.own 2 rfl)) ?_ ?_ rfl ?_
     iterate 4 (as_aux_lemma => kernel_rfl)
     refine HPURE (js := [0, 0, 0, 0]) 2 [(0, .v (p)), (2, .e (some ⟨b81, 0, none⟩) 0 0), (3, .e (some ⟨b82, 0, none⟩) 0 0), (4, .e (some ⟨b83, 0, none⟩) 0 0), (11, I (k : Int)), (127, .v (.slice a15 m5.1.jobs.length c16)), (128, I (k : Int))] ?_ ?_ rfl ?_
     iterate 2 (as_aux_lemma => kernel_rfl)
     refine HPURE (js := [0, 0, 0, 0]) 3 [(0, .v (p)), (2, .e (some ⟨b81, 0, none⟩) 0 0), (3, .e (some ⟨b82, 0, none⟩) 0 0), (4, .e (some ⟨b83, 0, none⟩) 0 0), (11, I (k : Int)), (127, .v (.slice a15 m5.1.jobs.length c16)), (128, I (k : Int)), (129, .v (p))] ?_ ?_ rfl ?_
     iterate 2 (as_aux_lemma => kernel_rfl)
     refine HPURE (js := [0, 0, 0, 0]) 4 [(0, .v (p)), (2, .e (some ⟨b81, 0, none⟩) 0 0), (3, .e (some ⟨b82, 0, none⟩) 0 0), (4, .e (some ⟨b83, 0, none⟩) 0 0), (11, I (k : Int)), (127, .v (.slice a15 m5.1.jobs.length c16)), (128, I (k : Int)), (129, .v (p)), (130, .e (some ⟨b82, 0, none⟩) 0 0)] ?_ ?_ rfl ?_
     iterate 2 (as_aux_lemma => kernel_rfl)
     refine HLOADE (i := 5) (js := [0, 0, 0, 0])  42 (.tmp 130) 131 42 ?_ (NL rfl) (some ⟨b82, 0, none⟩) 0 0 [.slice a3 m1.seats.length c4, vi m1.tiers, vi m1.room, vi m1.size, vi m1.period, vi m1.window, vi m1.rest, vi m1.tries, vi m1.crew] (.slice a3 m1.seats.length c4) ?_ (fun w hw => ptC_elem (hw.own 1 rfl)) ?_ ?_ rfl ?_
     iterate 4 (as_aux_lemma => kernel_rfl)
     refine HPURE (js := [0, 0, 0, 0]) 6 [(0, .v (p)), (2, .e (some ⟨b81, 0, none⟩) 0 0), (3, .e (some ⟨b82, 0, none⟩) 0 0), (4, .e (some ⟨b83, 0, none⟩) 0 0), (11, I (k : Int)), (127, .v (.slice a15 m5.1.jobs.length c16)), (128, I (k : Int)), (129, .v (p)), (132, I (m1.seats.length : Int))] ?_ ?_ rfl ?_
     iterate 2 (as_aux_lemma => kernel_rfl)
     refine HALL [7] ?_ (by decide) ?_
     · as_aux_lemma => kernel_rfl
     refine CALL 29 #[p, vi (m1.seats.length : Int)] (some 133) ?_ [9] [curA (d) p] _ rfl (⟨{x : Int // 0 ≤ x ∧ ((m1.seats.length : Int) ≤ 0 → x = 0) ∧ (0 < (m1.seats.length : Int) → x < (m1.seats.length : Int))}, fun q => vi q.1, fun q => [curA (d) p]⟩) (fun w hw => l1Below_c w (d) (hd.fr hw.fr hS) p (m1.seats.length : Int)) (NO rfl) ?_
     · as_aux_lemma => kernel_rfl
     rintro ⟨m84, hm85⟩
     try dsimp only at hm85
     refine HKEEP (js := [0, 0, 0, 0]) rfl (FACT (m5.1.jobs.length = jo.length) (fun w hw => (SlO.lenE (hw.own 8 rfl)).1) (fun hln86 => ?_))
     obtain ⟨x87, hx88⟩ : ∃ y, jo[k]? = some y := ⟨_, List.getElem?_eq_getElem (by omega)⟩
     refine FACT (a15.isSome = true) (fun w hw => SlO.isS (hw.own 8 rfl) (by omega)) (fun hs89 => ?_)
     refine HINDEX (i := 8) (js := [0, 0, 0, 0])  42 (.tmp 127) (.tmp 128) 134 0 ?_ (NL rfl) a15 m5.1.jobs.length c16 .i64 (k : Int) 3 1 ?_ ?_ ?_ ?_ hs89 (by omega) (by omega) ?_ rfl ?_
     iterate 6 (as_aux_lemma => kernel_rfl)
     refine HALL [9] ?_ (by decide) ?_
     · as_aux_lemma => kernel_rfl
     refine STOREF 3 (.tmp 134) (.tmp 133) 0 ?_ 8 _ 3 a15 m5.1.jobs.length c16 k 0 jo rfl x87 m84 hx88 (vi m84) ?_ ?_ ?_ ?_
     iterate 4 (as_aux_lemma => kernel_rfl)
     refine HKEEP (js := [0, 0, 0, 0]) rfl (HEND ?_ ?_)
     · as_aux_lemma => kernel_rfl
     refine IMPORT (L0 := [(55, [.slice none 0 0, vi 0, vi 0, vi 0, vi 0, vi 0, vi 0, vi 0, vi 0, vi 0, vi 0, .slice none 0 0, .slice none 0 0, .slice none 0 0, .slice none 0 0]), (51, [.slice a3 m1.seats.length c4, vi m1.tiers, vi m1.room, vi m1.size, vi m1.period, vi m1.window, vi m1.rest, vi m1.tries, vi m1.crew]), (55, [.slice a7 m5.1.rules.seats.length c8, vi m5.1.rules.tiers, vi m5.1.rules.room, vi m5.1.rules.size, vi m5.1.rules.period, vi m5.1.rules.window, vi m5.1.rules.rest, vi m5.1.rules.tries, vi m5.1.rules.crew, vi m17, vi tn, .slice oa ps.length oc, .slice a11 m5.1.cabins.length c12, .slice ta td.length tc, .slice a15 m5.1.jobs.length c16])]) (L1 := []) [b81, b82, b83] rfl [0, 0, 0] _ rfl [(0, .v (p)), (2, .p 0 0), (3, .p 1 0), (4, .p 2 0), (11, I (k : Int)), (127, .v (.slice a15 m5.1.jobs.length c16)), (128, I (k : Int)), (129, .v (p)), (132, I (m1.seats.length : Int)), (133, I m84), (134, .e a15 (k * 1) 0)] ?_ ?_ ?_
     iterate 2 (as_aux_lemma => kernel_rfl)
     refine OUTN (NEXT (REGION [0, 1, 2] rfl (RUN0 2 [2] [(0, .v (p)), (2, .p 0 0), (3, .p 1 0), (4, .p 2 0), (123, I (wr ((k : Int) + 1)))] ?_ rfl ?_)))
     · as_aux_lemma => kernel_rfl
     refine CAST (d := 123) (vi (wr ((k : Int) + 1))) (vi ((k + 1 : Nat) : Int)) ?_ (vi_cast (by omega) (by omega)) ?_
     · as_aux_lemma => kernel_rfl
     refine RUN0 1 [] [(0, .v (p)), (2, .p 0 0), (3, .p 1 0), (4, .p 2 0), (11, I ((k + 1 : Nat) : Int))] ?_ rfl ?_
     · as_aux_lemma => kernel_rfl
     refine ENDOPS (BACK (k + 1, jo.set k m84) [0, 2, 3, 4, 11] 3 [0, 0, 0, 0, 0, 1, 0] _ (by dsimp only; omega) (by dsimp only; omega) ?_ rfl rfl rfl)
     · as_aux_lemma => kernel_rfl
    ·
     have h80 := bh80
     refine SKIP (OUTN (NEXT (REGION [0, 1, 2] rfl (RUN0 2 [2] [(0, .v (p)), (2, .p 0 0), (3, .p 1 0), (4, .p 2 0), (123, I (wr ((k : Int) + 1)))] ?_ rfl ?_))))
     · as_aux_lemma => kernel_rfl
     refine CAST (d := 123) (vi (wr ((k : Int) + 1))) (vi ((k + 1 : Nat) : Int)) ?_ (vi_cast (by omega) (by omega)) ?_
     · as_aux_lemma => kernel_rfl
     refine RUN0 1 [] [(0, .v (p)), (2, .p 0 0), (3, .p 1 0), (4, .p 2 0), (11, I ((k + 1 : Nat) : Int))] ?_ rfl ?_
     · as_aux_lemma => kernel_rfl
     refine ENDOPS (BACK (k + 1, jo) [0, 2, 3, 4, 11] 3 [0, 0, 0, 0, 0, 0, 0] _ (by dsimp only; omega) (by dsimp only; omega) ?_ rfl rfl rfl)
     · as_aux_lemma => kernel_rfl
   ·
    have h77 := bh77
    have h77 := of_decide_eq_false h77
    refine EXIT (PASS trivial (PASS trivial (OUT (NEXT (SEQ (REGION [0, 1] rfl (RUN 2 [] [(2, .p 0 0)] [(55, [.slice a7 m5.1.rules.seats.length c8, vi m5.1.rules.tiers, vi m5.1.rules.room, vi m5.1.rules.size, vi m5.1.rules.period, vi m5.1.rules.window, vi m5.1.rules.rest, vi m5.1.rules.tries, vi m5.1.rules.crew, vi m17, vi tn, .slice oa ps.length oc, .slice a11 m5.1.cabins.length c12, .slice ta td.length tc, .slice a15 m5.1.jobs.length c16]), (51, [.slice a3 m1.seats.length c4, vi m1.tiers, vi m1.room, vi m1.size, vi m1.period, vi m1.window, vi m1.rest, vi m1.tries, vi m1.crew]), (55, [.slice a7 m5.1.rules.seats.length c8, vi m5.1.rules.tiers, vi m5.1.rules.room, vi m5.1.rules.size, vi m5.1.rules.period, vi m5.1.rules.window, vi m5.1.rules.rest, vi m5.1.rules.tries, vi m5.1.rules.crew, vi m17, vi tn, .slice oa ps.length oc, .slice a11 m5.1.cabins.length c12, .slice ta td.length tc, .slice a15 m5.1.jobs.length c16])] ?_ rfl ?_)))))))
    · as_aux_lemma => kernel_rfl
    refine ENDOPS (NEXT (RET (FACT (m5.1.cabins.length = cs.length) (fun w hw => (SlO.lenE (hw.own 3 rfl)).1) (fun hln90 => ?_))))
    refine RELEN (fun z : Nat => [(2, .p 0 0)]) (fun z : Nat => [(55, [.slice a7 m5.1.rules.seats.length c8, vi m5.1.rules.tiers, vi m5.1.rules.room, vi m5.1.rules.size, vi m5.1.rules.period, vi m5.1.rules.window, vi m5.1.rules.rest, vi m5.1.rules.tries, vi m5.1.rules.crew, vi m17, vi tn, .slice oa ps.length oc, .slice a11 z c12, .slice ta td.length tc, .slice a15 m5.1.jobs.length c16]), (51, [.slice a3 m1.seats.length c4, vi m1.tiers, vi m1.room, vi m1.size, vi m1.period, vi m1.window, vi m1.rest, vi m1.tries, vi m1.crew]), (55, [.slice a7 m5.1.rules.seats.length c8, vi m5.1.rules.tiers, vi m5.1.rules.room, vi m5.1.rules.size, vi m5.1.rules.period, vi m5.1.rules.window, vi m5.1.rules.rest, vi m5.1.rules.tries, vi m5.1.rules.crew, vi m17, vi tn, .slice oa ps.length oc, .slice a11 z c12, .slice ta td.length tc, .slice a15 m5.1.jobs.length c16])]) (fun z : Nat => [slA 3 intL (.slice a3 m1.seats.length c4) m1.seats, slA 3 intL (.slice a7 m5.1.rules.seats.length c8) m5.1.rules.seats, slA 80 partyL (.slice oa ps.length oc) ps, slA 93 (cabinLx 129 106 111) (.slice a11 z c12) cs, slA 3 intL (.slice ta td.length tc) td, slA 3 intL (.slice a15 m5.1.jobs.length c16) jo, curA (d) p]) hln90 ?_
    refine FACT (m5.1.jobs.length = jo.length) (fun w hw => (SlO.lenE (hw.own 5 rfl)).1) (fun hln91 => ?_)
    refine RELEN (fun z : Nat => [(2, .p 0 0)]) (fun z : Nat => [(55, [.slice a7 m5.1.rules.seats.length c8, vi m5.1.rules.tiers, vi m5.1.rules.room, vi m5.1.rules.size, vi m5.1.rules.period, vi m5.1.rules.window, vi m5.1.rules.rest, vi m5.1.rules.tries, vi m5.1.rules.crew, vi m17, vi tn, .slice oa ps.length oc, .slice a11 cs.length c12, .slice ta td.length tc, .slice a15 z c16]), (51, [.slice a3 m1.seats.length c4, vi m1.tiers, vi m1.room, vi m1.size, vi m1.period, vi m1.window, vi m1.rest, vi m1.tries, vi m1.crew]), (55, [.slice a7 m5.1.rules.seats.length c8, vi m5.1.rules.tiers, vi m5.1.rules.room, vi m5.1.rules.size, vi m5.1.rules.period, vi m5.1.rules.window, vi m5.1.rules.rest, vi m5.1.rules.tries, vi m5.1.rules.crew, vi m17, vi tn, .slice oa ps.length oc, .slice a11 cs.length c12, .slice ta td.length tc, .slice a15 z c16])]) (fun z : Nat => [slA 3 intL (.slice a3 m1.seats.length c4) m1.seats, slA 3 intL (.slice a7 m5.1.rules.seats.length c8) m5.1.rules.seats, slA 80 partyL (.slice oa ps.length oc) ps, slA 93 (cabinLx 129 106 111) (.slice a11 cs.length c12) cs, slA 3 intL (.slice ta td.length tc) td, slA 3 intL (.slice a15 z c16) jo, curA (d) p]) hln91 ?_
    refine FIN (.agg #[.slice a7 m5.1.rules.seats.length c8, vi m5.1.rules.tiers, vi m5.1.rules.room, vi m5.1.rules.size, vi m5.1.rules.period, vi m5.1.rules.window, vi m5.1.rules.rest, vi m5.1.rules.tries, vi m5.1.rules.crew, vi m17, vi tn, .slice oa ps.length oc, .slice a11 cs.length c12, .slice ta td.length tc, .slice a15 jo.length c16]) ?_ ⟨(((a7, c8), (oa, oc), (a11, c12), (ta, tc), (a15, c16)), (⟨m5.1.rules, m17, tn, ps, cs, td, jo⟩ : House)), trivial⟩ ?_ [1, 1, 1, 1, 1, 1] ?_
    · as_aux_lemma => kernel_rfl
    · rfl
    · rfl

end SX
end Go.Proofs.YtpdijcbgdalphabGreatDoor
