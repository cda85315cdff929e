/- Walks, printed by program. -/
import Derived.Test.YtpdijcbgdalphabGreatDoorE4
namespace Go.Proofs.YtpdijcbgdalphabGreatDoor
namespace SX
open Go Go.RowKit
set_option linter.unusedVariables false
set_option linter.unusedSimpArgs false
set_option maxRecDepth 10000
set_option maxHeartbeats 400000
theorem l12Right_c (W : World) (d : Cd) (hd : CodeOk W d) (p : Value) (ho : House) (ho_rules_seats_a : Option Addr) (ho_rules_seats_c : Nat) (hho_rules_seats : RdP W p intL ho_rules_seats_a ho.rules.seats) (ho_parties_a : Option Addr) (ho_parties_c : Nat) (hho_parties : RdP W p partyL ho_parties_a ho.parties) (ho_cabins_a : Option Addr) (ho_cabins_c : Nat) (hho_cabins : RdP W p (cabinLx 129 106 111) ho_cabins_a ho.cabins) (ho_todo_a : Option Addr) (ho_todo_c : Nat) (hho_todo : RdP W p intL ho_todo_a ho.todo) (ho_jobs_a : Option Addr) (ho_jobs_c : Nat) (hho_jobs : RdP W p intL ho_jobs_a ho.jobs) : Spec Tryz.prog W [curA d p] 30 #[p, .agg #[.slice ho_rules_seats_a ho.rules.seats.length ho_rules_seats_c, vi ho.rules.tiers, vi ho.rules.room, vi ho.rules.size, vi ho.rules.period, vi ho.rules.window, vi ho.rules.rest, vi ho.rules.tries, vi ho.rules.crew, vi ho.now, vi ho.turn, .slice ho_parties_a ho.parties.length ho_parties_c, .slice ho_cabins_a ho.cabins.length ho_cabins_c, .slice ho_todo_a ho.todo.length ho_todo_c, .slice ho_jobs_a ho.jobs.length ho_jobs_c]] (⟨{x : Req // True}, fun q => .agg #[vi q.1.kind, vi q.1.id, vi q.1.cabin, vi q.1.from', vi q.1.size, vi q.1.tier], fun q => [curA (d) p]⟩) := by
 refine ENTERC (N := 101) (vs := [p, .agg #[.slice ho_rules_seats_a ho.rules.seats.length ho_rules_seats_c, vi ho.rules.tiers, vi ho.rules.room, vi ho.rules.size, vi ho.rules.period, vi ho.rules.window, vi ho.rules.rest, vi ho.rules.tries, vi ho.rules.crew, vi ho.now, vi ho.turn, .slice ho_parties_a ho.parties.length ho_parties_c, .slice ho_cabins_a ho.cabins.length ho_cabins_c, .slice ho_todo_a ho.todo.length ho_todo_c, .slice ho_jobs_a ho.jobs.length ho_jobs_c]]) Tryz.func30 rfl rfl (NL rfl) (fun S0 hS hP => ?_)
 have hho_rules_seats_len := hho_rules_seats.len
 have hho_parties_len := hho_parties.len
 have hho_cabins_len := hho_cabins.len
 have hho_todo_len := hho_todo.len
 have hho_jobs_len := hho_jobs.len
 refine SEQ (REGION [0, 1] rfl (RUN 2 [] [(0, .v (p)), (3, .p 0 0), (4, .p 1 0)] [(55, [.slice ho_rules_seats_a ho.rules.seats.length ho_rules_seats_c, vi ho.rules.tiers, vi ho.rules.room, vi ho.rules.size, vi ho.rules.period, vi ho.rules.window, vi ho.rules.rest, vi ho.rules.tries, vi ho.rules.crew, vi ho.now, vi ho.turn, .slice ho_parties_a ho.parties.length ho_parties_c, .slice ho_cabins_a ho.cabins.length ho_cabins_c, .slice ho_todo_a ho.todo.length ho_todo_c, .slice ho_jobs_a ho.jobs.length ho_jobs_c]), (30, [vi 0, vi 0, vi 0, vi 0, vi 0, vi 0])] ?_ rfl ?_))
 · as_aux_lemma => kernel_rfl
 refine ENDOPS (NEXT (SEQ (REGION [0, 1, 2, 3] rfl (RUN0 1 [1, 2, 3] [(0, .v (p)), (3, .p 0 0), (4, .p 1 0), (8, .v (p))] ?_ rfl ?_))))
 · as_aux_lemma => kernel_rfl
 refine OPC (CALL 29 #[p, vi 12] (some 9) ?_ [0] [curA (d) p] _ rfl (⟨{x : Int // 0 ≤ x ∧ (12 ≤ 0 → x = 0) ∧ (0 < 12 → x < 12)}, fun q => vi q.1, fun q => [curA (d) p]⟩) (fun w hw => l1Below_c w (d) (hd.fr hw.fr hS) p 12) (NO rfl) ?_)
 · as_aux_lemma => kernel_rfl
 rintro ⟨m1, hm2⟩
 try dsimp only at hm2
 refine RUN0 2 [] [(0, .v (p)), (3, .p 0 0), (4, .p 1 0), (5, I (wr (1 + m1)))] ?_ rfl ?_
 · as_aux_lemma => kernel_rfl
 refine ENDOPS (NEXT (SEQJ (ι := Int) (fun j => [(0, .v (p)), (3, .p 0 0), (4, .p 1 0), (5, I j)]) (fun j => [(55, [.slice ho_rules_seats_a ho.rules.seats.length ho_rules_seats_c, vi ho.rules.tiers, vi ho.rules.room, vi ho.rules.size, vi ho.rules.period, vi ho.rules.window, vi ho.rules.rest, vi ho.rules.tries, vi ho.rules.crew, vi ho.now, vi ho.turn, .slice ho_parties_a ho.parties.length ho_parties_c, .slice ho_cabins_a ho.cabins.length ho_cabins_c, .slice ho_todo_a ho.todo.length ho_todo_c, .slice ho_jobs_a ho.jobs.length ho_jobs_c]), (30, [vi 0, vi 0, vi 0, vi 0, vi 0, vi 0])]) (fun j => [curA (d) p]) (fun j => True) ?_ ?_))
 ·
  refine SEQ (REGION [0, 1, 2, 3, 4, 5, 6, 7, 8] rfl (RUN0 5 [5, 6, 7, 8] [(0, .v (p)), (3, .p 0 0), (4, .p 1 0), (5, I (wr (1 + m1))), (15, B (decide ((ho.parties.length : Int) > 0)))] ?_ rfl ?_))
  · as_aux_lemma => kernel_rfl
  refine SPLIT (d := 15) (decide ((ho.parties.length : Int) > 0)) ?_ (fun bh3 => ?_) (fun bh3 => ?_)
  · as_aux_lemma => kernel_rfl
  ·
   have h3 := bh3
   have h3 := of_decide_eq_true h3
   refine RUN0 1 [6, 7, 8] [(0, .v (p)), (3, .p 0 0), (4, .p 1 0), (5, I (wr (1 + m1))), (15, B true), (16, .v (p))] ?_ rfl ?_
   · as_aux_lemma => kernel_rfl
   refine OPC (CALL 23 #[p, vi 3] (some 17) ?_ [0] [curA (d) p] _ rfl (⟨{x : Bool // True}, fun q => .bool q.1, fun q => [curA (d) p]⟩) (fun w hw => l1Once_c w (d) (hd.fr hw.fr hS) p 3) (NO rfl) ?_)
   · as_aux_lemma => kernel_rfl
   rintro ⟨m4, hm5⟩
   try dsimp only at hm5
   refine RUN0 2 [] [(0, .v (p)), (3, .p 0 0), (4, .p 1 0), (5, I (wr (1 + m1))), (19, B (!m4))] ?_ rfl ?_
   · as_aux_lemma => kernel_rfl
   refine ENDOPS (NEXT (IF (!m4) ?_ (fun bh6 => ?_) (fun bh6 => ?_)))
   · as_aux_lemma => kernel_rfl
   ·
    have h6 := bh6
    have h6 := notT h6
    refine EXPORT (fun bs hbs => ?_)
    obtain ⟨b7, b8, rfl⟩ := len2 hbs
    refine REGIONH ?_ 11 rfl [ptC b7 55 [.slice ho_rules_seats_a ho.rules.seats.length ho_rules_seats_c, vi ho.rules.tiers, vi ho.rules.room, vi ho.rules.size, vi ho.rules.period, vi ho.rules.window, vi ho.rules.rest, vi ho.rules.tries, vi ho.rules.crew, vi ho.now, vi ho.turn, .slice ho_parties_a ho.parties.length ho_parties_c, .slice ho_cabins_a ho.cabins.length ho_cabins_c, .slice ho_todo_a ho.todo.length ho_todo_c, .slice ho_jobs_a ho.jobs.length ho_jobs_c], ptC b8 30 [vi 0, vi 0, vi 0, vi 0, vi 0, vi 0]] ?_
    · as_aux_lemma => kernel_rfl
    refine HPURE (js := [0, 0]) 0 [(0, .v (p)), (3, .e (some ⟨b7, 0, none⟩) 0 0), (4, .e (some ⟨b8, 0, none⟩) 0 0), (5, I (wr (1 + m1))), (20, .e (some ⟨b7, 0, none⟩) 0 11)] ?_ ?_ rfl ?_
    iterate 2 (as_aux_lemma => kernel_rfl)
    refine HLOADE (i := 1) (js := [0, 0])  52 (.tmp 20) 21 52 ?_ (NL rfl) (some ⟨b7, 0, none⟩) 0 11 [.slice ho_rules_seats_a ho.rules.seats.length ho_rules_seats_c, vi ho.rules.tiers, vi ho.rules.room, vi ho.rules.size, vi ho.rules.period, vi ho.rules.window, vi ho.rules.rest, vi ho.rules.tries, vi ho.rules.crew, vi ho.now, vi ho.turn, .slice ho_parties_a ho.parties.length ho_parties_c, .slice ho_cabins_a ho.cabins.length ho_cabins_c, .slice ho_todo_a ho.todo.length ho_todo_c, .slice ho_jobs_a ho.jobs.length ho_jobs_c] (.slice ho_parties_a ho.parties.length ho_parties_c) ?_ (fun w hw => ptC_elem (hw.own 0 rfl)) ?_ ?_ rfl ?_
    iterate 4 (as_aux_lemma => kernel_rfl)
    refine HPURE (js := [0, 0]) 2 [(0, .v (p)), (3, .e (some ⟨b7, 0, none⟩) 0 0), (4, .e (some ⟨b8, 0, none⟩) 0 0), (5, I (wr (1 + m1))), (21, .v (.slice ho_parties_a ho.parties.length ho_parties_c)), (22, .v (p))] ?_ ?_ rfl ?_
    iterate 2 (as_aux_lemma => kernel_rfl)
    refine HPURE (js := [0, 0]) 3 [(0, .v (p)), (3, .e (some ⟨b7, 0, none⟩) 0 0), (4, .e (some ⟨b8, 0, none⟩) 0 0), (5, I (wr (1 + m1))), (21, .v (.slice ho_parties_a ho.parties.length ho_parties_c)), (22, .v (p)), (23, .e (some ⟨b7, 0, none⟩) 0 11)] ?_ ?_ rfl ?_
    iterate 2 (as_aux_lemma => kernel_rfl)
    refine HLOADE (i := 4) (js := [0, 0])  52 (.tmp 23) 24 52 ?_ (NL rfl) (some ⟨b7, 0, none⟩) 0 11 [.slice ho_rules_seats_a ho.rules.seats.length ho_rules_seats_c, vi ho.rules.tiers, vi ho.rules.room, vi ho.rules.size, vi ho.rules.period, vi ho.rules.window, vi ho.rules.rest, vi ho.rules.tries, vi ho.rules.crew, vi ho.now, vi ho.turn, .slice ho_parties_a ho.parties.length ho_parties_c, .slice ho_cabins_a ho.cabins.length ho_cabins_c, .slice ho_todo_a ho.todo.length ho_todo_c, .slice ho_jobs_a ho.jobs.length ho_jobs_c] (.slice ho_parties_a ho.parties.length ho_parties_c) ?_ (fun w hw => ptC_elem (hw.own 0 rfl)) ?_ ?_ rfl ?_
    iterate 4 (as_aux_lemma => kernel_rfl)
    refine HPURE (js := [0, 0]) 5 [(0, .v (p)), (3, .e (some ⟨b7, 0, none⟩) 0 0), (4, .e (some ⟨b8, 0, none⟩) 0 0), (5, I (wr (1 + m1))), (21, .v (.slice ho_parties_a ho.parties.length ho_parties_c)), (22, .v (p)), (25, I (ho.parties.length : Int))] ?_ ?_ rfl ?_
    iterate 2 (as_aux_lemma => kernel_rfl)
    refine HALL [6] ?_ (by decide) ?_
    · as_aux_lemma => kernel_rfl
    refine CALL 29 #[p, vi (ho.parties.length : Int)] (some 26) ?_ [2] [curA (d) p] _ rfl (⟨{x : Int // 0 ≤ x ∧ ((ho.parties.length : Int) ≤ 0 → x = 0) ∧ (0 < (ho.parties.length : Int) → x < (ho.parties.length : Int))}, fun q => vi q.1, fun q => [curA (d) p]⟩) (fun w hw => l1Below_c w (d) (hd.fr hw.fr hS) p (ho.parties.length : Int)) (NO rfl) ?_
    · as_aux_lemma => kernel_rfl
    rintro ⟨m9, hm10⟩
    try dsimp only at hm10
    refine HKEEP (js := [0, 0]) rfl ?_
    obtain ⟨x11, hx12⟩ : ∃ y, ho.parties[m9.toNat]? = some y := ⟨_, List.getElem?_eq_getElem (by omega)⟩
    refine HINDEX (i := 7) (js := [0, 0])  52 (.tmp 21) (.tmp 26) 27 0 ?_ (NL rfl) ho_parties_a ho.parties.length ho_parties_c .i64 m9 80 10 ?_ ?_ ?_ ?_ (Rd.some hho_parties.rd0 (by omega)) (by omega) (by omega) ?_ rfl ?_
    iterate 6 (as_aux_lemma => kernel_rfl)
    refine HPURE (js := [0, 0]) 8 [(0, .v (p)), (3, .e (some ⟨b7, 0, none⟩) 0 0), (4, .e (some ⟨b8, 0, none⟩) 0 0), (5, I (wr (1 + m1))), (28, .e ho_parties_a (m9.toNat * 10) 0)] ?_ ?_ rfl ?_
    iterate 2 (as_aux_lemma => kernel_rfl)
    refine HLOADE (i := 9) (js := [0, 0])  3 (.tmp 28) 29 3 ?_ (NL rfl) ho_parties_a (m9.toNat * 10) 0 [vi x11.id, vi x11.cabin, vi x11.from', vi x11.size, vi x11.tier, vi x11.since, vi x11.turn, vi x11.state, vi x11.until', vi x11.asked] (vi x11.id) ?_ (fun w hw => (hho_parties.rd hw.fr hP).flat hx12) ?_ ?_ rfl ?_
    iterate 4 (as_aux_lemma => kernel_rfl)
    refine HPURE (js := [0, 0]) 10 [(0, .v (p)), (3, .e (some ⟨b7, 0, none⟩) 0 0), (4, .e (some ⟨b8, 0, none⟩) 0 0), (5, I x11.id)] ?_ ?_ rfl ?_
    iterate 2 (as_aux_lemma => kernel_rfl)
    refine HEND ?_ ?_
    · as_aux_lemma => kernel_rfl
    refine IMPORT (L0 := [(55, [.slice ho_rules_seats_a ho.rules.seats.length ho_rules_seats_c, vi ho.rules.tiers, vi ho.rules.room, vi ho.rules.size, vi ho.rules.period, vi ho.rules.window, vi ho.rules.rest, vi ho.rules.tries, vi ho.rules.crew, vi ho.now, vi ho.turn, .slice ho_parties_a ho.parties.length ho_parties_c, .slice ho_cabins_a ho.cabins.length ho_cabins_c, .slice ho_todo_a ho.todo.length ho_todo_c, .slice ho_jobs_a ho.jobs.length ho_jobs_c]), (30, [vi 0, vi 0, vi 0, vi 0, vi 0, vi 0])]) (L1 := []) [b7, b8] rfl [0, 0] _ rfl [(0, .v (p)), (3, .p 0 0), (4, .p 1 0), (5, I x11.id)] ?_ ?_ ?_
    iterate 2 (as_aux_lemma => kernel_rfl)
    refine JBACK (x11.id) [0, 3, 4, 5] 2 [0] _ trivial ?_ rfl rfl rfl
    · as_aux_lemma => kernel_rfl
   ·
    have h6 := bh6
    have h6 := notF h6
    refine SKIP (JBACK (wr (1 + m1)) [0, 3, 4, 5] 2 [0] _ trivial ?_ rfl rfl rfl)
    · as_aux_lemma => kernel_rfl
  ·
   have h3 := bh3
   have h3 := of_decide_eq_false h3
   refine RUN0 4 [] [(0, .v (p)), (3, .p 0 0), (4, .p 1 0), (5, I (wr (1 + m1))), (19, B false)] ?_ rfl ?_
   · as_aux_lemma => kernel_rfl
   refine ENDOPS (NEXT (IFF ?_ ?_))
   · as_aux_lemma => kernel_rfl
   refine SKIP (JBACK (wr (1 + m1)) [0, 3, 4, 5] 2 [0] _ trivial ?_ rfl rfl rfl)
   · as_aux_lemma => kernel_rfl
 rintro idv hi13
 try dsimp only at hi13
 refine SEQ (REGION [0, 1, 2, 3, 4, 5] rfl (RUN0 4 [4, 5] [(0, .v (p)), (3, .p 0 0), (4, .p 1 0), (5, I idv), (33, I (ho.rules.seats.length : Int))] ?_ rfl ?_))
 · as_aux_lemma => kernel_rfl
 refine OPC (CALL 55 #[vi 1, vi (ho.rules.seats.length : Int)] (some 34) ?_ [] [] _ rfl (RV (vi (if 1 > (ho.rules.seats.length : Int) then 1 else (ho.rules.seats.length : Int)))) (fun w hw => l1Max_c w 1 (ho.rules.seats.length : Int)) (NO rfl) ?_)
 · as_aux_lemma => kernel_rfl
 rintro ⟨⟩
 refine RUN0 1 [] [(0, .v (p)), (3, .p 0 0), (4, .p 1 0), (5, I idv), (6, I (if 1 > (ho.rules.seats.length : Int) then 1 else (ho.rules.seats.length : Int)))] ?_ rfl ?_
 · as_aux_lemma => kernel_rfl
 refine ENDOPS (NEXT (SEQ (SEQ (REGION [0, 1] rfl (RUN0 1 [1] [(0, .v (p)), (3, .p 0 0), (4, .p 1 0), (5, I idv), (6, I (if 1 > (ho.rules.seats.length : Int) then 1 else (ho.rules.seats.length : Int))), (35, .v (p))] ?_ rfl ?_)))))
 · as_aux_lemma => kernel_rfl
 refine OPC (CALL 29 #[p, vi 12] (some 36) ?_ [0] [curA (d) p] _ rfl (⟨{x : Int // 0 ≤ x ∧ (12 ≤ 0 → x = 0) ∧ (0 < 12 → x < 12)}, fun q => vi q.1, fun q => [curA (d) p]⟩) (fun w hw => l1Below_c w (d) (hd.fr hw.fr hS) p 12) (NO rfl) ?_)
 · as_aux_lemma => kernel_rfl
 rintro ⟨m14, hm15⟩
 try dsimp only at hm15
 refine ENDOPS (NEXT (BLOCK (SEQJ (ι := Bool) (fun j => [(0, .v (p)), (3, .p 0 0), (4, .p 1 0), (5, I idv), (6, I (if 1 > (ho.rules.seats.length : Int) then 1 else (ho.rules.seats.length : Int))), (36, I m14), (37, B j)]) (fun j => [(55, [.slice ho_rules_seats_a ho.rules.seats.length ho_rules_seats_c, vi ho.rules.tiers, vi ho.rules.room, vi ho.rules.size, vi ho.rules.period, vi ho.rules.window, vi ho.rules.rest, vi ho.rules.tries, vi ho.rules.crew, vi ho.now, vi ho.turn, .slice ho_parties_a ho.parties.length ho_parties_c, .slice ho_cabins_a ho.cabins.length ho_cabins_c, .slice ho_todo_a ho.todo.length ho_todo_c, .slice ho_jobs_a ho.jobs.length ho_jobs_c]), (30, [vi 0, vi 0, vi 0, vi 0, vi 0, vi 0])]) (fun j => [curA (d) p]) (fun j => True) ?_ ?_)))
 ·
  refine SEQ (REGION [0, 1] rfl (RUN0 2 [] [(0, .v (p)), (3, .p 0 0), (4, .p 1 0), (5, I idv), (6, I (if 1 > (ho.rules.seats.length : Int) then 1 else (ho.rules.seats.length : Int))), (36, I m14), (37, B (m14 == 0))] ?_ rfl ?_))
  · as_aux_lemma => kernel_rfl
  refine ENDOPS (NEXT (IF (m14 == 0) ?_ (fun bh16 => ?_) (fun bh16 => ?_)))
  · as_aux_lemma => kernel_rfl
  ·
   have h16 := bh16
   have h16 := eq_of_beq h16
   refine SKIP (JBACK (m14 == 0) [0, 3, 4, 5, 6, 36, 37] 2 [0] _ trivial ?_ rfl rfl rfl)
   · as_aux_lemma => kernel_rfl
  ·
   have h16 := bh16
   have h16 := ne_of_beq_false h16
   refine SEQ (REGION [0, 1] rfl (RUN0 2 [] [(0, .v (p)), (3, .p 0 0), (4, .p 1 0), (5, I idv), (6, I (if 1 > (ho.rules.seats.length : Int) then 1 else (ho.rules.seats.length : Int))), (36, I m14), (37, B (m14 == 1))] ?_ rfl ?_))
   · as_aux_lemma => kernel_rfl
   refine ENDOPS (NEXT (IF (m14 == 1) ?_ (fun bh17 => ?_) (fun bh17 => ?_)))
   · as_aux_lemma => kernel_rfl
   ·
    have h17 := bh17
    have h17 := eq_of_beq h17
    refine SKIP (JBACK (m14 == 1) [0, 3, 4, 5, 6, 36, 37] 2 [0] _ trivial ?_ rfl rfl rfl)
    · as_aux_lemma => kernel_rfl
   ·
    have h17 := bh17
    have h17 := ne_of_beq_false h17
    refine SEQ (REGION [0, 1] rfl (RUN0 2 [] [(0, .v (p)), (3, .p 0 0), (4, .p 1 0), (5, I idv), (6, I (if 1 > (ho.rules.seats.length : Int) then 1 else (ho.rules.seats.length : Int))), (36, I m14), (37, B (m14 == 2))] ?_ rfl ?_))
    · as_aux_lemma => kernel_rfl
    refine ENDOPS (NEXT (IF (m14 == 2) ?_ (fun bh18 => ?_) (fun bh18 => ?_)))
    · as_aux_lemma => kernel_rfl
    ·
     have h18 := bh18
     have h18 := eq_of_beq h18
     refine SKIP (JBACK (m14 == 2) [0, 3, 4, 5, 6, 36, 37] 2 [0] _ trivial ?_ rfl rfl rfl)
     · as_aux_lemma => kernel_rfl
    ·
     have h18 := bh18
     have h18 := ne_of_beq_false h18
     refine REGION [0, 1] rfl (RUN0 2 [] [(0, .v (p)), (3, .p 0 0), (4, .p 1 0), (5, I idv), (6, I (if 1 > (ho.rules.seats.length : Int) then 1 else (ho.rules.seats.length : Int))), (36, I m14), (37, B (m14 == 3))] ?_ rfl ?_)
     · as_aux_lemma => kernel_rfl
     refine ENDOPS (JBACK (m14 == 3) [0, 3, 4, 5, 6, 36, 37] 2 [0] _ trivial ?_ rfl rfl rfl)
     · as_aux_lemma => kernel_rfl
 rintro jb hi19
 try dsimp only at hi19
 refine IF (jb) ?_ (fun bh20 => ?_) (fun bh20 => ?_)
 · as_aux_lemma => kernel_rfl
 ·
  have h20 := bh20
  refine SEQJ (ι := Int × Int × Int × Int) (fun j => [(0, .v (p)), (4, .p 1 0), (6, I (if 1 > (ho.rules.seats.length : Int) then 1 else (ho.rules.seats.length : Int))), (7, .p 2 0)]) (fun j => [(55, [.slice ho_rules_seats_a ho.rules.seats.length ho_rules_seats_c, vi ho.rules.tiers, vi ho.rules.room, vi ho.rules.size, vi ho.rules.period, vi ho.rules.window, vi ho.rules.rest, vi ho.rules.tries, vi ho.rules.crew, vi ho.now, vi ho.turn, .slice ho_parties_a ho.parties.length ho_parties_c, .slice ho_cabins_a ho.cabins.length ho_cabins_c, .slice ho_todo_a ho.todo.length ho_todo_c, .slice ho_jobs_a ho.jobs.length ho_jobs_c]), (30, [vi 0, vi 0, vi 0, vi 0, vi 0, vi 0]), (30, [vi 1, vi j.1, vi j.2.1, vi (-1), vi j.2.2.1, vi j.2.2.2])]) (fun j => [curA (d) p]) (fun j => True) ?_ ?_
  ·
   refine EXPORT (fun bs hbs => ?_)
   obtain ⟨b21, b22, rfl⟩ := len2 hbs
   refine REGIONH ?_ 22 rfl [ptC b21 55 [.slice ho_rules_seats_a ho.rules.seats.length ho_rules_seats_c, vi ho.rules.tiers, vi ho.rules.room, vi ho.rules.size, vi ho.rules.period, vi ho.rules.window, vi ho.rules.rest, vi ho.rules.tries, vi ho.rules.crew, vi ho.now, vi ho.turn, .slice ho_parties_a ho.parties.length ho_parties_c, .slice ho_cabins_a ho.cabins.length ho_cabins_c, .slice ho_todo_a ho.todo.length ho_todo_c, .slice ho_jobs_a ho.jobs.length ho_jobs_c], ptC b22 30 [vi 0, vi 0, vi 0, vi 0, vi 0, vi 0]] ?_
   · as_aux_lemma => kernel_rfl
   refine HPURE (js := [0, 0]) 0 [(0, .v (p)), (3, .e (some ⟨b21, 0, none⟩) 0 0), (4, .e (some ⟨b22, 0, none⟩) 0 0), (6, I (if 1 > (ho.rules.seats.length : Int) then 1 else (ho.rules.seats.length : Int))), (42, .v (p))] ?_ ?_ rfl ?_
   iterate 2 (as_aux_lemma => kernel_rfl)
   refine HPURE (js := [0, 0]) 3 [(0, .v (p)), (3, .e (some ⟨b21, 0, none⟩) 0 0), (4, .e (some ⟨b22, 0, none⟩) 0 0), (6, I (if 1 > (ho.rules.seats.length : Int) then 1 else (ho.rules.seats.length : Int))), (42, .v (p)), (45, .v (p))] ?_ ?_ rfl ?_
   iterate 2 (as_aux_lemma => kernel_rfl)
   refine HPURE (js := [0, 0]) 4 [(0, .v (p)), (3, .e (some ⟨b21, 0, none⟩) 0 0), (4, .e (some ⟨b22, 0, none⟩) 0 0), (6, I (if 1 > (ho.rules.seats.length : Int) then 1 else (ho.rules.seats.length : Int))), (42, .v (p)), (45, .v (p)), (46, I (if 1 > (ho.rules.seats.length : Int) then 1 else (ho.rules.seats.length : Int)))] ?_ ?_ rfl ?_
   iterate 2 (as_aux_lemma => kernel_rfl)
   refine HPURE (js := [0, 0]) 6 [(0, .v (p)), (3, .e (some ⟨b21, 0, none⟩) 0 0), (4, .e (some ⟨b22, 0, none⟩) 0 0), (6, I (if 1 > (ho.rules.seats.length : Int) then 1 else (ho.rules.seats.length : Int))), (42, .v (p)), (45, .v (p)), (46, I (if 1 > (ho.rules.seats.length : Int) then 1 else (ho.rules.seats.length : Int))), (48, .v (p))] ?_ ?_ rfl ?_
   iterate 2 (as_aux_lemma => kernel_rfl)
   refine HPURE (js := [0, 0]) 7 [(0, .v (p)), (3, .e (some ⟨b21, 0, none⟩) 0 0), (4, .e (some ⟨b22, 0, none⟩) 0 0), (6, I (if 1 > (ho.rules.seats.length : Int) then 1 else (ho.rules.seats.length : Int))), (42, .v (p)), (45, .v (p)), (46, I (if 1 > (ho.rules.seats.length : Int) then 1 else (ho.rules.seats.length : Int))), (48, .v (p)), (49, .e (some ⟨b21, 0, none⟩) 0 0)] ?_ ?_ rfl ?_
   iterate 2 (as_aux_lemma => kernel_rfl)
   refine HPURE (js := [0, 0]) 8 [(0, .v (p)), (3, .e (some ⟨b21, 0, none⟩) 0 0), (4, .e (some ⟨b22, 0, none⟩) 0 0), (6, I (if 1 > (ho.rules.seats.length : Int) then 1 else (ho.rules.seats.length : Int))), (42, .v (p)), (45, .v (p)), (46, I (if 1 > (ho.rules.seats.length : Int) then 1 else (ho.rules.seats.length : Int))), (48, .v (p)), (50, .e (some ⟨b21, 0, none⟩) 0 3)] ?_ ?_ rfl ?_
   iterate 2 (as_aux_lemma => kernel_rfl)
   refine HLOADE (i := 9) (js := [0, 0])  3 (.tmp 50) 51 3 ?_ (NL rfl) (some ⟨b21, 0, none⟩) 0 3 [.slice ho_rules_seats_a ho.rules.seats.length ho_rules_seats_c, vi ho.rules.tiers, vi ho.rules.room, vi ho.rules.size, vi ho.rules.period, vi ho.rules.window, vi ho.rules.rest, vi ho.rules.tries, vi ho.rules.crew, vi ho.now, vi ho.turn, .slice ho_parties_a ho.parties.length ho_parties_c, .slice ho_cabins_a ho.cabins.length ho_cabins_c, .slice ho_todo_a ho.todo.length ho_todo_c, .slice ho_jobs_a ho.jobs.length ho_jobs_c] (vi ho.rules.size) ?_ (fun w hw => ptC_elem (hw.own 0 rfl)) ?_ ?_ rfl ?_
   iterate 4 (as_aux_lemma => kernel_rfl)
   refine HPURE (js := [0, 0]) 13 [(0, .v (p)), (3, .e (some ⟨b21, 0, none⟩) 0 0), (4, .e (some ⟨b22, 0, none⟩) 0 0), (6, I (if 1 > (ho.rules.seats.length : Int) then 1 else (ho.rules.seats.length : Int))), (42, .v (p)), (45, .v (p)), (46, I (if 1 > (ho.rules.seats.length : Int) then 1 else (ho.rules.seats.length : Int))), (48, .v (p)), (51, I ho.rules.size), (55, .v (p))] ?_ ?_ rfl ?_
   iterate 2 (as_aux_lemma => kernel_rfl)
   refine HPURE (js := [0, 0]) 14 [(0, .v (p)), (4, .e (some ⟨b22, 0, none⟩) 0 0), (6, I (if 1 > (ho.rules.seats.length : Int) then 1 else (ho.rules.seats.length : Int))), (42, .v (p)), (45, .v (p)), (46, I (if 1 > (ho.rules.seats.length : Int) then 1 else (ho.rules.seats.length : Int))), (48, .v (p)), (51, I ho.rules.size), (55, .v (p)), (56, .e (some ⟨b21, 0, none⟩) 0 0)] ?_ ?_ rfl ?_
   iterate 2 (as_aux_lemma => kernel_rfl)
   refine HPURE (js := [0, 0]) 15 [(0, .v (p)), (4, .e (some ⟨b22, 0, none⟩) 0 0), (6, I (if 1 > (ho.rules.seats.length : Int) then 1 else (ho.rules.seats.length : Int))), (42, .v (p)), (45, .v (p)), (46, I (if 1 > (ho.rules.seats.length : Int) then 1 else (ho.rules.seats.length : Int))), (48, .v (p)), (51, I ho.rules.size), (55, .v (p)), (57, .e (some ⟨b21, 0, none⟩) 0 1)] ?_ ?_ rfl ?_
   iterate 2 (as_aux_lemma => kernel_rfl)
   refine HLOADE (i := 16) (js := [0, 0])  3 (.tmp 57) 58 3 ?_ (NL rfl) (some ⟨b21, 0, none⟩) 0 1 [.slice ho_rules_seats_a ho.rules.seats.length ho_rules_seats_c, vi ho.rules.tiers, vi ho.rules.room, vi ho.rules.size, vi ho.rules.period, vi ho.rules.window, vi ho.rules.rest, vi ho.rules.tries, vi ho.rules.crew, vi ho.now, vi ho.turn, .slice ho_parties_a ho.parties.length ho_parties_c, .slice ho_cabins_a ho.cabins.length ho_cabins_c, .slice ho_todo_a ho.todo.length ho_todo_c, .slice ho_jobs_a ho.jobs.length ho_jobs_c] (vi ho.rules.tiers) ?_ (fun w hw => ptC_elem (hw.own 0 rfl)) ?_ ?_ rfl ?_
   iterate 4 (as_aux_lemma => kernel_rfl)
   refine HALL [1, 20] ?_ (by decide) ⟨?_, ?_⟩
   · as_aux_lemma => kernel_rfl
   ·
    refine CALL 29 #[p, vi 14] (some 43) ?_ [2] [curA (d) p] _ rfl (⟨{x : Int // 0 ≤ x ∧ (14 ≤ 0 → x = 0) ∧ (0 < 14 → x < 14)}, fun q => vi q.1, fun q => [curA (d) p]⟩) (fun w hw => l1Below_c w (d) (hd.fr hw.fr hS) p 14) (NO rfl) ?_
    · as_aux_lemma => kernel_rfl
    rintro ⟨m23, hm24⟩
    try dsimp only at hm24
    refine HKEEP (js := [0, 0]) rfl (HPURE (js := [0, 0]) 2 [(0, .v (p)), (4, .e (some ⟨b22, 0, none⟩) 0 0), (6, I (if 1 > (ho.rules.seats.length : Int) then 1 else (ho.rules.seats.length : Int))), (44, I (wr (1 + m23))), (45, .v (p)), (46, I (if 1 > (ho.rules.seats.length : Int) then 1 else (ho.rules.seats.length : Int))), (48, .v (p)), (51, I ho.rules.size), (55, .v (p)), (58, I ho.rules.tiers)] ?_ ?_ rfl ?_)
    iterate 2 (as_aux_lemma => kernel_rfl)
    refine HALL [5, 20] ?_ (by decide) ⟨?_, ?_⟩
    · as_aux_lemma => kernel_rfl
    ·
     refine CALL 29 #[p, vi (if 1 > (ho.rules.seats.length : Int) then 1 else (ho.rules.seats.length : Int))] (some 47) ?_ [2] [curA (d) p] _ rfl (⟨{x : Int // 0 ≤ x ∧ ((if 1 > (ho.rules.seats.length : Int) then 1 else (ho.rules.seats.length : Int)) ≤ 0 → x = 0) ∧ (0 < (if 1 > (ho.rules.seats.length : Int) then 1 else (ho.rules.seats.length : Int)) → x < (if 1 > (ho.rules.seats.length : Int) then 1 else (ho.rules.seats.length : Int)))}, fun q => vi q.1, fun q => [curA (d) p]⟩) (fun w hw => l1Below_c w (d) (hd.fr hw.fr hS) p (if 1 > (ho.rules.seats.length : Int) then 1 else (ho.rules.seats.length : Int))) (NO rfl) ?_
     · as_aux_lemma => kernel_rfl
     rintro ⟨m25, hm26⟩
     try dsimp only at hm26
     refine HKEEP (js := [0, 0]) rfl (HALL [10, 20] ?_ (by decide) ⟨?_, ?_⟩)
     · as_aux_lemma => kernel_rfl
     ·
      refine CALL 55 #[vi 1, vi ho.rules.size] (some 52) ?_ [] [] _ rfl (RV (vi (if 1 > ho.rules.size then 1 else ho.rules.size))) (fun w hw => l1Max_c w 1 ho.rules.size) (NO rfl) ?_
      · as_aux_lemma => kernel_rfl
      rintro ⟨⟩
      refine HKEEP (js := [0, 0]) rfl (HALL [11, 20] ?_ (by decide) ⟨?_, ?_⟩)
      · as_aux_lemma => kernel_rfl
      ·
       refine CALL 29 #[p, vi (if 1 > ho.rules.size then 1 else ho.rules.size)] (some 53) ?_ [2] [curA (d) p] _ rfl (⟨{x : Int // 0 ≤ x ∧ ((if 1 > ho.rules.size then 1 else ho.rules.size) ≤ 0 → x = 0) ∧ (0 < (if 1 > ho.rules.size then 1 else ho.rules.size) → x < (if 1 > ho.rules.size then 1 else ho.rules.size))}, fun q => vi q.1, fun q => [curA (d) p]⟩) (fun w hw => l1Below_c w (d) (hd.fr hw.fr hS) p (if 1 > ho.rules.size then 1 else ho.rules.size)) (NO rfl) ?_
       · as_aux_lemma => kernel_rfl
       rintro ⟨m27, hm28⟩
       try dsimp only at hm28
       refine HKEEP (js := [0, 0]) rfl (HPURE (js := [0, 0]) 12 [(0, .v (p)), (4, .e (some ⟨b22, 0, none⟩) 0 0), (6, I (if 1 > (ho.rules.seats.length : Int) then 1 else (ho.rules.seats.length : Int))), (44, I (wr (1 + m23))), (47, I m25), (54, I (wr (1 + m27))), (55, .v (p)), (58, I ho.rules.tiers)] ?_ ?_ rfl ?_)
       iterate 2 (as_aux_lemma => kernel_rfl)
       refine HALL [17, 20] ?_ (by decide) ⟨?_, ?_⟩
       · as_aux_lemma => kernel_rfl
       ·
        refine CALL 55 #[vi 1, vi ho.rules.tiers] (some 59) ?_ [] [] _ rfl (RV (vi (if 1 > ho.rules.tiers then 1 else ho.rules.tiers))) (fun w hw => l1Max_c w 1 ho.rules.tiers) (NO rfl) ?_
        · as_aux_lemma => kernel_rfl
        rintro ⟨⟩
        refine HKEEP (js := [0, 0]) rfl (HALL [18, 20] ?_ (by decide) ⟨?_, ?_⟩)
        · as_aux_lemma => kernel_rfl
        ·
         refine CALL 29 #[p, vi (if 1 > ho.rules.tiers then 1 else ho.rules.tiers)] (some 60) ?_ [2] [curA (d) p] _ rfl (⟨{x : Int // 0 ≤ x ∧ ((if 1 > ho.rules.tiers then 1 else ho.rules.tiers) ≤ 0 → x = 0) ∧ (0 < (if 1 > ho.rules.tiers then 1 else ho.rules.tiers) → x < (if 1 > ho.rules.tiers then 1 else ho.rules.tiers))}, fun q => vi q.1, fun q => [curA (d) p]⟩) (fun w hw => l1Below_c w (d) (hd.fr hw.fr hS) p (if 1 > ho.rules.tiers then 1 else ho.rules.tiers)) (NO rfl) ?_
         · as_aux_lemma => kernel_rfl
         rintro ⟨m29, hm30⟩
         try dsimp only at hm30
         refine HKEEP (js := [0, 0]) rfl (HPURE (js := [0, 0]) 19 [(0, .v (p)), (4, .e (some ⟨b22, 0, none⟩) 0 0), (6, I (if 1 > (ho.rules.seats.length : Int) then 1 else (ho.rules.seats.length : Int))), (61, .v (.agg #[vi 1, vi (wr (1 + m23)), vi m25, vi (-1), vi (wr (1 + m27)), vi m29]))] ?_ ?_ rfl ?_)
         iterate 2 (as_aux_lemma => kernel_rfl)
         refine HALL [20] ?_ (by decide) ?_
         · as_aux_lemma => kernel_rfl
         refine RUNO [(0, .v (p)), (4, .e (some ⟨b22, 0, none⟩) 0 0), (6, I (if 1 > (ho.rules.seats.length : Int) then 1 else (ho.rules.seats.length : Int))), (7, .p 0 0), (61, .v (.agg #[vi 1, vi (wr (1 + m23)), vi m25, vi (-1), vi (wr (1 + m27)), vi m29]))] [(30, [vi 0, vi 0, vi 0, vi 0, vi 0, vi 0])] ?_ ?_
         · as_aux_lemma => kernel_rfl
         refine HKEEP (js := [0, 0]) rfl (HALL [21] ?_ (by decide) ?_)
         · as_aux_lemma => kernel_rfl
         refine RUNO [(0, .v (p)), (4, .e (some ⟨b22, 0, none⟩) 0 0), (6, I (if 1 > (ho.rules.seats.length : Int) then 1 else (ho.rules.seats.length : Int))), (7, .p 0 0)] [(30, [vi 1, vi (wr (1 + m23)), vi m25, vi (-1), vi (wr (1 + m27)), vi m29])] ?_ ?_
         · as_aux_lemma => kernel_rfl
         refine HKEEP (js := [0, 0]) rfl (HEND ?_ ?_)
         · as_aux_lemma => kernel_rfl
         refine IMPORT (L0 := [(55, [.slice ho_rules_seats_a ho.rules.seats.length ho_rules_seats_c, vi ho.rules.tiers, vi ho.rules.room, vi ho.rules.size, vi ho.rules.period, vi ho.rules.window, vi ho.rules.rest, vi ho.rules.tries, vi ho.rules.crew, vi ho.now, vi ho.turn, .slice ho_parties_a ho.parties.length ho_parties_c, .slice ho_cabins_a ho.cabins.length ho_cabins_c, .slice ho_todo_a ho.todo.length ho_todo_c, .slice ho_jobs_a ho.jobs.length ho_jobs_c]), (30, [vi 0, vi 0, vi 0, vi 0, vi 0, vi 0])]) (L1 := [(30, [vi 1, vi (wr (1 + m23)), vi m25, vi (-1), vi (wr (1 + m27)), vi m29])]) [b21, b22] rfl [0, 0] _ rfl [(0, .v (p)), (4, .p 1 0), (6, I (if 1 > (ho.rules.seats.length : Int) then 1 else (ho.rules.seats.length : Int))), (7, .p 2 0)] ?_ ?_ ?_
         iterate 2 (as_aux_lemma => kernel_rfl)
         refine JBACK (wr (1 + m23), m25, wr (1 + m27), m29) [0, 4, 6, 7] 3 [0] _ trivial ?_ rfl rfl rfl
         · as_aux_lemma => kernel_rfl
        ·
         refine RUNO [(0, .v (p)), (4, .e (some ⟨b22, 0, none⟩) 0 0), (6, I (if 1 > (ho.rules.seats.length : Int) then 1 else (ho.rules.seats.length : Int))), (7, .p 0 0), (44, I (wr (1 + m23))), (47, I m25), (54, I (wr (1 + m27))), (55, .v (p)), (59, I (if 1 > ho.rules.tiers then 1 else ho.rules.tiers))] [(30, [vi 0, vi 0, vi 0, vi 0, vi 0, vi 0])] ?_ ?_
         · as_aux_lemma => kernel_rfl
         refine HKEEP (js := [0, 0]) rfl (HALL [18] ?_ (by decide) ?_)
         · as_aux_lemma => kernel_rfl
         refine CALL 29 #[p, vi (if 1 > ho.rules.tiers then 1 else ho.rules.tiers)] (some 60) ?_ [2] [curA (d) p] _ rfl (⟨{x : Int // 0 ≤ x ∧ ((if 1 > ho.rules.tiers then 1 else ho.rules.tiers) ≤ 0 → x = 0) ∧ (0 < (if 1 > ho.rules.tiers then 1 else ho.rules.tiers) → x < (if 1 > ho.rules.tiers then 1 else ho.rules.tiers))}, fun q => vi q.1, fun q => [curA (d) p]⟩) (fun w hw => l1Below_c w (d) (hd.fr hw.fr hS) p (if 1 > ho.rules.tiers then 1 else ho.rules.tiers)) (NO rfl) ?_
         · as_aux_lemma => kernel_rfl
         rintro ⟨m31, hm32⟩
         try dsimp only at hm32
         refine HKEEP (js := [0, 0]) rfl (HPURE (js := [0, 0]) 19 [(0, .v (p)), (4, .e (some ⟨b22, 0, none⟩) 0 0), (6, I (if 1 > (ho.rules.seats.length : Int) then 1 else (ho.rules.seats.length : Int))), (7, .p 0 0), (61, .v (.agg #[vi 1, vi (wr (1 + m23)), vi m25, vi (-1), vi (wr (1 + m27)), vi m31]))] ?_ ?_ rfl ?_)
         iterate 2 (as_aux_lemma => kernel_rfl)
         refine HALL [21] ?_ (by decide) ?_
         · as_aux_lemma => kernel_rfl
         refine RUNO [(0, .v (p)), (4, .e (some ⟨b22, 0, none⟩) 0 0), (6, I (if 1 > (ho.rules.seats.length : Int) then 1 else (ho.rules.seats.length : Int))), (7, .p 0 0)] [(30, [vi 1, vi (wr (1 + m23)), vi m25, vi (-1), vi (wr (1 + m27)), vi m31])] ?_ ?_
         · as_aux_lemma => kernel_rfl
         refine HKEEP (js := [0, 0]) rfl (HEND ?_ ?_)
         · as_aux_lemma => kernel_rfl
         refine IMPORT (L0 := [(55, [.slice ho_rules_seats_a ho.rules.seats.length ho_rules_seats_c, vi ho.rules.tiers, vi ho.rules.room, vi ho.rules.size, vi ho.rules.period, vi ho.rules.window, vi ho.rules.rest, vi ho.rules.tries, vi ho.rules.crew, vi ho.now, vi ho.turn, .slice ho_parties_a ho.parties.length ho_parties_c, .slice ho_cabins_a ho.cabins.length ho_cabins_c, .slice ho_todo_a ho.todo.length ho_todo_c, .slice ho_jobs_a ho.jobs.length ho_jobs_c]), (30, [vi 0, vi 0, vi 0, vi 0, vi 0, vi 0])]) (L1 := [(30, [vi 1, vi (wr (1 + m23)), vi m25, vi (-1), vi (wr (1 + m27)), vi m31])]) [b21, b22] rfl [0, 0] _ rfl [(0, .v (p)), (4, .p 1 0), (6, I (if 1 > (ho.rules.seats.length : Int) then 1 else (ho.rules.seats.length : Int))), (7, .p 2 0)] ?_ ?_ ?_
         iterate 2 (as_aux_lemma => kernel_rfl)
         refine JBACK (wr (1 + m23), m25, wr (1 + m27), m31) [0, 4, 6, 7] 3 [0] _ trivial ?_ rfl rfl rfl
         · as_aux_lemma => kernel_rfl
       ·
        refine RUNO [(0, .v (p)), (4, .e (some ⟨b22, 0, none⟩) 0 0), (6, I (if 1 > (ho.rules.seats.length : Int) then 1 else (ho.rules.seats.length : Int))), (7, .p 0 0), (44, I (wr (1 + m23))), (47, I m25), (54, I (wr (1 + m27))), (55, .v (p)), (58, I ho.rules.tiers)] [(30, [vi 0, vi 0, vi 0, vi 0, vi 0, vi 0])] ?_ ?_
        · as_aux_lemma => kernel_rfl
        refine HKEEP (js := [0, 0]) rfl (HALL [17] ?_ (by decide) ?_)
        · as_aux_lemma => kernel_rfl
        refine CALL 55 #[vi 1, vi ho.rules.tiers] (some 59) ?_ [] [] _ rfl (RV (vi (if 1 > ho.rules.tiers then 1 else ho.rules.tiers))) (fun w hw => l1Max_c w 1 ho.rules.tiers) (NO rfl) ?_
        · as_aux_lemma => kernel_rfl
        rintro ⟨⟩
        refine HKEEP (js := [0, 0]) rfl (HALL [18] ?_ (by decide) ?_)
        · as_aux_lemma => kernel_rfl
        refine CALL 29 #[p, vi (if 1 > ho.rules.tiers then 1 else ho.rules.tiers)] (some 60) ?_ [2] [curA (d) p] _ rfl (⟨{x : Int // 0 ≤ x ∧ ((if 1 > ho.rules.tiers then 1 else ho.rules.tiers) ≤ 0 → x = 0) ∧ (0 < (if 1 > ho.rules.tiers then 1 else ho.rules.tiers) → x < (if 1 > ho.rules.tiers then 1 else ho.rules.tiers))}, fun q => vi q.1, fun q => [curA (d) p]⟩) (fun w hw => l1Below_c w (d) (hd.fr hw.fr hS) p (if 1 > ho.rules.tiers then 1 else ho.rules.tiers)) (NO rfl) ?_
        · as_aux_lemma => kernel_rfl
        rintro ⟨m33, hm34⟩
        try dsimp only at hm34
        refine HKEEP (js := [0, 0]) rfl (HPURE (js := [0, 0]) 19 [(0, .v (p)), (4, .e (some ⟨b22, 0, none⟩) 0 0), (6, I (if 1 > (ho.rules.seats.length : Int) then 1 else (ho.rules.seats.length : Int))), (7, .p 0 0), (61, .v (.agg #[vi 1, vi (wr (1 + m23)), vi m25, vi (-1), vi (wr (1 + m27)), vi m33]))] ?_ ?_ rfl ?_)
        iterate 2 (as_aux_lemma => kernel_rfl)
        refine HALL [21] ?_ (by decide) ?_
        · as_aux_lemma => kernel_rfl
        refine RUNO [(0, .v (p)), (4, .e (some ⟨b22, 0, none⟩) 0 0), (6, I (if 1 > (ho.rules.seats.length : Int) then 1 else (ho.rules.seats.length : Int))), (7, .p 0 0)] [(30, [vi 1, vi (wr (1 + m23)), vi m25, vi (-1), vi (wr (1 + m27)), vi m33])] ?_ ?_
        · as_aux_lemma => kernel_rfl
        refine HKEEP (js := [0, 0]) rfl (HEND ?_ ?_)
        · as_aux_lemma => kernel_rfl
        refine IMPORT (L0 := [(55, [.slice ho_rules_seats_a ho.rules.seats.length ho_rules_seats_c, vi ho.rules.tiers, vi ho.rules.room, vi ho.rules.size, vi ho.rules.period, vi ho.rules.window, vi ho.rules.rest, vi ho.rules.tries, vi ho.rules.crew, vi ho.now, vi ho.turn, .slice ho_parties_a ho.parties.length ho_parties_c, .slice ho_cabins_a ho.cabins.length ho_cabins_c, .slice ho_todo_a ho.todo.length ho_todo_c, .slice ho_jobs_a ho.jobs.length ho_jobs_c]), (30, [vi 0, vi 0, vi 0, vi 0, vi 0, vi 0])]) (L1 := [(30, [vi 1, vi (wr (1 + m23)), vi m25, vi (-1), vi (wr (1 + m27)), vi m33])]) [b21, b22] rfl [0, 0] _ rfl [(0, .v (p)), (4, .p 1 0), (6, I (if 1 > (ho.rules.seats.length : Int) then 1 else (ho.rules.seats.length : Int))), (7, .p 2 0)] ?_ ?_ ?_
        iterate 2 (as_aux_lemma => kernel_rfl)
        refine JBACK (wr (1 + m23), m25, wr (1 + m27), m33) [0, 4, 6, 7] 3 [0] _ trivial ?_ rfl rfl rfl
        · as_aux_lemma => kernel_rfl
      ·
       refine RUNO [(0, .v (p)), (4, .e (some ⟨b22, 0, none⟩) 0 0), (6, I (if 1 > (ho.rules.seats.length : Int) then 1 else (ho.rules.seats.length : Int))), (7, .p 0 0), (44, I (wr (1 + m23))), (47, I m25), (48, .v (p)), (52, I (if 1 > ho.rules.size then 1 else ho.rules.size)), (55, .v (p)), (58, I ho.rules.tiers)] [(30, [vi 0, vi 0, vi 0, vi 0, vi 0, vi 0])] ?_ ?_
       · as_aux_lemma => kernel_rfl
       refine HKEEP (js := [0, 0]) rfl (HALL [11] ?_ (by decide) ?_)
       · as_aux_lemma => kernel_rfl
       refine CALL 29 #[p, vi (if 1 > ho.rules.size then 1 else ho.rules.size)] (some 53) ?_ [2] [curA (d) p] _ rfl (⟨{x : Int // 0 ≤ x ∧ ((if 1 > ho.rules.size then 1 else ho.rules.size) ≤ 0 → x = 0) ∧ (0 < (if 1 > ho.rules.size then 1 else ho.rules.size) → x < (if 1 > ho.rules.size then 1 else ho.rules.size))}, fun q => vi q.1, fun q => [curA (d) p]⟩) (fun w hw => l1Below_c w (d) (hd.fr hw.fr hS) p (if 1 > ho.rules.size then 1 else ho.rules.size)) (NO rfl) ?_
       · as_aux_lemma => kernel_rfl
       rintro ⟨m35, hm36⟩
       try dsimp only at hm36
       refine HKEEP (js := [0, 0]) rfl (HPURE (js := [0, 0]) 12 [(0, .v (p)), (4, .e (some ⟨b22, 0, none⟩) 0 0), (6, I (if 1 > (ho.rules.seats.length : Int) then 1 else (ho.rules.seats.length : Int))), (7, .p 0 0), (44, I (wr (1 + m23))), (47, I m25), (54, I (wr (1 + m35))), (55, .v (p)), (58, I ho.rules.tiers)] ?_ ?_ rfl ?_)
       iterate 2 (as_aux_lemma => kernel_rfl)
       refine HALL [17] ?_ (by decide) ?_
       · as_aux_lemma => kernel_rfl
       refine CALL 55 #[vi 1, vi ho.rules.tiers] (some 59) ?_ [] [] _ rfl (RV (vi (if 1 > ho.rules.tiers then 1 else ho.rules.tiers))) (fun w hw => l1Max_c w 1 ho.rules.tiers) (NO rfl) ?_
       · as_aux_lemma => kernel_rfl
       rintro ⟨⟩
       refine HKEEP (js := [0, 0]) rfl (HALL [18] ?_ (by decide) ?_)
       · as_aux_lemma => kernel_rfl
       refine CALL 29 #[p, vi (if 1 > ho.rules.tiers then 1 else ho.rules.tiers)] (some 60) ?_ [2] [curA (d) p] _ rfl (⟨{x : Int // 0 ≤ x ∧ ((if 1 > ho.rules.tiers then 1 else ho.rules.tiers) ≤ 0 → x = 0) ∧ (0 < (if 1 > ho.rules.tiers then 1 else ho.rules.tiers) → x < (if 1 > ho.rules.tiers then 1 else ho.rules.tiers))}, fun q => vi q.1, fun q => [curA (d) p]⟩) (fun w hw => l1Below_c w (d) (hd.fr hw.fr hS) p (if 1 > ho.rules.tiers then 1 else ho.rules.tiers)) (NO rfl) ?_
       · as_aux_lemma => kernel_rfl
       rintro ⟨m37, hm38⟩
       try dsimp only at hm38
       refine HKEEP (js := [0, 0]) rfl (HPURE (js := [0, 0]) 19 [(0, .v (p)), (4, .e (some ⟨b22, 0, none⟩) 0 0), (6, I (if 1 > (ho.rules.seats.length : Int) then 1 else (ho.rules.seats.length : Int))), (7, .p 0 0), (61, .v (.agg #[vi 1, vi (wr (1 + m23)), vi m25, vi (-1), vi (wr (1 + m35)), vi m37]))] ?_ ?_ rfl ?_)
       iterate 2 (as_aux_lemma => kernel_rfl)
       refine HALL [21] ?_ (by decide) ?_
       · as_aux_lemma => kernel_rfl
       refine RUNO [(0, .v (p)), (4, .e (some ⟨b22, 0, none⟩) 0 0), (6, I (if 1 > (ho.rules.seats.length : Int) then 1 else (ho.rules.seats.length : Int))), (7, .p 0 0)] [(30, [vi 1, vi (wr (1 + m23)), vi m25, vi (-1), vi (wr (1 + m35)), vi m37])] ?_ ?_
       · as_aux_lemma => kernel_rfl
       refine HKEEP (js := [0, 0]) rfl (HEND ?_ ?_)
       · as_aux_lemma => kernel_rfl
       refine IMPORT (L0 := [(55, [.slice ho_rules_seats_a ho.rules.seats.length ho_rules_seats_c, vi ho.rules.tiers, vi ho.rules.room, vi ho.rules.size, vi ho.rules.period, vi ho.rules.window, vi ho.rules.rest, vi ho.rules.tries, vi ho.rules.crew, vi ho.now, vi ho.turn, .slice ho_parties_a ho.parties.length ho_parties_c, .slice ho_cabins_a ho.cabins.length ho_cabins_c, .slice ho_todo_a ho.todo.length ho_todo_c, .slice ho_jobs_a ho.jobs.length ho_jobs_c]), (30, [vi 0, vi 0, vi 0, vi 0, vi 0, vi 0])]) (L1 := [(30, [vi 1, vi (wr (1 + m23)), vi m25, vi (-1), vi (wr (1 + m35)), vi m37])]) [b21, b22] rfl [0, 0] _ rfl [(0, .v (p)), (4, .p 1 0), (6, I (if 1 > (ho.rules.seats.length : Int) then 1 else (ho.rules.seats.length : Int))), (7, .p 2 0)] ?_ ?_ ?_
       iterate 2 (as_aux_lemma => kernel_rfl)
       refine JBACK (wr (1 + m23), m25, wr (1 + m35), m37) [0, 4, 6, 7] 3 [0] _ trivial ?_ rfl rfl rfl
       · as_aux_lemma => kernel_rfl
     ·
      refine RUNO [(0, .v (p)), (4, .e (some ⟨b22, 0, none⟩) 0 0), (6, I (if 1 > (ho.rules.seats.length : Int) then 1 else (ho.rules.seats.length : Int))), (7, .p 0 0), (44, I (wr (1 + m23))), (47, I m25), (48, .v (p)), (51, I ho.rules.size), (55, .v (p)), (58, I ho.rules.tiers)] [(30, [vi 0, vi 0, vi 0, vi 0, vi 0, vi 0])] ?_ ?_
      · as_aux_lemma => kernel_rfl
      refine HKEEP (js := [0, 0]) rfl (HALL [10] ?_ (by decide) ?_)
      · as_aux_lemma => kernel_rfl
      refine CALL 55 #[vi 1, vi ho.rules.size] (some 52) ?_ [] [] _ rfl (RV (vi (if 1 > ho.rules.size then 1 else ho.rules.size))) (fun w hw => l1Max_c w 1 ho.rules.size) (NO rfl) ?_
      · as_aux_lemma => kernel_rfl
      rintro ⟨⟩
      refine HKEEP (js := [0, 0]) rfl (HALL [11] ?_ (by decide) ?_)
      · as_aux_lemma => kernel_rfl
      refine CALL 29 #[p, vi (if 1 > ho.rules.size then 1 else ho.rules.size)] (some 53) ?_ [2] [curA (d) p] _ rfl (⟨{x : Int // 0 ≤ x ∧ ((if 1 > ho.rules.size then 1 else ho.rules.size) ≤ 0 → x = 0) ∧ (0 < (if 1 > ho.rules.size then 1 else ho.rules.size) → x < (if 1 > ho.rules.size then 1 else ho.rules.size))}, fun q => vi q.1, fun q => [curA (d) p]⟩) (fun w hw => l1Below_c w (d) (hd.fr hw.fr hS) p (if 1 > ho.rules.size then 1 else ho.rules.size)) (NO rfl) ?_
      · as_aux_lemma => kernel_rfl
      rintro ⟨m39, hm40⟩
      try dsimp only at hm40
      refine HKEEP (js := [0, 0]) rfl (HPURE (js := [0, 0]) 12 [(0, .v (p)), (4, .e (some ⟨b22, 0, none⟩) 0 0), (6, I (if 1 > (ho.rules.seats.length : Int) then 1 else (ho.rules.seats.length : Int))), (7, .p 0 0), (44, I (wr (1 + m23))), (47, I m25), (54, I (wr (1 + m39))), (55, .v (p)), (58, I ho.rules.tiers)] ?_ ?_ rfl ?_)
      iterate 2 (as_aux_lemma => kernel_rfl)
      refine HALL [17] ?_ (by decide) ?_
      · as_aux_lemma => kernel_rfl
      refine CALL 55 #[vi 1, vi ho.rules.tiers] (some 59) ?_ [] [] _ rfl (RV (vi (if 1 > ho.rules.tiers then 1 else ho.rules.tiers))) (fun w hw => l1Max_c w 1 ho.rules.tiers) (NO rfl) ?_
      · as_aux_lemma => kernel_rfl
      rintro ⟨⟩
      refine HKEEP (js := [0, 0]) rfl (HALL [18] ?_ (by decide) ?_)
      · as_aux_lemma => kernel_rfl
      refine CALL 29 #[p, vi (if 1 > ho.rules.tiers then 1 else ho.rules.tiers)] (some 60) ?_ [2] [curA (d) p] _ rfl (⟨{x : Int // 0 ≤ x ∧ ((if 1 > ho.rules.tiers then 1 else ho.rules.tiers) ≤ 0 → x = 0) ∧ (0 < (if 1 > ho.rules.tiers then 1 else ho.rules.tiers) → x < (if 1 > ho.rules.tiers then 1 else ho.rules.tiers))}, fun q => vi q.1, fun q => [curA (d) p]⟩) (fun w hw => l1Below_c w (d) (hd.fr hw.fr hS) p (if 1 > ho.rules.tiers then 1 else ho.rules.tiers)) (NO rfl) ?_
      · as_aux_lemma => kernel_rfl
      rintro ⟨m41, hm42⟩
      try dsimp only at hm42
      refine HKEEP (js := [0, 0]) rfl (HPURE (js := [0, 0]) 19 [(0, .v (p)), (4, .e (some ⟨b22, 0, none⟩) 0 0), (6, I (if 1 > (ho.rules.seats.length : Int) then 1 else (ho.rules.seats.length : Int))), (7, .p 0 0), (61, .v (.agg #[vi 1, vi (wr (1 + m23)), vi m25, vi (-1), vi (wr (1 + m39)), vi m41]))] ?_ ?_ rfl ?_)
      iterate 2 (as_aux_lemma => kernel_rfl)
      refine HALL [21] ?_ (by decide) ?_
      · as_aux_lemma => kernel_rfl
      refine RUNO [(0, .v (p)), (4, .e (some ⟨b22, 0, none⟩) 0 0), (6, I (if 1 > (ho.rules.seats.length : Int) then 1 else (ho.rules.seats.length : Int))), (7, .p 0 0)] [(30, [vi 1, vi (wr (1 + m23)), vi m25, vi (-1), vi (wr (1 + m39)), vi m41])] ?_ ?_
      · as_aux_lemma => kernel_rfl
      refine HKEEP (js := [0, 0]) rfl (HEND ?_ ?_)
      · as_aux_lemma => kernel_rfl
      refine IMPORT (L0 := [(55, [.slice ho_rules_seats_a ho.rules.seats.length ho_rules_seats_c, vi ho.rules.tiers, vi ho.rules.room, vi ho.rules.size, vi ho.rules.period, vi ho.rules.window, vi ho.rules.rest, vi ho.rules.tries, vi ho.rules.crew, vi ho.now, vi ho.turn, .slice ho_parties_a ho.parties.length ho_parties_c, .slice ho_cabins_a ho.cabins.length ho_cabins_c, .slice ho_todo_a ho.todo.length ho_todo_c, .slice ho_jobs_a ho.jobs.length ho_jobs_c]), (30, [vi 0, vi 0, vi 0, vi 0, vi 0, vi 0])]) (L1 := [(30, [vi 1, vi (wr (1 + m23)), vi m25, vi (-1), vi (wr (1 + m39)), vi m41])]) [b21, b22] rfl [0, 0] _ rfl [(0, .v (p)), (4, .p 1 0), (6, I (if 1 > (ho.rules.seats.length : Int) then 1 else (ho.rules.seats.length : Int))), (7, .p 2 0)] ?_ ?_ ?_
      iterate 2 (as_aux_lemma => kernel_rfl)
      refine JBACK (wr (1 + m23), m25, wr (1 + m39), m41) [0, 4, 6, 7] 3 [0] _ trivial ?_ rfl rfl rfl
      · as_aux_lemma => kernel_rfl
    ·
     refine RUNO [(0, .v (p)), (4, .e (some ⟨b22, 0, none⟩) 0 0), (6, I (if 1 > (ho.rules.seats.length : Int) then 1 else (ho.rules.seats.length : Int))), (7, .p 0 0), (44, I (wr (1 + m23))), (45, .v (p)), (46, I (if 1 > (ho.rules.seats.length : Int) then 1 else (ho.rules.seats.length : Int))), (48, .v (p)), (51, I ho.rules.size), (55, .v (p)), (58, I ho.rules.tiers)] [(30, [vi 0, vi 0, vi 0, vi 0, vi 0, vi 0])] ?_ ?_
     · as_aux_lemma => kernel_rfl
     refine HKEEP (js := [0, 0]) rfl (HALL [5] ?_ (by decide) ?_)
     · as_aux_lemma => kernel_rfl
     refine CALL 29 #[p, vi (if 1 > (ho.rules.seats.length : Int) then 1 else (ho.rules.seats.length : Int))] (some 47) ?_ [2] [curA (d) p] _ rfl (⟨{x : Int // 0 ≤ x ∧ ((if 1 > (ho.rules.seats.length : Int) then 1 else (ho.rules.seats.length : Int)) ≤ 0 → x = 0) ∧ (0 < (if 1 > (ho.rules.seats.length : Int) then 1 else (ho.rules.seats.length : Int)) → x < (if 1 > (ho.rules.seats.length : Int) then 1 else (ho.rules.seats.length : Int)))}, fun q => vi q.1, fun q => [curA (d) p]⟩) (fun w hw => l1Below_c w (d) (hd.fr hw.fr hS) p (if 1 > (ho.rules.seats.length : Int) then 1 else (ho.rules.seats.length : Int))) (NO rfl) ?_
     · as_aux_lemma => kernel_rfl
     rintro ⟨m43, hm44⟩
     try dsimp only at hm44
     refine HKEEP (js := [0, 0]) rfl (HALL [10] ?_ (by decide) ?_)
     · as_aux_lemma => kernel_rfl
     refine CALL 55 #[vi 1, vi ho.rules.size] (some 52) ?_ [] [] _ rfl (RV (vi (if 1 > ho.rules.size then 1 else ho.rules.size))) (fun w hw => l1Max_c w 1 ho.rules.size) (NO rfl) ?_
     · as_aux_lemma => kernel_rfl
     rintro ⟨⟩
     refine HKEEP (js := [0, 0]) rfl (HALL [11] ?_ (by decide) ?_)
     · as_aux_lemma => kernel_rfl
     refine CALL 29 #[p, vi (if 1 > ho.rules.size then 1 else ho.rules.size)] (some 53) ?_ [2] [curA (d) p] _ rfl (⟨{x : Int // 0 ≤ x ∧ ((if 1 > ho.rules.size then 1 else ho.rules.size) ≤ 0 → x = 0) ∧ (0 < (if 1 > ho.rules.size then 1 else ho.rules.size) → x < (if 1 > ho.rules.size then 1 else ho.rules.size))}, fun q => vi q.1, fun q => [curA (d) p]⟩) (fun w hw => l1Below_c w (d) (hd.fr hw.fr hS) p (if 1 > ho.rules.size then 1 else ho.rules.size)) (NO rfl) ?_
     · as_aux_lemma => kernel_rfl
     rintro ⟨m45, hm46⟩
     try dsimp only at hm46
     refine HKEEP (js := [0, 0]) rfl (HPURE (js := [0, 0]) 12 [(0, .v (p)), (4, .e (some ⟨b22, 0, none⟩) 0 0), (6, I (if 1 > (ho.rules.seats.length : Int) then 1 else (ho.rules.seats.length : Int))), (7, .p 0 0), (44, I (wr (1 + m23))), (47, I m43), (54, I (wr (1 + m45))), (55, .v (p)), (58, I ho.rules.tiers)] ?_ ?_ rfl ?_)
     iterate 2 (as_aux_lemma => kernel_rfl)
     refine HALL [17] ?_ (by decide) ?_
     · as_aux_lemma => kernel_rfl
     refine CALL 55 #[vi 1, vi ho.rules.tiers] (some 59) ?_ [] [] _ rfl (RV (vi (if 1 > ho.rules.tiers then 1 else ho.rules.tiers))) (fun w hw => l1Max_c w 1 ho.rules.tiers) (NO rfl) ?_
     · as_aux_lemma => kernel_rfl
     rintro ⟨⟩
     refine HKEEP (js := [0, 0]) rfl (HALL [18] ?_ (by decide) ?_)
     · as_aux_lemma => kernel_rfl
     refine CALL 29 #[p, vi (if 1 > ho.rules.tiers then 1 else ho.rules.tiers)] (some 60) ?_ [2] [curA (d) p] _ rfl (⟨{x : Int // 0 ≤ x ∧ ((if 1 > ho.rules.tiers then 1 else ho.rules.tiers) ≤ 0 → x = 0) ∧ (0 < (if 1 > ho.rules.tiers then 1 else ho.rules.tiers) → x < (if 1 > ho.rules.tiers then 1 else ho.rules.tiers))}, fun q => vi q.1, fun q => [curA (d) p]⟩) (fun w hw => l1Below_c w (d) (hd.fr hw.fr hS) p (if 1 > ho.rules.tiers then 1 else ho.rules.tiers)) (NO rfl) ?_
     · as_aux_lemma => kernel_rfl
     rintro ⟨m47, hm48⟩
     try dsimp only at hm48
     refine HKEEP (js := [0, 0]) rfl (HPURE (js := [0, 0]) 19 [(0, .v (p)), (4, .e (some ⟨b22, 0, none⟩) 0 0), (6, I (if 1 > (ho.rules.seats.length : Int) then 1 else (ho.rules.seats.length : Int))), (7, .p 0 0), (61, .v (.agg #[vi 1, vi (wr (1 + m23)), vi m43, vi (-1), vi (wr (1 + m45)), vi m47]))] ?_ ?_ rfl ?_)
     iterate 2 (as_aux_lemma => kernel_rfl)
     refine HALL [21] ?_ (by decide) ?_
     · as_aux_lemma => kernel_rfl
     refine RUNO [(0, .v (p)), (4, .e (some ⟨b22, 0, none⟩) 0 0), (6, I (if 1 > (ho.rules.seats.length : Int) then 1 else (ho.rules.seats.length : Int))), (7, .p 0 0)] [(30, [vi 1, vi (wr (1 + m23)), vi m43, vi (-1), vi (wr (1 + m45)), vi m47])] ?_ ?_
     · as_aux_lemma => kernel_rfl
     refine HKEEP (js := [0, 0]) rfl (HEND ?_ ?_)
     · as_aux_lemma => kernel_rfl
     refine IMPORT (L0 := [(55, [.slice ho_rules_seats_a ho.rules.seats.length ho_rules_seats_c, vi ho.rules.tiers, vi ho.rules.room, vi ho.rules.size, vi ho.rules.period, vi ho.rules.window, vi ho.rules.rest, vi ho.rules.tries, vi ho.rules.crew, vi ho.now, vi ho.turn, .slice ho_parties_a ho.parties.length ho_parties_c, .slice ho_cabins_a ho.cabins.length ho_cabins_c, .slice ho_todo_a ho.todo.length ho_todo_c, .slice ho_jobs_a ho.jobs.length ho_jobs_c]), (30, [vi 0, vi 0, vi 0, vi 0, vi 0, vi 0])]) (L1 := [(30, [vi 1, vi (wr (1 + m23)), vi m43, vi (-1), vi (wr (1 + m45)), vi m47])]) [b21, b22] rfl [0, 0] _ rfl [(0, .v (p)), (4, .p 1 0), (6, I (if 1 > (ho.rules.seats.length : Int) then 1 else (ho.rules.seats.length : Int))), (7, .p 2 0)] ?_ ?_ ?_
     iterate 2 (as_aux_lemma => kernel_rfl)
     refine JBACK (wr (1 + m23), m43, wr (1 + m45), m47) [0, 4, 6, 7] 3 [0] _ trivial ?_ rfl rfl rfl
     · as_aux_lemma => kernel_rfl
   ·
    refine RUNO [(0, .v (p)), (4, .e (some ⟨b22, 0, none⟩) 0 0), (6, I (if 1 > (ho.rules.seats.length : Int) then 1 else (ho.rules.seats.length : Int))), (7, .p 0 0), (42, .v (p)), (45, .v (p)), (46, I (if 1 > (ho.rules.seats.length : Int) then 1 else (ho.rules.seats.length : Int))), (48, .v (p)), (51, I ho.rules.size), (55, .v (p)), (58, I ho.rules.tiers)] [(30, [vi 0, vi 0, vi 0, vi 0, vi 0, vi 0])] ?_ ?_
    · as_aux_lemma => kernel_rfl
    refine HKEEP (js := [0, 0]) rfl (HALL [1] ?_ (by decide) ?_)
    · as_aux_lemma => kernel_rfl
    refine CALL 29 #[p, vi 14] (some 43) ?_ [2] [curA (d) p] _ rfl (⟨{x : Int // 0 ≤ x ∧ (14 ≤ 0 → x = 0) ∧ (0 < 14 → x < 14)}, fun q => vi q.1, fun q => [curA (d) p]⟩) (fun w hw => l1Below_c w (d) (hd.fr hw.fr hS) p 14) (NO rfl) ?_
    · as_aux_lemma => kernel_rfl
    rintro ⟨m49, hm50⟩
    try dsimp only at hm50
    refine HKEEP (js := [0, 0]) rfl (HPURE (js := [0, 0]) 2 [(0, .v (p)), (4, .e (some ⟨b22, 0, none⟩) 0 0), (6, I (if 1 > (ho.rules.seats.length : Int) then 1 else (ho.rules.seats.length : Int))), (7, .p 0 0), (44, I (wr (1 + m49))), (45, .v (p)), (46, I (if 1 > (ho.rules.seats.length : Int) then 1 else (ho.rules.seats.length : Int))), (48, .v (p)), (51, I ho.rules.size), (55, .v (p)), (58, I ho.rules.tiers)] ?_ ?_ rfl ?_)
    iterate 2 (as_aux_lemma => kernel_rfl)
    refine HALL [5] ?_ (by decide) ?_
    · as_aux_lemma => kernel_rfl
    refine CALL 29 #[p, vi (if 1 > (ho.rules.seats.length : Int) then 1 else (ho.rules.seats.length : Int))] (some 47) ?_ [2] [curA (d) p] _ rfl (⟨{x : Int // 0 ≤ x ∧ ((if 1 > (ho.rules.seats.length : Int) then 1 else (ho.rules.seats.length : Int)) ≤ 0 → x = 0) ∧ (0 < (if 1 > (ho.rules.seats.length : Int) then 1 else (ho.rules.seats.length : Int)) → x < (if 1 > (ho.rules.seats.length : Int) then 1 else (ho.rules.seats.length : Int)))}, fun q => vi q.1, fun q => [curA (d) p]⟩) (fun w hw => l1Below_c w (d) (hd.fr hw.fr hS) p (if 1 > (ho.rules.seats.length : Int) then 1 else (ho.rules.seats.length : Int))) (NO rfl) ?_
    · as_aux_lemma => kernel_rfl
    rintro ⟨m51, hm52⟩
    try dsimp only at hm52
    refine HKEEP (js := [0, 0]) rfl (HALL [10] ?_ (by decide) ?_)
    · as_aux_lemma => kernel_rfl
    refine CALL 55 #[vi 1, vi ho.rules.size] (some 52) ?_ [] [] _ rfl (RV (vi (if 1 > ho.rules.size then 1 else ho.rules.size))) (fun w hw => l1Max_c w 1 ho.rules.size) (NO rfl) ?_
    · as_aux_lemma => kernel_rfl
    rintro ⟨⟩
    refine HKEEP (js := [0, 0]) rfl (HALL [11] ?_ (by decide) ?_)
    · as_aux_lemma => kernel_rfl
    refine CALL 29 #[p, vi (if 1 > ho.rules.size then 1 else ho.rules.size)] (some 53) ?_ [2] [curA (d) p] _ rfl (⟨{x : Int // 0 ≤ x ∧ ((if 1 > ho.rules.size then 1 else ho.rules.size) ≤ 0 → x = 0) ∧ (0 < (if 1 > ho.rules.size then 1 else ho.rules.size) → x < (if 1 > ho.rules.size then 1 else ho.rules.size))}, fun q => vi q.1, fun q => [curA (d) p]⟩) (fun w hw => l1Below_c w (d) (hd.fr hw.fr hS) p (if 1 > ho.rules.size then 1 else ho.rules.size)) (NO rfl) ?_
    · as_aux_lemma => kernel_rfl
    rintro ⟨m53, hm54⟩
    try dsimp only at hm54
    refine HKEEP (js := [0, 0]) rfl (HPURE (js := [0, 0]) 12 [(0, .v (p)), (4, .e (some ⟨b22, 0, none⟩) 0 0), (6, I (if 1 > (ho.rules.seats.length : Int) then 1 else (ho.rules.seats.length : Int))), (7, .p 0 0), (44, I (wr (1 + m49))), (47, I m51), (54, I (wr (1 + m53))), (55, .v (p)), (58, I ho.rules.tiers)] ?_ ?_ rfl ?_)
    iterate 2 (as_aux_lemma => kernel_rfl)
    refine HALL [17] ?_ (by decide) ?_
    · as_aux_lemma => kernel_rfl
    refine CALL 55 #[vi 1, vi ho.rules.tiers] (some 59) ?_ [] [] _ rfl (RV (vi (if 1 > ho.rules.tiers then 1 else ho.rules.tiers))) (fun w hw => l1Max_c w 1 ho.rules.tiers) (NO rfl) ?_
    · as_aux_lemma => kernel_rfl
    rintro ⟨⟩
    refine HKEEP (js := [0, 0]) rfl (HALL [18] ?_ (by decide) ?_)
    · as_aux_lemma => kernel_rfl
    refine CALL 29 #[p, vi (if 1 > ho.rules.tiers then 1 else ho.rules.tiers)] (some 60) ?_ [2] [curA (d) p] _ rfl (⟨{x : Int // 0 ≤ x ∧ ((if 1 > ho.rules.tiers then 1 else ho.rules.tiers) ≤ 0 → x = 0) ∧ (0 < (if 1 > ho.rules.tiers then 1 else ho.rules.tiers) → x < (if 1 > ho.rules.tiers then 1 else ho.rules.tiers))}, fun q => vi q.1, fun q => [curA (d) p]⟩) (fun w hw => l1Below_c w (d) (hd.fr hw.fr hS) p (if 1 > ho.rules.tiers then 1 else ho.rules.tiers)) (NO rfl) ?_
    · as_aux_lemma => kernel_rfl
    rintro ⟨m55, hm56⟩
    try dsimp only at hm56
    refine HKEEP (js := [0, 0]) rfl (HPURE (js := [0, 0]) 19 [(0, .v (p)), (4, .e (some ⟨b22, 0, none⟩) 0 0), (6, I (if 1 > (ho.rules.seats.length : Int) then 1 else (ho.rules.seats.length : Int))), (7, .p 0 0), (61, .v (.agg #[vi 1, vi (wr (1 + m49)), vi m51, vi (-1), vi (wr (1 + m53)), vi m55]))] ?_ ?_ rfl ?_)
    iterate 2 (as_aux_lemma => kernel_rfl)
    refine HALL [21] ?_ (by decide) ?_
    · as_aux_lemma => kernel_rfl
    refine RUNO [(0, .v (p)), (4, .e (some ⟨b22, 0, none⟩) 0 0), (6, I (if 1 > (ho.rules.seats.length : Int) then 1 else (ho.rules.seats.length : Int))), (7, .p 0 0)] [(30, [vi 1, vi (wr (1 + m49)), vi m51, vi (-1), vi (wr (1 + m53)), vi m55])] ?_ ?_
    · as_aux_lemma => kernel_rfl
    refine HKEEP (js := [0, 0]) rfl (HEND ?_ ?_)
    · as_aux_lemma => kernel_rfl
    refine IMPORT (L0 := [(55, [.slice ho_rules_seats_a ho.rules.seats.length ho_rules_seats_c, vi ho.rules.tiers, vi ho.rules.room, vi ho.rules.size, vi ho.rules.period, vi ho.rules.window, vi ho.rules.rest, vi ho.rules.tries, vi ho.rules.crew, vi ho.now, vi ho.turn, .slice ho_parties_a ho.parties.length ho_parties_c, .slice ho_cabins_a ho.cabins.length ho_cabins_c, .slice ho_todo_a ho.todo.length ho_todo_c, .slice ho_jobs_a ho.jobs.length ho_jobs_c]), (30, [vi 0, vi 0, vi 0, vi 0, vi 0, vi 0])]) (L1 := [(30, [vi 1, vi (wr (1 + m49)), vi m51, vi (-1), vi (wr (1 + m53)), vi m55])]) [b21, b22] rfl [0, 0] _ rfl [(0, .v (p)), (4, .p 1 0), (6, I (if 1 > (ho.rules.seats.length : Int) then 1 else (ho.rules.seats.length : Int))), (7, .p 2 0)] ?_ ?_ ?_
    iterate 2 (as_aux_lemma => kernel_rfl)
    refine JBACK (wr (1 + m49), m51, wr (1 + m53), m55) [0, 4, 6, 7] 3 [0] _ trivial ?_ rfl rfl rfl
    · as_aux_lemma => kernel_rfl
  rintro ⟨u1, u2, u4, u5⟩ hi57
  try dsimp only at hi57
  refine SEQ (SEQ (REGION [0, 1] rfl (RUN0 1 [1] [(0, .v (p)), (4, .p 1 0), (6, I (if 1 > (ho.rules.seats.length : Int) then 1 else (ho.rules.seats.length : Int))), (7, .p 2 0), (62, .v (p))] ?_ rfl ?_)))
  · as_aux_lemma => kernel_rfl
  refine OPC (CALL 23 #[p, vi 3] (some 63) ?_ [0] [curA (d) p] _ rfl (⟨{x : Bool // True}, fun q => .bool q.1, fun q => [curA (d) p]⟩) (fun w hw => l1Once_c w (d) (hd.fr hw.fr hS) p 3) (NO rfl) ?_)
  · as_aux_lemma => kernel_rfl
  rintro ⟨m58, hm59⟩
  try dsimp only at hm59
  refine ENDOPS (NEXT (IF (m58) ?_ (fun bh60 => ?_) (fun bh60 => ?_)))
  · as_aux_lemma => kernel_rfl
  ·
   have h60 := bh60
   refine REGION [0, 1, 2, 3, 4] rfl (RUN0 2 [2, 3, 4] [(4, .p 1 0), (7, .p 2 0), (64, .v (p)), (65, I (if 1 > (ho.rules.seats.length : Int) then 1 else (ho.rules.seats.length : Int)))] ?_ rfl ?_)
   · as_aux_lemma => kernel_rfl
   refine OPC (CALL 29 #[p, vi (if 1 > (ho.rules.seats.length : Int) then 1 else (ho.rules.seats.length : Int))] (some 66) ?_ [0] [curA (d) p] _ rfl (⟨{x : Int // 0 ≤ x ∧ ((if 1 > (ho.rules.seats.length : Int) then 1 else (ho.rules.seats.length : Int)) ≤ 0 → x = 0) ∧ (0 < (if 1 > (ho.rules.seats.length : Int) then 1 else (ho.rules.seats.length : Int)) → x < (if 1 > (ho.rules.seats.length : Int) then 1 else (ho.rules.seats.length : Int)))}, fun q => vi q.1, fun q => [curA (d) p]⟩) (fun w hw => l1Below_c w (d) (hd.fr hw.fr hS) p (if 1 > (ho.rules.seats.length : Int) then 1 else (ho.rules.seats.length : Int))) (NO rfl) ?_)
   · as_aux_lemma => kernel_rfl
   rintro ⟨m61, hm62⟩
   try dsimp only at hm62
   refine RUN 2 [] [(4, .p 1 0), (7, .p 2 0)] [(55, [.slice ho_rules_seats_a ho.rules.seats.length ho_rules_seats_c, vi ho.rules.tiers, vi ho.rules.room, vi ho.rules.size, vi ho.rules.period, vi ho.rules.window, vi ho.rules.rest, vi ho.rules.tries, vi ho.rules.crew, vi ho.now, vi ho.turn, .slice ho_parties_a ho.parties.length ho_parties_c, .slice ho_cabins_a ho.cabins.length ho_cabins_c, .slice ho_todo_a ho.todo.length ho_todo_c, .slice ho_jobs_a ho.jobs.length ho_jobs_c]), (30, [vi 0, vi 0, vi 0, vi 0, vi 0, vi 0]), (30, [vi 1, vi u1, vi u2, vi m61, vi u4, vi u5])] ?_ rfl ?_
   · as_aux_lemma => kernel_rfl
   refine ENDOPS (NEXT (SEQ (REGION [0, 1] rfl (RUN 2 [] [(4, .p 1 0)] [(55, [.slice ho_rules_seats_a ho.rules.seats.length ho_rules_seats_c, vi ho.rules.tiers, vi ho.rules.room, vi ho.rules.size, vi ho.rules.period, vi ho.rules.window, vi ho.rules.rest, vi ho.rules.tries, vi ho.rules.crew, vi ho.now, vi ho.turn, .slice ho_parties_a ho.parties.length ho_parties_c, .slice ho_cabins_a ho.cabins.length ho_cabins_c, .slice ho_todo_a ho.todo.length ho_todo_c, .slice ho_jobs_a ho.jobs.length ho_jobs_c]), (30, [vi 1, vi u1, vi u2, vi m61, vi u4, vi u5]), (30, [vi 1, vi u1, vi u2, vi m61, vi u4, vi u5])] ?_ rfl ?_))))
   · as_aux_lemma => kernel_rfl
   refine ENDOPS (NEXT (RET (OUTR (PASS trivial (FIN (.agg #[vi 1, vi u1, vi u2, vi m61, vi u4, vi u5]) ?_ ⟨(⟨1, u1, u2, m61, u4, u5⟩ : Req), trivial⟩ ?_ [0] ?_)))))
   · as_aux_lemma => kernel_rfl
   · rfl
   · rfl
  ·
   have h60 := bh60
   refine SKIP (NEXT (SEQ (REGION [0, 1] rfl (RUN 2 [] [(4, .p 1 0)] [(55, [.slice ho_rules_seats_a ho.rules.seats.length ho_rules_seats_c, vi ho.rules.tiers, vi ho.rules.room, vi ho.rules.size, vi ho.rules.period, vi ho.rules.window, vi ho.rules.rest, vi ho.rules.tries, vi ho.rules.crew, vi ho.now, vi ho.turn, .slice ho_parties_a ho.parties.length ho_parties_c, .slice ho_cabins_a ho.cabins.length ho_cabins_c, .slice ho_todo_a ho.todo.length ho_todo_c, .slice ho_jobs_a ho.jobs.length ho_jobs_c]), (30, [vi 1, vi u1, vi u2, vi (-1), vi u4, vi u5]), (30, [vi 1, vi u1, vi u2, vi (-1), vi u4, vi u5])] ?_ rfl ?_))))
   · as_aux_lemma => kernel_rfl
   refine ENDOPS (NEXT (RET (OUTR (PASS trivial (FIN (.agg #[vi 1, vi u1, vi u2, vi (-1), vi u4, vi u5]) ?_ ⟨(⟨1, u1, u2, -1, u4, u5⟩ : Req), trivial⟩ ?_ [0] ?_)))))
   · as_aux_lemma => kernel_rfl
   · rfl
   · rfl
 ·
  have h20 := bh20
  refine SEQ (REGION [0, 1] rfl (RUN0 2 [] [(0, .v (p)), (3, .p 0 0), (4, .p 1 0), (5, I idv), (6, I (if 1 > (ho.rules.seats.length : Int) then 1 else (ho.rules.seats.length : Int))), (36, I m14), (69, B (m14 == 4))] ?_ rfl ?_))
  · as_aux_lemma => kernel_rfl
  refine ENDOPS (NEXT (IF (m14 == 4) ?_ (fun bh63 => ?_) (fun bh63 => ?_)))
  · as_aux_lemma => kernel_rfl
  ·
   have h63 := bh63
   have h63 := eq_of_beq h63
   refine SEQ (REGION [0, 1, 2] rfl (RUN 3 [] [(4, .p 1 0)] [(55, [.slice ho_rules_seats_a ho.rules.seats.length ho_rules_seats_c, vi ho.rules.tiers, vi ho.rules.room, vi ho.rules.size, vi ho.rules.period, vi ho.rules.window, vi ho.rules.rest, vi ho.rules.tries, vi ho.rules.crew, vi ho.now, vi ho.turn, .slice ho_parties_a ho.parties.length ho_parties_c, .slice ho_cabins_a ho.cabins.length ho_cabins_c, .slice ho_todo_a ho.todo.length ho_todo_c, .slice ho_jobs_a ho.jobs.length ho_jobs_c]), (30, [vi 2, vi idv, vi 0, vi 0, vi 0, vi 0])] ?_ rfl ?_))
   · as_aux_lemma => kernel_rfl
   refine ENDOPS (NEXT (RET (OUTR (PASS trivial (FIN (.agg #[vi 2, vi idv, vi 0, vi 0, vi 0, vi 0]) ?_ ⟨(⟨2, idv, 0, 0, 0, 0⟩ : Req), trivial⟩ ?_ [0] ?_)))))
   · as_aux_lemma => kernel_rfl
   · rfl
   · rfl
  ·
   have h63 := bh63
   have h63 := ne_of_beq_false h63
   refine SEQ (SEQ (REGION [0, 1] rfl (RUN0 2 [] [(0, .v (p)), (3, .p 0 0), (4, .p 1 0), (5, I idv), (6, I (if 1 > (ho.rules.seats.length : Int) then 1 else (ho.rules.seats.length : Int))), (36, I m14), (73, B (m14 == 5))] ?_ rfl ?_)))
   · as_aux_lemma => kernel_rfl
   refine ENDOPS (NEXT (IF (m14 == 5) ?_ (fun bh64 => ?_) (fun bh64 => ?_)))
   · as_aux_lemma => kernel_rfl
   ·
    have h64 := bh64
    have h64 := eq_of_beq h64
    refine SKIP (NEXT (IF (m14 == 5) ?_ (fun bh65 => ?_) (fun bh65 => ?_)))
    · as_aux_lemma => kernel_rfl
    ·
     have h65 := bh65
     have h65 := eq_of_beq h65
     refine SEQ (REGION [0, 1, 2, 3, 4, 5, 6, 7] rfl (RUN0 2 [2, 3, 4, 5, 6, 7] [(0, .v (p)), (4, .p 1 0), (76, .v (p)), (77, I (if 1 > (ho.rules.seats.length : Int) then 1 else (ho.rules.seats.length : Int)))] ?_ rfl ?_))
     · as_aux_lemma => kernel_rfl
     refine OPC (CALL 29 #[p, vi (if 1 > (ho.rules.seats.length : Int) then 1 else (ho.rules.seats.length : Int))] (some 78) ?_ [0] [curA (d) p] _ rfl (⟨{x : Int // 0 ≤ x ∧ ((if 1 > (ho.rules.seats.length : Int) then 1 else (ho.rules.seats.length : Int)) ≤ 0 → x = 0) ∧ (0 < (if 1 > (ho.rules.seats.length : Int) then 1 else (ho.rules.seats.length : Int)) → x < (if 1 > (ho.rules.seats.length : Int) then 1 else (ho.rules.seats.length : Int)))}, fun q => vi q.1, fun q => [curA (d) p]⟩) (fun w hw => l1Below_c w (d) (hd.fr hw.fr hS) p (if 1 > (ho.rules.seats.length : Int) then 1 else (ho.rules.seats.length : Int))) (NO rfl) ?_)
     · as_aux_lemma => kernel_rfl
     rintro ⟨m66, hm67⟩
     try dsimp only at hm67
     refine RUN0 1 [4, 5, 6, 7] [(4, .p 1 0), (78, I m66), (79, .v (p))] ?_ rfl ?_
     · as_aux_lemma => kernel_rfl
     refine OPC (CALL 29 #[p, vi 4] (some 80) ?_ [0] [curA (d) p] _ rfl (⟨{x : Int // 0 ≤ x ∧ (4 ≤ 0 → x = 0) ∧ (0 < 4 → x < 4)}, fun q => vi q.1, fun q => [curA (d) p]⟩) (fun w hw => l1Below_c w (d) (hd.fr hw.fr hS) p 4) (NO rfl) ?_)
     · as_aux_lemma => kernel_rfl
     rintro ⟨m68, hm69⟩
     try dsimp only at hm69
     refine RUN 3 [] [(4, .p 1 0)] [(55, [.slice ho_rules_seats_a ho.rules.seats.length ho_rules_seats_c, vi ho.rules.tiers, vi ho.rules.room, vi ho.rules.size, vi ho.rules.period, vi ho.rules.window, vi ho.rules.rest, vi ho.rules.tries, vi ho.rules.crew, vi ho.now, vi ho.turn, .slice ho_parties_a ho.parties.length ho_parties_c, .slice ho_cabins_a ho.cabins.length ho_cabins_c, .slice ho_todo_a ho.todo.length ho_todo_c, .slice ho_jobs_a ho.jobs.length ho_jobs_c]), (30, [vi 3, vi 0, vi m66, vi 0, vi (wr (1 + m68)), vi 0])] ?_ rfl ?_
     · as_aux_lemma => kernel_rfl
     refine ENDOPS (NEXT (RET (OUTR (PASS trivial (FIN (.agg #[vi 3, vi 0, vi m66, vi 0, vi (wr (1 + m68)), vi 0]) ?_ ⟨(⟨3, 0, m66, 0, wr (1 + m68), 0⟩ : Req), trivial⟩ ?_ [0] ?_)))))
     · as_aux_lemma => kernel_rfl
     · rfl
     · rfl
    · exact Bool.noConfusion (bh64.symm.trans bh65)
   ·
    have h64 := bh64
    have h64 := ne_of_beq_false h64
    refine REGION [0, 1] rfl (RUN0 2 [] [(0, .v (p)), (3, .p 0 0), (4, .p 1 0), (5, I idv), (6, I (if 1 > (ho.rules.seats.length : Int) then 1 else (ho.rules.seats.length : Int))), (36, I m14), (73, B (m14 == 6))] ?_ rfl ?_)
    · as_aux_lemma => kernel_rfl
    refine ENDOPS (NEXT (IF (m14 == 6) ?_ (fun bh70 => ?_) (fun bh70 => ?_)))
    · as_aux_lemma => kernel_rfl
    ·
     have h70 := bh70
     have h70 := eq_of_beq h70
     refine SEQ (REGION [0, 1, 2, 3, 4, 5, 6, 7] rfl (RUN0 2 [2, 3, 4, 5, 6, 7] [(0, .v (p)), (4, .p 1 0), (76, .v (p)), (77, I (if 1 > (ho.rules.seats.length : Int) then 1 else (ho.rules.seats.length : Int)))] ?_ rfl ?_))
     · as_aux_lemma => kernel_rfl
     refine OPC (CALL 29 #[p, vi (if 1 > (ho.rules.seats.length : Int) then 1 else (ho.rules.seats.length : Int))] (some 78) ?_ [0] [curA (d) p] _ rfl (⟨{x : Int // 0 ≤ x ∧ ((if 1 > (ho.rules.seats.length : Int) then 1 else (ho.rules.seats.length : Int)) ≤ 0 → x = 0) ∧ (0 < (if 1 > (ho.rules.seats.length : Int) then 1 else (ho.rules.seats.length : Int)) → x < (if 1 > (ho.rules.seats.length : Int) then 1 else (ho.rules.seats.length : Int)))}, fun q => vi q.1, fun q => [curA (d) p]⟩) (fun w hw => l1Below_c w (d) (hd.fr hw.fr hS) p (if 1 > (ho.rules.seats.length : Int) then 1 else (ho.rules.seats.length : Int))) (NO rfl) ?_)
     · as_aux_lemma => kernel_rfl
     rintro ⟨m71, hm72⟩
     try dsimp only at hm72
     refine RUN0 1 [4, 5, 6, 7] [(4, .p 1 0), (78, I m71), (79, .v (p))] ?_ rfl ?_
     · as_aux_lemma => kernel_rfl
     refine OPC (CALL 29 #[p, vi 4] (some 80) ?_ [0] [curA (d) p] _ rfl (⟨{x : Int // 0 ≤ x ∧ (4 ≤ 0 → x = 0) ∧ (0 < 4 → x < 4)}, fun q => vi q.1, fun q => [curA (d) p]⟩) (fun w hw => l1Below_c w (d) (hd.fr hw.fr hS) p 4) (NO rfl) ?_)
     · as_aux_lemma => kernel_rfl
     rintro ⟨m73, hm74⟩
     try dsimp only at hm74
     refine RUN 3 [] [(4, .p 1 0)] [(55, [.slice ho_rules_seats_a ho.rules.seats.length ho_rules_seats_c, vi ho.rules.tiers, vi ho.rules.room, vi ho.rules.size, vi ho.rules.period, vi ho.rules.window, vi ho.rules.rest, vi ho.rules.tries, vi ho.rules.crew, vi ho.now, vi ho.turn, .slice ho_parties_a ho.parties.length ho_parties_c, .slice ho_cabins_a ho.cabins.length ho_cabins_c, .slice ho_todo_a ho.todo.length ho_todo_c, .slice ho_jobs_a ho.jobs.length ho_jobs_c]), (30, [vi 3, vi 0, vi m71, vi 0, vi (wr (1 + m73)), vi 0])] ?_ rfl ?_
     · as_aux_lemma => kernel_rfl
     refine ENDOPS (NEXT (RET (OUTR (PASS trivial (FIN (.agg #[vi 3, vi 0, vi m71, vi 0, vi (wr (1 + m73)), vi 0]) ?_ ⟨(⟨3, 0, m71, 0, wr (1 + m73), 0⟩ : Req), trivial⟩ ?_ [0] ?_)))))
     · as_aux_lemma => kernel_rfl
     · rfl
     · rfl
    ·
     have h70 := bh70
     have h70 := ne_of_beq_false h70
     refine SEQ (REGION [0, 1] rfl (RUN0 2 [] [(0, .v (p)), (3, .p 0 0), (4, .p 1 0), (5, I idv), (36, I m14), (83, B (m14 == 7))] ?_ rfl ?_))
     · as_aux_lemma => kernel_rfl
     refine ENDOPS (NEXT (IF (m14 == 7) ?_ (fun bh75 => ?_) (fun bh75 => ?_)))
     · as_aux_lemma => kernel_rfl
     ·
      have h75 := bh75
      have h75 := eq_of_beq h75
      refine SEQ (REGION [0, 1, 2] rfl (RUN 3 [] [(4, .p 1 0)] [(55, [.slice ho_rules_seats_a ho.rules.seats.length ho_rules_seats_c, vi ho.rules.tiers, vi ho.rules.room, vi ho.rules.size, vi ho.rules.period, vi ho.rules.window, vi ho.rules.rest, vi ho.rules.tries, vi ho.rules.crew, vi ho.now, vi ho.turn, .slice ho_parties_a ho.parties.length ho_parties_c, .slice ho_cabins_a ho.cabins.length ho_cabins_c, .slice ho_todo_a ho.todo.length ho_todo_c, .slice ho_jobs_a ho.jobs.length ho_jobs_c]), (30, [vi 4, vi idv, vi 0, vi 0, vi 0, vi 0])] ?_ rfl ?_))
      · as_aux_lemma => kernel_rfl
      refine ENDOPS (NEXT (RET (OUTR (PASS trivial (FIN (.agg #[vi 4, vi idv, vi 0, vi 0, vi 0, vi 0]) ?_ ⟨(⟨4, idv, 0, 0, 0, 0⟩ : Req), trivial⟩ ?_ [0] ?_)))))
      · as_aux_lemma => kernel_rfl
      · rfl
      · rfl
     ·
      have h75 := bh75
      have h75 := ne_of_beq_false h75
      refine SEQ (REGION [0, 1] rfl (RUN0 2 [] [(0, .v (p)), (3, .p 0 0), (4, .p 1 0), (5, I idv), (36, I m14), (87, B (m14 == 8))] ?_ rfl ?_))
      · as_aux_lemma => kernel_rfl
      refine ENDOPS (NEXT (IF (m14 == 8) ?_ (fun bh76 => ?_) (fun bh76 => ?_)))
      · as_aux_lemma => kernel_rfl
      ·
       have h76 := bh76
       have h76 := eq_of_beq h76
       refine SEQ (REGION [0, 1, 2] rfl (RUN 3 [] [(4, .p 1 0)] [(55, [.slice ho_rules_seats_a ho.rules.seats.length ho_rules_seats_c, vi ho.rules.tiers, vi ho.rules.room, vi ho.rules.size, vi ho.rules.period, vi ho.rules.window, vi ho.rules.rest, vi ho.rules.tries, vi ho.rules.crew, vi ho.now, vi ho.turn, .slice ho_parties_a ho.parties.length ho_parties_c, .slice ho_cabins_a ho.cabins.length ho_cabins_c, .slice ho_todo_a ho.todo.length ho_todo_c, .slice ho_jobs_a ho.jobs.length ho_jobs_c]), (30, [vi 5, vi idv, vi 0, vi 0, vi 0, vi 0])] ?_ rfl ?_))
       · as_aux_lemma => kernel_rfl
       refine ENDOPS (NEXT (RET (OUTR (PASS trivial (FIN (.agg #[vi 5, vi idv, vi 0, vi 0, vi 0, vi 0]) ?_ ⟨(⟨5, idv, 0, 0, 0, 0⟩ : Req), trivial⟩ ?_ [0] ?_)))))
       · as_aux_lemma => kernel_rfl
       · rfl
       · rfl
      ·
       have h76 := bh76
       have h76 := ne_of_beq_false h76
       refine SEQ (REGION [0, 1] rfl (RUN0 2 [] [(0, .v (p)), (3, .p 0 0), (4, .p 1 0), (91, B (m14 == 9))] ?_ rfl ?_))
       · as_aux_lemma => kernel_rfl
       refine ENDOPS (NEXT (IF (m14 == 9) ?_ (fun bh77 => ?_) (fun bh77 => ?_)))
       · as_aux_lemma => kernel_rfl
       ·
        have h77 := bh77
        have h77 := eq_of_beq h77
        refine SEQ (REGION [0, 1] rfl (RUN 2 [] [(4, .p 1 0)] [(55, [.slice ho_rules_seats_a ho.rules.seats.length ho_rules_seats_c, vi ho.rules.tiers, vi ho.rules.room, vi ho.rules.size, vi ho.rules.period, vi ho.rules.window, vi ho.rules.rest, vi ho.rules.tries, vi ho.rules.crew, vi ho.now, vi ho.turn, .slice ho_parties_a ho.parties.length ho_parties_c, .slice ho_cabins_a ho.cabins.length ho_cabins_c, .slice ho_todo_a ho.todo.length ho_todo_c, .slice ho_jobs_a ho.jobs.length ho_jobs_c]), (30, [vi 6, vi 0, vi 0, vi 0, vi 0, vi 0])] ?_ rfl ?_))
        · as_aux_lemma => kernel_rfl
        refine ENDOPS (NEXT (RET (OUTR (PASS trivial (FIN (.agg #[vi 6, vi 0, vi 0, vi 0, vi 0, vi 0]) ?_ ⟨(⟨6, 0, 0, 0, 0, 0⟩ : Req), trivial⟩ ?_ [0] ?_)))))
        · as_aux_lemma => kernel_rfl
        · rfl
        · rfl
       ·
        have h77 := bh77
        have h77 := ne_of_beq_false h77
        refine SKIP (OUTN (NEXT (SEQ (REGION [0, 1, 2, 3, 4, 5, 6, 7] rfl (RUN0 4 [4, 5, 6, 7] [(4, .p 1 0), (94, .v (p)), (97, I ho.rules.crew)] ?_ rfl ?_)))))
        · as_aux_lemma => kernel_rfl
        refine OPC (CALL 55 #[vi 1, vi ho.rules.crew] (some 98) ?_ [] [] _ rfl (RV (vi (if 1 > ho.rules.crew then 1 else ho.rules.crew))) (fun w hw => l1Max_c w 1 ho.rules.crew) (NO rfl) ?_)
        · as_aux_lemma => kernel_rfl
        rintro ⟨⟩
        refine OPC (CALL 29 #[p, vi (if 1 > ho.rules.crew then 1 else ho.rules.crew)] (some 99) ?_ [0] [curA (d) p] _ rfl (⟨{x : Int // 0 ≤ x ∧ ((if 1 > ho.rules.crew then 1 else ho.rules.crew) ≤ 0 → x = 0) ∧ (0 < (if 1 > ho.rules.crew then 1 else ho.rules.crew) → x < (if 1 > ho.rules.crew then 1 else ho.rules.crew))}, fun q => vi q.1, fun q => [curA (d) p]⟩) (fun w hw => l1Below_c w (d) (hd.fr hw.fr hS) p (if 1 > ho.rules.crew then 1 else ho.rules.crew)) (NO rfl) ?_)
        · as_aux_lemma => kernel_rfl
        rintro ⟨m78, hm79⟩
        try dsimp only at hm79
        refine RUN 2 [] [(4, .p 1 0)] [(55, [.slice ho_rules_seats_a ho.rules.seats.length ho_rules_seats_c, vi ho.rules.tiers, vi ho.rules.room, vi ho.rules.size, vi ho.rules.period, vi ho.rules.window, vi ho.rules.rest, vi ho.rules.tries, vi ho.rules.crew, vi ho.now, vi ho.turn, .slice ho_parties_a ho.parties.length ho_parties_c, .slice ho_cabins_a ho.cabins.length ho_cabins_c, .slice ho_todo_a ho.todo.length ho_todo_c, .slice ho_jobs_a ho.jobs.length ho_jobs_c]), (30, [vi 7, vi m78, vi 0, vi 0, vi 0, vi 0])] ?_ rfl ?_
        · as_aux_lemma => kernel_rfl
        refine ENDOPS (NEXT (RET (FIN (.agg #[vi 7, vi m78, vi 0, vi 0, vi 0, vi 0]) ?_ ⟨(⟨7, m78, 0, 0, 0, 0⟩ : Req), trivial⟩ ?_ [0] ?_)))
        · as_aux_lemma => kernel_rfl
        · rfl
        · rfl

theorem l12Bent_c (W : World) (d : Cd) (hd : CodeOk W d) (p : Value) (ho : House) (ho_rules_seats_a : Option Addr) (ho_rules_seats_c : Nat) (hho_rules_seats : RdP W p intL ho_rules_seats_a ho.rules.seats) (ho_parties_a : Option Addr) (ho_parties_c : Nat) (hho_parties : RdP W p partyL ho_parties_a ho.parties) (ho_cabins_a : Option Addr) (ho_cabins_c : Nat) (hho_cabins : RdP W p (cabinLx 129 106 111) ho_cabins_a ho.cabins) (ho_todo_a : Option Addr) (ho_todo_c : Nat) (hho_todo : RdP W p intL ho_todo_a ho.todo) (ho_jobs_a : Option Addr) (ho_jobs_c : Nat) (hho_jobs : RdP W p intL ho_jobs_a ho.jobs) : Spec Tryz.prog W [curA d p] 31 #[p, .agg #[.slice ho_rules_seats_a ho.rules.seats.length ho_rules_seats_c, vi ho.rules.tiers, vi ho.rules.room, vi ho.rules.size, vi ho.rules.period, vi ho.rules.window, vi ho.rules.rest, vi ho.rules.tries, vi ho.rules.crew, vi ho.now, vi ho.turn, .slice ho_parties_a ho.parties.length ho_parties_c, .slice ho_cabins_a ho.cabins.length ho_cabins_c, .slice ho_todo_a ho.todo.length ho_todo_c, .slice ho_jobs_a ho.jobs.length ho_jobs_c]] (⟨{x : Req // True}, fun q => .agg #[vi q.1.kind, vi q.1.id, vi q.1.cabin, vi q.1.from', vi q.1.size, vi q.1.tier], fun q => [curA (d) p]⟩) := by
 refine ENTERC (N := 40) (vs := [p, .agg #[.slice ho_rules_seats_a ho.rules.seats.length ho_rules_seats_c, vi ho.rules.tiers, vi ho.rules.room, vi ho.rules.size, vi ho.rules.period, vi ho.rules.window, vi ho.rules.rest, vi ho.rules.tries, vi ho.rules.crew, vi ho.now, vi ho.turn, .slice ho_parties_a ho.parties.length ho_parties_c, .slice ho_cabins_a ho.cabins.length ho_cabins_c, .slice ho_todo_a ho.todo.length ho_todo_c, .slice ho_jobs_a ho.jobs.length ho_jobs_c]]) Tryz.func31 rfl rfl (NL rfl) (fun S0 hS hP => ?_)
 have hho_rules_seats_len := hho_rules_seats.len
 have hho_parties_len := hho_parties.len
 have hho_cabins_len := hho_cabins.len
 have hho_todo_len := hho_todo.len
 have hho_jobs_len := hho_jobs.len
 refine SEQ (REGION [0, 1] rfl (RUN 2 [] [(0, .v (p)), (3, .p 0 0), (4, .p 1 0)] [(55, [.slice ho_rules_seats_a ho.rules.seats.length ho_rules_seats_c, vi ho.rules.tiers, vi ho.rules.room, vi ho.rules.size, vi ho.rules.period, vi ho.rules.window, vi ho.rules.rest, vi ho.rules.tries, vi ho.rules.crew, vi ho.now, vi ho.turn, .slice ho_parties_a ho.parties.length ho_parties_c, .slice ho_cabins_a ho.cabins.length ho_cabins_c, .slice ho_todo_a ho.todo.length ho_todo_c, .slice ho_jobs_a ho.jobs.length ho_jobs_c]), (30, [vi 0, vi 0, vi 0, vi 0, vi 0, vi 0])] ?_ rfl ?_))
 · as_aux_lemma => kernel_rfl
 refine ENDOPS (NEXT (SEQ (REGION [0, 1, 2, 3, 4] rfl (RUN0 2 [2, 3, 4] [(0, .v (p)), (4, .p 1 0), (7, .v (p)), (8, .v (.agg #[.slice ho_rules_seats_a ho.rules.seats.length ho_rules_seats_c, vi ho.rules.tiers, vi ho.rules.room, vi ho.rules.size, vi ho.rules.period, vi ho.rules.window, vi ho.rules.rest, vi ho.rules.tries, vi ho.rules.crew, vi ho.now, vi ho.turn, .slice ho_parties_a ho.parties.length ho_parties_c, .slice ho_cabins_a ho.cabins.length ho_cabins_c, .slice ho_todo_a ho.todo.length ho_todo_c, .slice ho_jobs_a ho.jobs.length ho_jobs_c]))] ?_ rfl ?_))))
 · as_aux_lemma => kernel_rfl
 refine OPC (CALL 30 #[p, .agg #[.slice ho_rules_seats_a ho.rules.seats.length ho_rules_seats_c, vi ho.rules.tiers, vi ho.rules.room, vi ho.rules.size, vi ho.rules.period, vi ho.rules.window, vi ho.rules.rest, vi ho.rules.tries, vi ho.rules.crew, vi ho.now, vi ho.turn, .slice ho_parties_a ho.parties.length ho_parties_c, .slice ho_cabins_a ho.cabins.length ho_cabins_c, .slice ho_todo_a ho.todo.length ho_todo_c, .slice ho_jobs_a ho.jobs.length ho_jobs_c]] (some 9) ?_ [0] [curA (d) p] _ rfl (⟨{x : Req // True}, fun q => .agg #[vi q.1.kind, vi q.1.id, vi q.1.cabin, vi q.1.from', vi q.1.size, vi q.1.tier], fun q => [curA (d) p]⟩) (fun w hw => l12Right_c w (d) (hd.fr hw.fr hS) p ho ho_rules_seats_a ho_rules_seats_c (hho_rules_seats.fr hw.fr hP) ho_parties_a ho_parties_c (hho_parties.fr hw.fr hP) ho_cabins_a ho_cabins_c (hho_cabins.fr hw.fr hP) ho_todo_a ho_todo_c (hho_todo.fr hw.fr hP) ho_jobs_a ho_jobs_c (hho_jobs.fr hw.fr hP)) (NO rfl) ?_)
 · as_aux_lemma => kernel_rfl
 rintro ⟨m1, hm2⟩
 try dsimp only at hm2
 refine RUN 2 [] [(0, .v (p)), (4, .p 1 0), (5, .p 2 0)] [(55, [.slice ho_rules_seats_a ho.rules.seats.length ho_rules_seats_c, vi ho.rules.tiers, vi ho.rules.room, vi ho.rules.size, vi ho.rules.period, vi ho.rules.window, vi ho.rules.rest, vi ho.rules.tries, vi ho.rules.crew, vi ho.now, vi ho.turn, .slice ho_parties_a ho.parties.length ho_parties_c, .slice ho_cabins_a ho.cabins.length ho_cabins_c, .slice ho_todo_a ho.todo.length ho_todo_c, .slice ho_jobs_a ho.jobs.length ho_jobs_c]), (30, [vi 0, vi 0, vi 0, vi 0, vi 0, vi 0]), (30, [vi m1.kind, vi m1.id, vi m1.cabin, vi m1.from', vi m1.size, vi m1.tier])] ?_ rfl ?_
 · as_aux_lemma => kernel_rfl
 refine ENDOPS (NEXT (SEQ (REGION [0, 1, 2, 3] rfl (RUN0 1 [1, 2, 3] [(0, .v (p)), (4, .p 1 0), (5, .p 2 0), (10, .v (p))] ?_ rfl ?_))))
 · as_aux_lemma => kernel_rfl
 refine OPC (BUILDS 42 11 #[(0, .const (vi (-1))), (1, .const (vi 0)), (2, .const (vi 1)), (3, .const (vi 4)), (4, .const (vi 7)), (5, .const (vi 61)), (6, .const (vi 1000)), (7, .const (vi 9999)), (8, .const (vi 10000)), (9, .const (vi 9223372036854775807)), (10, .const (vi (-9223372036854775808)))] 11 42 ?_ (NL rfl) 3 [vi (-1), vi 0, vi 1, vi 4, vi 7, vi 61, vi 1000, vi 9999, vi 10000, vi 9223372036854775807, vi (-9223372036854775808)] ?_ intL [-1, 0, 1, 4, 7, 61, 1000, 9999, 10000, 9223372036854775807, -9223372036854775808] rfl (by simp only [maxLen]; omega) [] [] _ rfl (flatRep rfl) (fun a3 ha4 => ?_))
 iterate 2 (as_aux_lemma => kernel_rfl)
 refine FACT (11 = ([-1, 0, 1, 4, 7, 61, 1000, 9999, 10000, 9223372036854775807, -9223372036854775808]).length) (fun w hw => (SlO.lenE (hw.own 1 rfl)).1) (fun hln5 => ?_)
 refine OPC (CALL 56 #[p, .slice a3 11 11] (some 12) ?_ [0] [curA (d) p] _ rfl (⟨{x : Int // True}, fun q => vi q.1, fun q => [curA (d) p]⟩) (fun w hw => (congrArg (fun z : Nat => Spec Tryz.prog w [curA (d) p] 56 #[p, .slice a3 z 11] (⟨{x : Int // True}, fun q => vi q.1, fun q => [curA (d) p]⟩)) hln5).mpr (l1PickInt_c w (d) (hd.fr hw.fr hS) p ([-1, 0, 1, 4, 7, 61, 1000, 9999, 10000, 9223372036854775807, -9223372036854775808]) a3 11 (RdP.own hw 1 0 rfl rfl (by decide)) (by first | omega | decide | simp))) (NO rfl) ?_)
 · as_aux_lemma => kernel_rfl
 rintro ⟨m6, hm7⟩
 try dsimp only at hm7
 refine RUN0 1 [] [(0, .v (p)), (4, .p 1 0), (5, .p 2 0), (6, I m6)] ?_ rfl ?_
 · as_aux_lemma => kernel_rfl
 refine ENDOPS (NEXT (SEQ (SEQ (REGION [0, 1] rfl (RUN0 1 [1] [(4, .p 1 0), (5, .p 2 0), (6, I m6), (13, .v (p))] ?_ rfl ?_)))))
 · as_aux_lemma => kernel_rfl
 refine OPC (CALL 29 #[p, vi 20] (some 14) ?_ [1] [curA (d) p] _ rfl (⟨{x : Int // 0 ≤ x ∧ (20 ≤ 0 → x = 0) ∧ (0 < 20 → x < 20)}, fun q => vi q.1, fun q => [curA (d) p]⟩) (fun w hw => l1Below_c w (d) (hd.fr hw.fr hS) p 20) (NO rfl) ?_)
 · as_aux_lemma => kernel_rfl
 rintro ⟨m8, hm9⟩
 try dsimp only at hm9
 refine ENDOPS (NEXT (BLOCK (SEQ (REGION [0, 1] rfl (RUN0 2 [] [(4, .p 1 0), (5, .p 2 0), (6, I m6), (14, I m8), (15, B (m8 == 0))] ?_ rfl ?_)))))
 · as_aux_lemma => kernel_rfl
 refine ENDOPS (NEXT (IF (m8 == 0) ?_ (fun bh10 => ?_) (fun bh10 => ?_)))
 · as_aux_lemma => kernel_rfl
 ·
  have h10 := bh10
  have h10 := eq_of_beq h10
  refine REGION [0, 1, 2] rfl (RUN 3 [] [(4, .p 1 0), (5, .p 2 0)] [(55, [.slice ho_rules_seats_a ho.rules.seats.length ho_rules_seats_c, vi ho.rules.tiers, vi ho.rules.room, vi ho.rules.size, vi ho.rules.period, vi ho.rules.window, vi ho.rules.rest, vi ho.rules.tries, vi ho.rules.crew, vi ho.now, vi ho.turn, .slice ho_parties_a ho.parties.length ho_parties_c, .slice ho_cabins_a ho.cabins.length ho_cabins_c, .slice ho_todo_a ho.todo.length ho_todo_c, .slice ho_jobs_a ho.jobs.length ho_jobs_c]), (30, [vi 0, vi 0, vi 0, vi 0, vi 0, vi 0]), (30, [vi m6, vi m1.id, vi m1.cabin, vi m1.from', vi m1.size, vi m1.tier])] ?_ rfl ?_)
  · as_aux_lemma => kernel_rfl
  refine ENDOPS (OUTN (NEXT (SEQ (REGION [0, 1] rfl (RUN 2 [] [(4, .p 1 0)] [(55, [.slice ho_rules_seats_a ho.rules.seats.length ho_rules_seats_c, vi ho.rules.tiers, vi ho.rules.room, vi ho.rules.size, vi ho.rules.period, vi ho.rules.window, vi ho.rules.rest, vi ho.rules.tries, vi ho.rules.crew, vi ho.now, vi ho.turn, .slice ho_parties_a ho.parties.length ho_parties_c, .slice ho_cabins_a ho.cabins.length ho_cabins_c, .slice ho_todo_a ho.todo.length ho_todo_c, .slice ho_jobs_a ho.jobs.length ho_jobs_c]), (30, [vi m6, vi m1.id, vi m1.cabin, vi m1.from', vi m1.size, vi m1.tier]), (30, [vi m6, vi m1.id, vi m1.cabin, vi m1.from', vi m1.size, vi m1.tier])] ?_ rfl ?_)))))
  · as_aux_lemma => kernel_rfl
  refine ENDOPS (NEXT (RET (FIN (.agg #[vi m6, vi m1.id, vi m1.cabin, vi m1.from', vi m1.size, vi m1.tier]) ?_ ⟨(⟨m6, m1.id, m1.cabin, m1.from', m1.size, m1.tier⟩ : Req), trivial⟩ ?_ [1] ?_)))
  · as_aux_lemma => kernel_rfl
  · rfl
  · rfl
 ·
  have h10 := bh10
  have h10 := ne_of_beq_false h10
  refine SEQ (REGION [0, 1] rfl (RUN0 2 [] [(4, .p 1 0), (5, .p 2 0), (6, I m6), (14, I m8), (19, B (m8 == 1))] ?_ rfl ?_))
  · as_aux_lemma => kernel_rfl
  refine ENDOPS (NEXT (IF (m8 == 1) ?_ (fun bh11 => ?_) (fun bh11 => ?_)))
  · as_aux_lemma => kernel_rfl
  ·
   have h11 := bh11
   have h11 := eq_of_beq h11
   refine REGION [0, 1, 2] rfl (RUN 3 [] [(4, .p 1 0), (5, .p 2 0)] [(55, [.slice ho_rules_seats_a ho.rules.seats.length ho_rules_seats_c, vi ho.rules.tiers, vi ho.rules.room, vi ho.rules.size, vi ho.rules.period, vi ho.rules.window, vi ho.rules.rest, vi ho.rules.tries, vi ho.rules.crew, vi ho.now, vi ho.turn, .slice ho_parties_a ho.parties.length ho_parties_c, .slice ho_cabins_a ho.cabins.length ho_cabins_c, .slice ho_todo_a ho.todo.length ho_todo_c, .slice ho_jobs_a ho.jobs.length ho_jobs_c]), (30, [vi 0, vi 0, vi 0, vi 0, vi 0, vi 0]), (30, [vi m1.kind, vi m6, vi m1.cabin, vi m1.from', vi m1.size, vi m1.tier])] ?_ rfl ?_)
   · as_aux_lemma => kernel_rfl
   refine ENDOPS (OUTN (NEXT (SEQ (REGION [0, 1] rfl (RUN 2 [] [(4, .p 1 0)] [(55, [.slice ho_rules_seats_a ho.rules.seats.length ho_rules_seats_c, vi ho.rules.tiers, vi ho.rules.room, vi ho.rules.size, vi ho.rules.period, vi ho.rules.window, vi ho.rules.rest, vi ho.rules.tries, vi ho.rules.crew, vi ho.now, vi ho.turn, .slice ho_parties_a ho.parties.length ho_parties_c, .slice ho_cabins_a ho.cabins.length ho_cabins_c, .slice ho_todo_a ho.todo.length ho_todo_c, .slice ho_jobs_a ho.jobs.length ho_jobs_c]), (30, [vi m1.kind, vi m6, vi m1.cabin, vi m1.from', vi m1.size, vi m1.tier]), (30, [vi m1.kind, vi m6, vi m1.cabin, vi m1.from', vi m1.size, vi m1.tier])] ?_ rfl ?_)))))
   · as_aux_lemma => kernel_rfl
   refine ENDOPS (NEXT (RET (FIN (.agg #[vi m1.kind, vi m6, vi m1.cabin, vi m1.from', vi m1.size, vi m1.tier]) ?_ ⟨(⟨m1.kind, m6, m1.cabin, m1.from', m1.size, m1.tier⟩ : Req), trivial⟩ ?_ [1] ?_)))
   · as_aux_lemma => kernel_rfl
   · rfl
   · rfl
  ·
   have h11 := bh11
   have h11 := ne_of_beq_false h11
   refine SEQ (REGION [0, 1] rfl (RUN0 2 [] [(4, .p 1 0), (5, .p 2 0), (6, I m6), (14, I m8), (23, B (m8 == 2))] ?_ rfl ?_))
   · as_aux_lemma => kernel_rfl
   refine ENDOPS (NEXT (IF (m8 == 2) ?_ (fun bh12 => ?_) (fun bh12 => ?_)))
   · as_aux_lemma => kernel_rfl
   ·
    have h12 := bh12
    have h12 := eq_of_beq h12
    refine REGION [0, 1, 2] rfl (RUN 3 [] [(4, .p 1 0), (5, .p 2 0)] [(55, [.slice ho_rules_seats_a ho.rules.seats.length ho_rules_seats_c, vi ho.rules.tiers, vi ho.rules.room, vi ho.rules.size, vi ho.rules.period, vi ho.rules.window, vi ho.rules.rest, vi ho.rules.tries, vi ho.rules.crew, vi ho.now, vi ho.turn, .slice ho_parties_a ho.parties.length ho_parties_c, .slice ho_cabins_a ho.cabins.length ho_cabins_c, .slice ho_todo_a ho.todo.length ho_todo_c, .slice ho_jobs_a ho.jobs.length ho_jobs_c]), (30, [vi 0, vi 0, vi 0, vi 0, vi 0, vi 0]), (30, [vi m1.kind, vi m1.id, vi m6, vi m1.from', vi m1.size, vi m1.tier])] ?_ rfl ?_)
    · as_aux_lemma => kernel_rfl
    refine ENDOPS (OUTN (NEXT (SEQ (REGION [0, 1] rfl (RUN 2 [] [(4, .p 1 0)] [(55, [.slice ho_rules_seats_a ho.rules.seats.length ho_rules_seats_c, vi ho.rules.tiers, vi ho.rules.room, vi ho.rules.size, vi ho.rules.period, vi ho.rules.window, vi ho.rules.rest, vi ho.rules.tries, vi ho.rules.crew, vi ho.now, vi ho.turn, .slice ho_parties_a ho.parties.length ho_parties_c, .slice ho_cabins_a ho.cabins.length ho_cabins_c, .slice ho_todo_a ho.todo.length ho_todo_c, .slice ho_jobs_a ho.jobs.length ho_jobs_c]), (30, [vi m1.kind, vi m1.id, vi m6, vi m1.from', vi m1.size, vi m1.tier]), (30, [vi m1.kind, vi m1.id, vi m6, vi m1.from', vi m1.size, vi m1.tier])] ?_ rfl ?_)))))
    · as_aux_lemma => kernel_rfl
    refine ENDOPS (NEXT (RET (FIN (.agg #[vi m1.kind, vi m1.id, vi m6, vi m1.from', vi m1.size, vi m1.tier]) ?_ ⟨(⟨m1.kind, m1.id, m6, m1.from', m1.size, m1.tier⟩ : Req), trivial⟩ ?_ [1] ?_)))
    · as_aux_lemma => kernel_rfl
    · rfl
    · rfl
   ·
    have h12 := bh12
    have h12 := ne_of_beq_false h12
    refine SEQ (REGION [0, 1] rfl (RUN0 2 [] [(4, .p 1 0), (5, .p 2 0), (6, I m6), (14, I m8), (27, B (m8 == 3))] ?_ rfl ?_))
    · as_aux_lemma => kernel_rfl
    refine ENDOPS (NEXT (IF (m8 == 3) ?_ (fun bh13 => ?_) (fun bh13 => ?_)))
    · as_aux_lemma => kernel_rfl
    ·
     have h13 := bh13
     have h13 := eq_of_beq h13
     refine REGION [0, 1, 2] rfl (RUN 3 [] [(4, .p 1 0), (5, .p 2 0)] [(55, [.slice ho_rules_seats_a ho.rules.seats.length ho_rules_seats_c, vi ho.rules.tiers, vi ho.rules.room, vi ho.rules.size, vi ho.rules.period, vi ho.rules.window, vi ho.rules.rest, vi ho.rules.tries, vi ho.rules.crew, vi ho.now, vi ho.turn, .slice ho_parties_a ho.parties.length ho_parties_c, .slice ho_cabins_a ho.cabins.length ho_cabins_c, .slice ho_todo_a ho.todo.length ho_todo_c, .slice ho_jobs_a ho.jobs.length ho_jobs_c]), (30, [vi 0, vi 0, vi 0, vi 0, vi 0, vi 0]), (30, [vi m1.kind, vi m1.id, vi m1.cabin, vi m6, vi m1.size, vi m1.tier])] ?_ rfl ?_)
     · as_aux_lemma => kernel_rfl
     refine ENDOPS (OUTN (NEXT (SEQ (REGION [0, 1] rfl (RUN 2 [] [(4, .p 1 0)] [(55, [.slice ho_rules_seats_a ho.rules.seats.length ho_rules_seats_c, vi ho.rules.tiers, vi ho.rules.room, vi ho.rules.size, vi ho.rules.period, vi ho.rules.window, vi ho.rules.rest, vi ho.rules.tries, vi ho.rules.crew, vi ho.now, vi ho.turn, .slice ho_parties_a ho.parties.length ho_parties_c, .slice ho_cabins_a ho.cabins.length ho_cabins_c, .slice ho_todo_a ho.todo.length ho_todo_c, .slice ho_jobs_a ho.jobs.length ho_jobs_c]), (30, [vi m1.kind, vi m1.id, vi m1.cabin, vi m6, vi m1.size, vi m1.tier]), (30, [vi m1.kind, vi m1.id, vi m1.cabin, vi m6, vi m1.size, vi m1.tier])] ?_ rfl ?_)))))
     · as_aux_lemma => kernel_rfl
     refine ENDOPS (NEXT (RET (FIN (.agg #[vi m1.kind, vi m1.id, vi m1.cabin, vi m6, vi m1.size, vi m1.tier]) ?_ ⟨(⟨m1.kind, m1.id, m1.cabin, m6, m1.size, m1.tier⟩ : Req), trivial⟩ ?_ [1] ?_)))
     · as_aux_lemma => kernel_rfl
     · rfl
     · rfl
    ·
     have h13 := bh13
     have h13 := ne_of_beq_false h13
     refine SEQ (REGION [0, 1] rfl (RUN0 2 [] [(4, .p 1 0), (5, .p 2 0), (6, I m6), (14, I m8), (31, B (m8 == 4))] ?_ rfl ?_))
     · as_aux_lemma => kernel_rfl
     refine ENDOPS (NEXT (IF (m8 == 4) ?_ (fun bh14 => ?_) (fun bh14 => ?_)))
     · as_aux_lemma => kernel_rfl
     ·
      have h14 := bh14
      have h14 := eq_of_beq h14
      refine REGION [0, 1, 2] rfl (RUN 3 [] [(4, .p 1 0), (5, .p 2 0)] [(55, [.slice ho_rules_seats_a ho.rules.seats.length ho_rules_seats_c, vi ho.rules.tiers, vi ho.rules.room, vi ho.rules.size, vi ho.rules.period, vi ho.rules.window, vi ho.rules.rest, vi ho.rules.tries, vi ho.rules.crew, vi ho.now, vi ho.turn, .slice ho_parties_a ho.parties.length ho_parties_c, .slice ho_cabins_a ho.cabins.length ho_cabins_c, .slice ho_todo_a ho.todo.length ho_todo_c, .slice ho_jobs_a ho.jobs.length ho_jobs_c]), (30, [vi 0, vi 0, vi 0, vi 0, vi 0, vi 0]), (30, [vi m1.kind, vi m1.id, vi m1.cabin, vi m1.from', vi m6, vi m1.tier])] ?_ rfl ?_)
      · as_aux_lemma => kernel_rfl
      refine ENDOPS (OUTN (NEXT (SEQ (REGION [0, 1] rfl (RUN 2 [] [(4, .p 1 0)] [(55, [.slice ho_rules_seats_a ho.rules.seats.length ho_rules_seats_c, vi ho.rules.tiers, vi ho.rules.room, vi ho.rules.size, vi ho.rules.period, vi ho.rules.window, vi ho.rules.rest, vi ho.rules.tries, vi ho.rules.crew, vi ho.now, vi ho.turn, .slice ho_parties_a ho.parties.length ho_parties_c, .slice ho_cabins_a ho.cabins.length ho_cabins_c, .slice ho_todo_a ho.todo.length ho_todo_c, .slice ho_jobs_a ho.jobs.length ho_jobs_c]), (30, [vi m1.kind, vi m1.id, vi m1.cabin, vi m1.from', vi m6, vi m1.tier]), (30, [vi m1.kind, vi m1.id, vi m1.cabin, vi m1.from', vi m6, vi m1.tier])] ?_ rfl ?_)))))
      · as_aux_lemma => kernel_rfl
      refine ENDOPS (NEXT (RET (FIN (.agg #[vi m1.kind, vi m1.id, vi m1.cabin, vi m1.from', vi m6, vi m1.tier]) ?_ ⟨(⟨m1.kind, m1.id, m1.cabin, m1.from', m6, m1.tier⟩ : Req), trivial⟩ ?_ [1] ?_)))
      · as_aux_lemma => kernel_rfl
      · rfl
      · rfl
     ·
      have h14 := bh14
      have h14 := ne_of_beq_false h14
      refine SEQ (REGION [0, 1] rfl (RUN0 2 [] [(4, .p 1 0), (5, .p 2 0), (6, I m6), (35, B (m8 == 5))] ?_ rfl ?_))
      · as_aux_lemma => kernel_rfl
      refine ENDOPS (NEXT (IF (m8 == 5) ?_ (fun bh15 => ?_) (fun bh15 => ?_)))
      · as_aux_lemma => kernel_rfl
      ·
       have h15 := bh15
       have h15 := eq_of_beq h15
       refine REGION [0, 1, 2] rfl (RUN 3 [] [(4, .p 1 0), (5, .p 2 0)] [(55, [.slice ho_rules_seats_a ho.rules.seats.length ho_rules_seats_c, vi ho.rules.tiers, vi ho.rules.room, vi ho.rules.size, vi ho.rules.period, vi ho.rules.window, vi ho.rules.rest, vi ho.rules.tries, vi ho.rules.crew, vi ho.now, vi ho.turn, .slice ho_parties_a ho.parties.length ho_parties_c, .slice ho_cabins_a ho.cabins.length ho_cabins_c, .slice ho_todo_a ho.todo.length ho_todo_c, .slice ho_jobs_a ho.jobs.length ho_jobs_c]), (30, [vi 0, vi 0, vi 0, vi 0, vi 0, vi 0]), (30, [vi m1.kind, vi m1.id, vi m1.cabin, vi m1.from', vi m1.size, vi m6])] ?_ rfl ?_)
       · as_aux_lemma => kernel_rfl
       refine ENDOPS (OUTN (NEXT (SEQ (REGION [0, 1] rfl (RUN 2 [] [(4, .p 1 0)] [(55, [.slice ho_rules_seats_a ho.rules.seats.length ho_rules_seats_c, vi ho.rules.tiers, vi ho.rules.room, vi ho.rules.size, vi ho.rules.period, vi ho.rules.window, vi ho.rules.rest, vi ho.rules.tries, vi ho.rules.crew, vi ho.now, vi ho.turn, .slice ho_parties_a ho.parties.length ho_parties_c, .slice ho_cabins_a ho.cabins.length ho_cabins_c, .slice ho_todo_a ho.todo.length ho_todo_c, .slice ho_jobs_a ho.jobs.length ho_jobs_c]), (30, [vi m1.kind, vi m1.id, vi m1.cabin, vi m1.from', vi m1.size, vi m6]), (30, [vi m1.kind, vi m1.id, vi m1.cabin, vi m1.from', vi m1.size, vi m6])] ?_ rfl ?_)))))
       · as_aux_lemma => kernel_rfl
       refine ENDOPS (NEXT (RET (FIN (.agg #[vi m1.kind, vi m1.id, vi m1.cabin, vi m1.from', vi m1.size, vi m6]) ?_ ⟨(⟨m1.kind, m1.id, m1.cabin, m1.from', m1.size, m6⟩ : Req), trivial⟩ ?_ [1] ?_)))
       · as_aux_lemma => kernel_rfl
       · rfl
       · rfl
      ·
       have h15 := bh15
       have h15 := ne_of_beq_false h15
       refine SKIP (OUTN (NEXT (SEQ (REGION [0, 1] rfl (RUN 2 [] [(4, .p 1 0)] [(55, [.slice ho_rules_seats_a ho.rules.seats.length ho_rules_seats_c, vi ho.rules.tiers, vi ho.rules.room, vi ho.rules.size, vi ho.rules.period, vi ho.rules.window, vi ho.rules.rest, vi ho.rules.tries, vi ho.rules.crew, vi ho.now, vi ho.turn, .slice ho_parties_a ho.parties.length ho_parties_c, .slice ho_cabins_a ho.cabins.length ho_cabins_c, .slice ho_todo_a ho.todo.length ho_todo_c, .slice ho_jobs_a ho.jobs.length ho_jobs_c]), (30, [vi m1.kind, vi m1.id, vi m1.cabin, vi m1.from', vi m1.size, vi m1.tier]), (30, [vi m1.kind, vi m1.id, vi m1.cabin, vi m1.from', vi m1.size, vi m1.tier])] ?_ rfl ?_)))))
       · as_aux_lemma => kernel_rfl
       refine ENDOPS (NEXT (RET (FIN (.agg #[vi m1.kind, vi m1.id, vi m1.cabin, vi m1.from', vi m1.size, vi m1.tier]) ?_ ⟨m1, trivial⟩ ?_ [1] ?_)))
       · as_aux_lemma => kernel_rfl
       · rfl
       · rfl

end SX
end Go.Proofs.YtpdijcbgdalphabGreatDoor
