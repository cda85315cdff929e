/- Walks, printed by program. -/
import Derived.Test.YtpdijcbgdalphaaE4
namespace Go.Proofs.Ytpdijcbgdalphaa
namespace SX
open Go Go.RowKit
set_option linter.unusedVariables false
set_option linter.unusedSimpArgs false
set_option maxRecDepth 10000
set_option maxHeartbeats 400000
theorem l2Seq_c (W : World) (d : Cd) (hd : CodeOk W d) (p : Value) : Spec Try.prog W [curA d p] 13 #[p] (⟨{x : Int // True}, fun q => vi q.1, fun q => [curA (d) p]⟩) := by
  refine ENTERC (N := 11) (vs := [p]) Try.func13 rfl rfl (Nat.le_of_ble_eq_true rfl) (fun S0 hS hP => ?_)
  refine SEQ (REGION [0] rfl (RUN0 1 [] [(0, .v (p))] ?_ rfl ?_))
  · as_aux_lemma => kernel_rfl
  refine ENDOPS (NEXT (SEQ (SEQ (REGION [0, 1] rfl (RUN0 1 [1] [(0, .v (p)), (3, .v (p))] ?_ rfl ?_)))))
  · as_aux_lemma => kernel_rfl
  refine OPC (CALL 19 #[p, vi 4] (some 4) ?_ [0] [curA (d) p] _ rfl (⟨{x : Bool // True}, fun q => .bool q.1, fun q => [curA (d) p]⟩) (fun w hw => l1Once_c w (d) (hd.fr hw.fr hS) p 4) (by rintro _ ⟨⟩; exact Nat.le_of_ble_eq_true rfl) ?_)
  · as_aux_lemma => kernel_rfl
  rintro ⟨m1, hm2⟩
  try dsimp only at hm2
  refine ENDOPS (NEXT (IF (m1) ?_ (fun bh3 => ?_) (fun bh3 => ?_)))
  · as_aux_lemma => kernel_rfl
  · -- m1 = true
    have h3 := bh3
    refine SEQ (REGION [0, 1, 2, 3] rfl (RUN0 1 [1, 2, 3] [(5, .v (p))] ?_ rfl ?_))
    · as_aux_lemma => kernel_rfl
    refine OPC (BUILDS 39 7 #[(0, .const (vi 0)), (1, .const (vi (-1))), (2, .const (vi 127)), (3, .const (vi 128)), (4, .const (vi 1000000)), (5, .const (vi 1000001)), (6, .const (vi 9223372036854775807))] 6 39 ?_ (Nat.le_of_ble_eq_true rfl) 3 [vi 0, vi (-1), vi 127, vi 128, vi 1000000, vi 1000001, vi 9223372036854775807] ?_ intL [0, -1, 127, 128, 1000000, 1000001, 9223372036854775807] rfl (by simp only [maxLen]; omega) [] [] _ rfl (flatRep rfl) (fun a4 ha5 => ?_))
    · as_aux_lemma => kernel_rfl
    · as_aux_lemma => kernel_rfl
    refine FACT (7 = ([0, -1, 127, 128, 1000000, 1000001, 9223372036854775807]).length) (fun w hw => (SlO.lenE (hw.own 1 rfl)).1) (fun hln6 => ?_)
    refine OPC (CALL 22 #[p, .slice a4 7 7] (some 7) ?_ [0] [curA (d) p] _ rfl (⟨{x : Int // True}, fun q => vi q.1, fun q => [curA (d) p]⟩) (fun w hw => (congrArg (fun z : Nat => Spec Try.prog w [curA (d) p] 22 #[p, .slice a4 z 7] (⟨{x : Int // True}, fun q => vi q.1, fun q => [curA (d) p]⟩)) hln6).mpr (l1PickInt_c w (d) (hd.fr hw.fr hS) p ([0, -1, 127, 128, 1000000, 1000001, 9223372036854775807]) a4 7 (RdP.own hw 1 0 rfl rfl (by decide)) (by first | omega | decide | simp))) (by rintro _ ⟨⟩; exact Nat.le_of_ble_eq_true rfl) ?_)
    · as_aux_lemma => kernel_rfl
    rintro ⟨m7, hm8⟩
    try dsimp only at hm8
    refine RUN0 1 [] [(2, I m7)] ?_ rfl ?_
    · as_aux_lemma => kernel_rfl
    refine ENDOPS (NEXT (RET (PASS trivial (FIN (vi m7) ?_ ⟨m7, trivial⟩ ?_ [1] ?_))))
    · as_aux_lemma => kernel_rfl
    · rfl
    · rfl
  · -- m1 = false
    have h3 := bh3
    refine SKIP (NEXT (SEQ (REGION [0, 1, 2, 3] rfl (RUN0 1 [1, 2, 3] [(8, .v (p))] ?_ rfl ?_))))
    · as_aux_lemma => kernel_rfl
    refine OPC (CALL 23 #[p, vi 9] (some 9) ?_ [0] [curA (d) p] _ rfl (⟨{x : Int // 0 ≤ x ∧ (9 ≤ 0 → x = 0) ∧ (0 < 9 → x < 9)}, fun q => vi q.1, fun q => [curA (d) p]⟩) (fun w hw => l1Below_c w (d) (hd.fr hw.fr hS) p 9) (by rintro _ ⟨⟩; exact Nat.le_of_ble_eq_true rfl) ?_)
    · as_aux_lemma => kernel_rfl
    rintro ⟨m9, hm10⟩
    try dsimp only at hm10
    refine RUN0 2 [] [(2, I (wr (1 + m9)))] ?_ rfl ?_
    · as_aux_lemma => kernel_rfl
    refine ENDOPS (NEXT (RET (FIN (vi (wr (1 + m9))) ?_ ⟨wr (1 + m9), trivial⟩ ?_ [0] ?_)))
    · as_aux_lemma => kernel_rfl
    · rfl
    · rfl

theorem l12Right_c (W : World) (d : Cd) (hd : CodeOk W d) (p : Value) (ho : House) (ho_rules_seats_a : Option Addr) (ho_rules_seats_c : Nat) (hho_rules_seats : RdP W p intL ho_rules_seats_a ho.rules.seats) (ho_parties_a : Option Addr) (ho_parties_c : Nat) (hho_parties : RdP W p partyL ho_parties_a ho.parties) (ho_cabins_a : Option Addr) (ho_cabins_c : Nat) (hho_cabins : RdP W p (cabinLx 99 85 90) ho_cabins_a ho.cabins) (ho_todo_a : Option Addr) (ho_todo_c : Nat) (hho_todo : RdP W p intL ho_todo_a ho.todo) (ho_jobs_a : Option Addr) (ho_jobs_c : Nat) (hho_jobs : RdP W p intL ho_jobs_a ho.jobs) : Spec Try.prog W [curA d p] 21 #[p, .agg #[.slice ho_rules_seats_a ho.rules.seats.length ho_rules_seats_c, vi ho.rules.tiers, vi ho.rules.room, vi ho.rules.size, vi ho.rules.period, vi ho.rules.window, vi ho.rules.rest, vi ho.rules.tries, vi ho.rules.crew, vi ho.now, vi ho.turn, .slice ho_parties_a ho.parties.length ho_parties_c, .slice ho_cabins_a ho.cabins.length ho_cabins_c, .slice ho_todo_a ho.todo.length ho_todo_c, .slice ho_jobs_a ho.jobs.length ho_jobs_c]] (⟨{x : Req // True}, fun q => .agg #[vi q.1.kind, vi q.1.id, vi q.1.cabin, vi q.1.from', vi q.1.size, vi q.1.tier], fun q => [curA (d) p]⟩) := by
  refine ENTERC (N := 101) (vs := [p, .agg #[.slice ho_rules_seats_a ho.rules.seats.length ho_rules_seats_c, vi ho.rules.tiers, vi ho.rules.room, vi ho.rules.size, vi ho.rules.period, vi ho.rules.window, vi ho.rules.rest, vi ho.rules.tries, vi ho.rules.crew, vi ho.now, vi ho.turn, .slice ho_parties_a ho.parties.length ho_parties_c, .slice ho_cabins_a ho.cabins.length ho_cabins_c, .slice ho_todo_a ho.todo.length ho_todo_c, .slice ho_jobs_a ho.jobs.length ho_jobs_c]]) Try.func21 rfl rfl (Nat.le_of_ble_eq_true rfl) (fun S0 hS hP => ?_)
  have hho_rules_seats_len := hho_rules_seats.len
  have hho_parties_len := hho_parties.len
  have hho_cabins_len := hho_cabins.len
  have hho_todo_len := hho_todo.len
  have hho_jobs_len := hho_jobs.len
  refine SEQ (REGION [0, 1] rfl (RUN 2 [] [(0, .v (p)), (3, .p 0 0), (4, .p 1 0)] [(45, [.slice ho_rules_seats_a ho.rules.seats.length ho_rules_seats_c, vi ho.rules.tiers, vi ho.rules.room, vi ho.rules.size, vi ho.rules.period, vi ho.rules.window, vi ho.rules.rest, vi ho.rules.tries, vi ho.rules.crew, vi ho.now, vi ho.turn, .slice ho_parties_a ho.parties.length ho_parties_c, .slice ho_cabins_a ho.cabins.length ho_cabins_c, .slice ho_todo_a ho.todo.length ho_todo_c, .slice ho_jobs_a ho.jobs.length ho_jobs_c]), (25, [vi 0, vi 0, vi 0, vi 0, vi 0, vi 0])] ?_ rfl ?_))
  · as_aux_lemma => kernel_rfl
  refine ENDOPS (NEXT (SEQ (REGION [0, 1, 2, 3] rfl (RUN0 1 [1, 2, 3] [(0, .v (p)), (3, .p 0 0), (4, .p 1 0), (8, .v (p))] ?_ rfl ?_))))
  · as_aux_lemma => kernel_rfl
  refine OPC (CALL 23 #[p, vi 12] (some 9) ?_ [0] [curA (d) p] _ rfl (⟨{x : Int // 0 ≤ x ∧ (12 ≤ 0 → x = 0) ∧ (0 < 12 → x < 12)}, fun q => vi q.1, fun q => [curA (d) p]⟩) (fun w hw => l1Below_c w (d) (hd.fr hw.fr hS) p 12) (by rintro _ ⟨⟩; exact Nat.le_of_ble_eq_true rfl) ?_)
  · as_aux_lemma => kernel_rfl
  rintro ⟨m1, hm2⟩
  try dsimp only at hm2
  refine RUN0 2 [] [(0, .v (p)), (3, .p 0 0), (4, .p 1 0), (5, I (wr (1 + m1)))] ?_ rfl ?_
  · as_aux_lemma => kernel_rfl
  refine ENDOPS (NEXT (SEQJ (ι := Int) (fun j => [(0, .v (p)), (3, .p 0 0), (4, .p 1 0), (5, I j)]) (fun j => [(45, [.slice ho_rules_seats_a ho.rules.seats.length ho_rules_seats_c, vi ho.rules.tiers, vi ho.rules.room, vi ho.rules.size, vi ho.rules.period, vi ho.rules.window, vi ho.rules.rest, vi ho.rules.tries, vi ho.rules.crew, vi ho.now, vi ho.turn, .slice ho_parties_a ho.parties.length ho_parties_c, .slice ho_cabins_a ho.cabins.length ho_cabins_c, .slice ho_todo_a ho.todo.length ho_todo_c, .slice ho_jobs_a ho.jobs.length ho_jobs_c]), (25, [vi 0, vi 0, vi 0, vi 0, vi 0, vi 0])]) (fun j => [curA (d) p]) (fun j => True) ?_ ?_))
  · -- up to where the ways meet
    refine SEQ (REGION [0, 1, 2, 3, 4, 5, 6, 7, 8] rfl (RUN0 5 [5, 6, 7, 8] [(0, .v (p)), (3, .p 0 0), (4, .p 1 0), (5, I (wr (1 + m1))), (15, B (decide ((ho.parties.length : Int) > 0)))] ?_ rfl ?_))
    · as_aux_lemma => kernel_rfl
    refine SPLIT (d := 15) (decide ((ho.parties.length : Int) > 0)) ?_ (fun bh3 => ?_) (fun bh3 => ?_)
    · as_aux_lemma => kernel_rfl
    · -- decide ((ho.parties.length : Int) > 0) = true
      have h3 := bh3
      have h3 := of_decide_eq_true h3
      refine RUN0 1 [6, 7, 8] [(0, .v (p)), (3, .p 0 0), (4, .p 1 0), (5, I (wr (1 + m1))), (15, B true), (16, .v (p))] ?_ rfl ?_
      · as_aux_lemma => kernel_rfl
      refine OPC (CALL 19 #[p, vi 3] (some 17) ?_ [0] [curA (d) p] _ rfl (⟨{x : Bool // True}, fun q => .bool q.1, fun q => [curA (d) p]⟩) (fun w hw => l1Once_c w (d) (hd.fr hw.fr hS) p 3) (by rintro _ ⟨⟩; exact Nat.le_of_ble_eq_true rfl) ?_)
      · as_aux_lemma => kernel_rfl
      rintro ⟨m4, hm5⟩
      try dsimp only at hm5
      refine RUN0 2 [] [(0, .v (p)), (3, .p 0 0), (4, .p 1 0), (5, I (wr (1 + m1))), (19, B (!m4))] ?_ rfl ?_
      · as_aux_lemma => kernel_rfl
      refine ENDOPS (NEXT (IF (!m4) ?_ (fun bh6 => ?_) (fun bh6 => ?_)))
      · as_aux_lemma => kernel_rfl
      · -- !m4 = true
        have h6 := bh6
        have h6 := notT h6
        refine EXPORT (fun bs hbs => ?_)
        obtain ⟨b7, b8, rfl⟩ := len2 hbs
        refine REGIONH ?_ 11 rfl [ptC b7 45 [.slice ho_rules_seats_a ho.rules.seats.length ho_rules_seats_c, vi ho.rules.tiers, vi ho.rules.room, vi ho.rules.size, vi ho.rules.period, vi ho.rules.window, vi ho.rules.rest, vi ho.rules.tries, vi ho.rules.crew, vi ho.now, vi ho.turn, .slice ho_parties_a ho.parties.length ho_parties_c, .slice ho_cabins_a ho.cabins.length ho_cabins_c, .slice ho_todo_a ho.todo.length ho_todo_c, .slice ho_jobs_a ho.jobs.length ho_jobs_c], ptC b8 25 [vi 0, vi 0, vi 0, vi 0, vi 0, vi 0]] ?_
        · as_aux_lemma => kernel_rfl
        refine HPURE (js := [0, 0]) 0 [(0, .v (p)), (3, .e (some ⟨b7, 0, none⟩) 0 0), (4, .e (some ⟨b8, 0, none⟩) 0 0), (5, I (wr (1 + m1))), (20, .e (some ⟨b7, 0, none⟩) 0 11)] ?_ ?_ rfl ?_
        · as_aux_lemma => kernel_rfl
        · as_aux_lemma => kernel_rfl
        refine HLOADE (i := 1) (js := [0, 0])  42 (.tmp 20) 21 42 ?_ (Nat.le_of_ble_eq_true rfl) (some ⟨b7, 0, none⟩) 0 11 [.slice ho_rules_seats_a ho.rules.seats.length ho_rules_seats_c, vi ho.rules.tiers, vi ho.rules.room, vi ho.rules.size, vi ho.rules.period, vi ho.rules.window, vi ho.rules.rest, vi ho.rules.tries, vi ho.rules.crew, vi ho.now, vi ho.turn, .slice ho_parties_a ho.parties.length ho_parties_c, .slice ho_cabins_a ho.cabins.length ho_cabins_c, .slice ho_todo_a ho.todo.length ho_todo_c, .slice ho_jobs_a ho.jobs.length ho_jobs_c] (.slice ho_parties_a ho.parties.length ho_parties_c) ?_ (fun w hw => ptC_elem (hw.own 0 rfl)) ?_ ?_ rfl ?_
        · as_aux_lemma => kernel_rfl
        · as_aux_lemma => kernel_rfl
        · as_aux_lemma => kernel_rfl
        · as_aux_lemma => kernel_rfl
        refine HPURE (js := [0, 0]) 2 [(0, .v (p)), (3, .e (some ⟨b7, 0, none⟩) 0 0), (4, .e (some ⟨b8, 0, none⟩) 0 0), (5, I (wr (1 + m1))), (21, .v (.slice ho_parties_a ho.parties.length ho_parties_c)), (22, .v (p))] ?_ ?_ rfl ?_
        · as_aux_lemma => kernel_rfl
        · as_aux_lemma => kernel_rfl
        refine HPURE (js := [0, 0]) 3 [(0, .v (p)), (3, .e (some ⟨b7, 0, none⟩) 0 0), (4, .e (some ⟨b8, 0, none⟩) 0 0), (5, I (wr (1 + m1))), (21, .v (.slice ho_parties_a ho.parties.length ho_parties_c)), (22, .v (p)), (23, .e (some ⟨b7, 0, none⟩) 0 11)] ?_ ?_ rfl ?_
        · as_aux_lemma => kernel_rfl
        · as_aux_lemma => kernel_rfl
        refine HLOADE (i := 4) (js := [0, 0])  42 (.tmp 23) 24 42 ?_ (Nat.le_of_ble_eq_true rfl) (some ⟨b7, 0, none⟩) 0 11 [.slice ho_rules_seats_a ho.rules.seats.length ho_rules_seats_c, vi ho.rules.tiers, vi ho.rules.room, vi ho.rules.size, vi ho.rules.period, vi ho.rules.window, vi ho.rules.rest, vi ho.rules.tries, vi ho.rules.crew, vi ho.now, vi ho.turn, .slice ho_parties_a ho.parties.length ho_parties_c, .slice ho_cabins_a ho.cabins.length ho_cabins_c, .slice ho_todo_a ho.todo.length ho_todo_c, .slice ho_jobs_a ho.jobs.length ho_jobs_c] (.slice ho_parties_a ho.parties.length ho_parties_c) ?_ (fun w hw => ptC_elem (hw.own 0 rfl)) ?_ ?_ rfl ?_
        · as_aux_lemma => kernel_rfl
        · as_aux_lemma => kernel_rfl
        · as_aux_lemma => kernel_rfl
        · as_aux_lemma => kernel_rfl
        refine HPURE (js := [0, 0]) 5 [(0, .v (p)), (3, .e (some ⟨b7, 0, none⟩) 0 0), (4, .e (some ⟨b8, 0, none⟩) 0 0), (5, I (wr (1 + m1))), (21, .v (.slice ho_parties_a ho.parties.length ho_parties_c)), (22, .v (p)), (25, I (ho.parties.length : Int))] ?_ ?_ rfl ?_
        · as_aux_lemma => kernel_rfl
        · as_aux_lemma => kernel_rfl
        refine HALL [6] ?_ (by decide) ?_
        · as_aux_lemma => kernel_rfl
        refine CALL 23 #[p, vi (ho.parties.length : Int)] (some 26) ?_ [2] [curA (d) p] _ rfl (⟨{x : Int // 0 ≤ x ∧ ((ho.parties.length : Int) ≤ 0 → x = 0) ∧ (0 < (ho.parties.length : Int) → x < (ho.parties.length : Int))}, fun q => vi q.1, fun q => [curA (d) p]⟩) (fun w hw => l1Below_c w (d) (hd.fr hw.fr hS) p (ho.parties.length : Int)) (by rintro _ ⟨⟩; exact Nat.le_of_ble_eq_true rfl) ?_
        · as_aux_lemma => kernel_rfl
        rintro ⟨m9, hm10⟩
        try dsimp only at hm10
        refine HKEEP (js := [0, 0]) rfl ?_
        obtain ⟨x11, hx12⟩ : ∃ y, ho.parties[m9.toNat]? = some y := ⟨_, List.getElem?_eq_getElem (by omega)⟩
        refine HINDEX (i := 7) (js := [0, 0])  42 (.tmp 21) (.tmp 26) 27 0 ?_ (Nat.le_of_ble_eq_true rfl) ho_parties_a ho.parties.length ho_parties_c .i64 m9 62 10 ?_ ?_ ?_ ?_ (Rd.some hho_parties.rd0 (by omega)) (by omega) (by omega) ?_ rfl ?_
        · as_aux_lemma => kernel_rfl
        · as_aux_lemma => kernel_rfl
        · as_aux_lemma => kernel_rfl
        · as_aux_lemma => kernel_rfl
        · as_aux_lemma => kernel_rfl
        · as_aux_lemma => kernel_rfl
        refine HPURE (js := [0, 0]) 8 [(0, .v (p)), (3, .e (some ⟨b7, 0, none⟩) 0 0), (4, .e (some ⟨b8, 0, none⟩) 0 0), (5, I (wr (1 + m1))), (28, .e ho_parties_a (m9.toNat * 10) 0)] ?_ ?_ rfl ?_
        · as_aux_lemma => kernel_rfl
        · as_aux_lemma => kernel_rfl
        refine HLOADE (i := 9) (js := [0, 0])  3 (.tmp 28) 29 3 ?_ (Nat.le_of_ble_eq_true rfl) ho_parties_a (m9.toNat * 10) 0 [vi x11.id, vi x11.cabin, vi x11.from', vi x11.size, vi x11.tier, vi x11.since, vi x11.turn, vi x11.state, vi x11.until', vi x11.asked] (vi x11.id) ?_ (fun w hw => (hho_parties.rd hw.fr hP).flat hx12) ?_ ?_ rfl ?_
        · as_aux_lemma => kernel_rfl
        · as_aux_lemma => kernel_rfl
        · as_aux_lemma => kernel_rfl
        · as_aux_lemma => kernel_rfl
        refine HPURE (js := [0, 0]) 10 [(0, .v (p)), (3, .e (some ⟨b7, 0, none⟩) 0 0), (4, .e (some ⟨b8, 0, none⟩) 0 0), (5, I x11.id)] ?_ ?_ rfl ?_
        · as_aux_lemma => kernel_rfl
        · as_aux_lemma => kernel_rfl
        refine HEND ?_ ?_
        · as_aux_lemma => kernel_rfl
        refine IMPORT (L0 := [(45, [.slice ho_rules_seats_a ho.rules.seats.length ho_rules_seats_c, vi ho.rules.tiers, vi ho.rules.room, vi ho.rules.size, vi ho.rules.period, vi ho.rules.window, vi ho.rules.rest, vi ho.rules.tries, vi ho.rules.crew, vi ho.now, vi ho.turn, .slice ho_parties_a ho.parties.length ho_parties_c, .slice ho_cabins_a ho.cabins.length ho_cabins_c, .slice ho_todo_a ho.todo.length ho_todo_c, .slice ho_jobs_a ho.jobs.length ho_jobs_c]), (25, [vi 0, vi 0, vi 0, vi 0, vi 0, vi 0])]) (L1 := []) [b7, b8] rfl [0, 0] _ rfl [(0, .v (p)), (3, .p 0 0), (4, .p 1 0), (5, I x11.id)] ?_ ?_ ?_
        · as_aux_lemma => kernel_rfl
        · as_aux_lemma => kernel_rfl
        refine JBACK (x11.id) [0, 3, 4, 5] 2 [0] _ trivial ?_ rfl rfl rfl
        · as_aux_lemma => kernel_rfl
      · -- !m4 = false
        have h6 := bh6
        have h6 := notF h6
        refine SKIP (JBACK (wr (1 + m1)) [0, 3, 4, 5] 2 [0] _ trivial ?_ rfl rfl rfl)
        · as_aux_lemma => kernel_rfl
    · -- decide ((ho.parties.length : Int) > 0) = false
      have h3 := bh3
      have h3 := of_decide_eq_false h3
      refine RUN0 4 [] [(0, .v (p)), (3, .p 0 0), (4, .p 1 0), (5, I (wr (1 + m1))), (19, B false)] ?_ rfl ?_
      · as_aux_lemma => kernel_rfl
      refine ENDOPS (NEXT (IFF ?_ ?_))
      · as_aux_lemma => kernel_rfl
      refine SKIP (JBACK (wr (1 + m1)) [0, 3, 4, 5] 2 [0] _ trivial ?_ rfl rfl rfl)
      · as_aux_lemma => kernel_rfl
  rintro idv hi13
  try dsimp only at hi13
  refine SEQ (REGION [0, 1, 2, 3, 4, 5] rfl (RUN0 4 [4, 5] [(0, .v (p)), (3, .p 0 0), (4, .p 1 0), (5, I idv), (33, I (ho.rules.seats.length : Int))] ?_ rfl ?_))
  · as_aux_lemma => kernel_rfl
  refine OPC (CALL 40 #[vi 1, vi (ho.rules.seats.length : Int)] (some 34) ?_ [] [] _ rfl (RV (vi (if 1 > (ho.rules.seats.length : Int) then 1 else (ho.rules.seats.length : Int)))) (fun w hw => l1Max_c w 1 (ho.rules.seats.length : Int)) (by rintro _ ⟨⟩; exact Nat.le_of_ble_eq_true rfl) ?_)
  · as_aux_lemma => kernel_rfl
  rintro ⟨⟩
  refine RUN0 1 [] [(0, .v (p)), (3, .p 0 0), (4, .p 1 0), (5, I idv), (6, I (if 1 > (ho.rules.seats.length : Int) then 1 else (ho.rules.seats.length : Int)))] ?_ rfl ?_
  · as_aux_lemma => kernel_rfl
  refine ENDOPS (NEXT (SEQ (SEQ (REGION [0, 1] rfl (RUN0 1 [1] [(0, .v (p)), (3, .p 0 0), (4, .p 1 0), (5, I idv), (6, I (if 1 > (ho.rules.seats.length : Int) then 1 else (ho.rules.seats.length : Int))), (35, .v (p))] ?_ rfl ?_)))))
  · as_aux_lemma => kernel_rfl
  refine OPC (CALL 23 #[p, vi 12] (some 36) ?_ [0] [curA (d) p] _ rfl (⟨{x : Int // 0 ≤ x ∧ (12 ≤ 0 → x = 0) ∧ (0 < 12 → x < 12)}, fun q => vi q.1, fun q => [curA (d) p]⟩) (fun w hw => l1Below_c w (d) (hd.fr hw.fr hS) p 12) (by rintro _ ⟨⟩; exact Nat.le_of_ble_eq_true rfl) ?_)
  · as_aux_lemma => kernel_rfl
  rintro ⟨m14, hm15⟩
  try dsimp only at hm15
  refine ENDOPS (NEXT (BLOCK (SEQJ (ι := Bool) (fun j => [(0, .v (p)), (3, .p 0 0), (4, .p 1 0), (5, I idv), (6, I (if 1 > (ho.rules.seats.length : Int) then 1 else (ho.rules.seats.length : Int))), (36, I m14), (37, B j)]) (fun j => [(45, [.slice ho_rules_seats_a ho.rules.seats.length ho_rules_seats_c, vi ho.rules.tiers, vi ho.rules.room, vi ho.rules.size, vi ho.rules.period, vi ho.rules.window, vi ho.rules.rest, vi ho.rules.tries, vi ho.rules.crew, vi ho.now, vi ho.turn, .slice ho_parties_a ho.parties.length ho_parties_c, .slice ho_cabins_a ho.cabins.length ho_cabins_c, .slice ho_todo_a ho.todo.length ho_todo_c, .slice ho_jobs_a ho.jobs.length ho_jobs_c]), (25, [vi 0, vi 0, vi 0, vi 0, vi 0, vi 0])]) (fun j => [curA (d) p]) (fun j => True) ?_ ?_)))
  · -- up to where the ways meet
    refine SEQ (REGION [0, 1] rfl (RUN0 2 [] [(0, .v (p)), (3, .p 0 0), (4, .p 1 0), (5, I idv), (6, I (if 1 > (ho.rules.seats.length : Int) then 1 else (ho.rules.seats.length : Int))), (36, I m14), (37, B (m14 == 0))] ?_ rfl ?_))
    · as_aux_lemma => kernel_rfl
    refine ENDOPS (NEXT (IF (m14 == 0) ?_ (fun bh16 => ?_) (fun bh16 => ?_)))
    · as_aux_lemma => kernel_rfl
    · -- m14 == 0 = true
      have h16 := bh16
      have h16 := eq_of_beq h16
      refine SKIP (JBACK (m14 == 0) [0, 3, 4, 5, 6, 36, 37] 2 [0] _ trivial ?_ rfl rfl rfl)
      · as_aux_lemma => kernel_rfl
    · -- m14 == 0 = false
      have h16 := bh16
      have h16 := ne_of_beq_false h16
      refine SEQ (REGION [0, 1] rfl (RUN0 2 [] [(0, .v (p)), (3, .p 0 0), (4, .p 1 0), (5, I idv), (6, I (if 1 > (ho.rules.seats.length : Int) then 1 else (ho.rules.seats.length : Int))), (36, I m14), (37, B (m14 == 1))] ?_ rfl ?_))
      · as_aux_lemma => kernel_rfl
      refine ENDOPS (NEXT (IF (m14 == 1) ?_ (fun bh17 => ?_) (fun bh17 => ?_)))
      · as_aux_lemma => kernel_rfl
      · -- m14 == 1 = true
        have h17 := bh17
        have h17 := eq_of_beq h17
        refine SKIP (JBACK (m14 == 1) [0, 3, 4, 5, 6, 36, 37] 2 [0] _ trivial ?_ rfl rfl rfl)
        · as_aux_lemma => kernel_rfl
      · -- m14 == 1 = false
        have h17 := bh17
        have h17 := ne_of_beq_false h17
        refine SEQ (REGION [0, 1] rfl (RUN0 2 [] [(0, .v (p)), (3, .p 0 0), (4, .p 1 0), (5, I idv), (6, I (if 1 > (ho.rules.seats.length : Int) then 1 else (ho.rules.seats.length : Int))), (36, I m14), (37, B (m14 == 2))] ?_ rfl ?_))
        · as_aux_lemma => kernel_rfl
        refine ENDOPS (NEXT (IF (m14 == 2) ?_ (fun bh18 => ?_) (fun bh18 => ?_)))
        · as_aux_lemma => kernel_rfl
        · -- m14 == 2 = true
          have h18 := bh18
          have h18 := eq_of_beq h18
          refine SKIP (JBACK (m14 == 2) [0, 3, 4, 5, 6, 36, 37] 2 [0] _ trivial ?_ rfl rfl rfl)
          · as_aux_lemma => kernel_rfl
        · -- m14 == 2 = false
          have h18 := bh18
          have h18 := ne_of_beq_false h18
          refine REGION [0, 1] rfl (RUN0 2 [] [(0, .v (p)), (3, .p 0 0), (4, .p 1 0), (5, I idv), (6, I (if 1 > (ho.rules.seats.length : Int) then 1 else (ho.rules.seats.length : Int))), (36, I m14), (37, B (m14 == 3))] ?_ rfl ?_)
          · as_aux_lemma => kernel_rfl
          refine ENDOPS (JBACK (m14 == 3) [0, 3, 4, 5, 6, 36, 37] 2 [0] _ trivial ?_ rfl rfl rfl)
          · as_aux_lemma => kernel_rfl
  rintro jb hi19
  try dsimp only at hi19
  refine IF (jb) ?_ (fun bh20 => ?_) (fun bh20 => ?_)
  · as_aux_lemma => kernel_rfl
  · -- jb = true
    have h20 := bh20
    refine SEQ (EXPORT (fun bs hbs => ?_))
    obtain ⟨b21, b22, rfl⟩ := len2 hbs
    refine REGIONH ?_ 22 rfl [ptC b21 45 [.slice ho_rules_seats_a ho.rules.seats.length ho_rules_seats_c, vi ho.rules.tiers, vi ho.rules.room, vi ho.rules.size, vi ho.rules.period, vi ho.rules.window, vi ho.rules.rest, vi ho.rules.tries, vi ho.rules.crew, vi ho.now, vi ho.turn, .slice ho_parties_a ho.parties.length ho_parties_c, .slice ho_cabins_a ho.cabins.length ho_cabins_c, .slice ho_todo_a ho.todo.length ho_todo_c, .slice ho_jobs_a ho.jobs.length ho_jobs_c], ptC b22 25 [vi 0, vi 0, vi 0, vi 0, vi 0, vi 0]] ?_
    · as_aux_lemma => kernel_rfl
    refine HPURE (js := [0, 0]) 0 [(0, .v (p)), (3, .e (some ⟨b21, 0, none⟩) 0 0), (4, .e (some ⟨b22, 0, none⟩) 0 0), (6, I (if 1 > (ho.rules.seats.length : Int) then 1 else (ho.rules.seats.length : Int))), (42, .v (p))] ?_ ?_ rfl ?_
    · as_aux_lemma => kernel_rfl
    · as_aux_lemma => kernel_rfl
    refine HPURE (js := [0, 0]) 3 [(0, .v (p)), (3, .e (some ⟨b21, 0, none⟩) 0 0), (4, .e (some ⟨b22, 0, none⟩) 0 0), (6, I (if 1 > (ho.rules.seats.length : Int) then 1 else (ho.rules.seats.length : Int))), (42, .v (p)), (45, .v (p))] ?_ ?_ rfl ?_
    · as_aux_lemma => kernel_rfl
    · as_aux_lemma => kernel_rfl
    refine HPURE (js := [0, 0]) 4 [(0, .v (p)), (3, .e (some ⟨b21, 0, none⟩) 0 0), (4, .e (some ⟨b22, 0, none⟩) 0 0), (6, I (if 1 > (ho.rules.seats.length : Int) then 1 else (ho.rules.seats.length : Int))), (42, .v (p)), (45, .v (p)), (46, I (if 1 > (ho.rules.seats.length : Int) then 1 else (ho.rules.seats.length : Int)))] ?_ ?_ rfl ?_
    · as_aux_lemma => kernel_rfl
    · as_aux_lemma => kernel_rfl
    refine HPURE (js := [0, 0]) 6 [(0, .v (p)), (3, .e (some ⟨b21, 0, none⟩) 0 0), (4, .e (some ⟨b22, 0, none⟩) 0 0), (6, I (if 1 > (ho.rules.seats.length : Int) then 1 else (ho.rules.seats.length : Int))), (42, .v (p)), (45, .v (p)), (46, I (if 1 > (ho.rules.seats.length : Int) then 1 else (ho.rules.seats.length : Int))), (48, .v (p))] ?_ ?_ rfl ?_
    · as_aux_lemma => kernel_rfl
    · as_aux_lemma => kernel_rfl
    refine HPURE (js := [0, 0]) 7 [(0, .v (p)), (3, .e (some ⟨b21, 0, none⟩) 0 0), (4, .e (some ⟨b22, 0, none⟩) 0 0), (6, I (if 1 > (ho.rules.seats.length : Int) then 1 else (ho.rules.seats.length : Int))), (42, .v (p)), (45, .v (p)), (46, I (if 1 > (ho.rules.seats.length : Int) then 1 else (ho.rules.seats.length : Int))), (48, .v (p)), (49, .e (some ⟨b21, 0, none⟩) 0 0)] ?_ ?_ rfl ?_
    · as_aux_lemma => kernel_rfl
    · as_aux_lemma => kernel_rfl
    refine HPURE (js := [0, 0]) 8 [(0, .v (p)), (3, .e (some ⟨b21, 0, none⟩) 0 0), (4, .e (some ⟨b22, 0, none⟩) 0 0), (6, I (if 1 > (ho.rules.seats.length : Int) then 1 else (ho.rules.seats.length : Int))), (42, .v (p)), (45, .v (p)), (46, I (if 1 > (ho.rules.seats.length : Int) then 1 else (ho.rules.seats.length : Int))), (48, .v (p)), (50, .e (some ⟨b21, 0, none⟩) 0 3)] ?_ ?_ rfl ?_
    · as_aux_lemma => kernel_rfl
    · as_aux_lemma => kernel_rfl
    refine HLOADE (i := 9) (js := [0, 0])  3 (.tmp 50) 51 3 ?_ (Nat.le_of_ble_eq_true rfl) (some ⟨b21, 0, none⟩) 0 3 [.slice ho_rules_seats_a ho.rules.seats.length ho_rules_seats_c, vi ho.rules.tiers, vi ho.rules.room, vi ho.rules.size, vi ho.rules.period, vi ho.rules.window, vi ho.rules.rest, vi ho.rules.tries, vi ho.rules.crew, vi ho.now, vi ho.turn, .slice ho_parties_a ho.parties.length ho_parties_c, .slice ho_cabins_a ho.cabins.length ho_cabins_c, .slice ho_todo_a ho.todo.length ho_todo_c, .slice ho_jobs_a ho.jobs.length ho_jobs_c] (vi ho.rules.size) ?_ (fun w hw => ptC_elem (hw.own 0 rfl)) ?_ ?_ rfl ?_
    · as_aux_lemma => kernel_rfl
    · as_aux_lemma => kernel_rfl
    · as_aux_lemma => kernel_rfl
    · as_aux_lemma => kernel_rfl
    refine HPURE (js := [0, 0]) 13 [(0, .v (p)), (3, .e (some ⟨b21, 0, none⟩) 0 0), (4, .e (some ⟨b22, 0, none⟩) 0 0), (6, I (if 1 > (ho.rules.seats.length : Int) then 1 else (ho.rules.seats.length : Int))), (42, .v (p)), (45, .v (p)), (46, I (if 1 > (ho.rules.seats.length : Int) then 1 else (ho.rules.seats.length : Int))), (48, .v (p)), (51, I ho.rules.size), (55, .v (p))] ?_ ?_ rfl ?_
    · as_aux_lemma => kernel_rfl
    · as_aux_lemma => kernel_rfl
    refine HPURE (js := [0, 0]) 14 [(0, .v (p)), (4, .e (some ⟨b22, 0, none⟩) 0 0), (6, I (if 1 > (ho.rules.seats.length : Int) then 1 else (ho.rules.seats.length : Int))), (42, .v (p)), (45, .v (p)), (46, I (if 1 > (ho.rules.seats.length : Int) then 1 else (ho.rules.seats.length : Int))), (48, .v (p)), (51, I ho.rules.size), (55, .v (p)), (56, .e (some ⟨b21, 0, none⟩) 0 0)] ?_ ?_ rfl ?_
    · as_aux_lemma => kernel_rfl
    · as_aux_lemma => kernel_rfl
    refine HPURE (js := [0, 0]) 15 [(0, .v (p)), (4, .e (some ⟨b22, 0, none⟩) 0 0), (6, I (if 1 > (ho.rules.seats.length : Int) then 1 else (ho.rules.seats.length : Int))), (42, .v (p)), (45, .v (p)), (46, I (if 1 > (ho.rules.seats.length : Int) then 1 else (ho.rules.seats.length : Int))), (48, .v (p)), (51, I ho.rules.size), (55, .v (p)), (57, .e (some ⟨b21, 0, none⟩) 0 1)] ?_ ?_ rfl ?_
    · as_aux_lemma => kernel_rfl
    · as_aux_lemma => kernel_rfl
    refine HLOADE (i := 16) (js := [0, 0])  3 (.tmp 57) 58 3 ?_ (Nat.le_of_ble_eq_true rfl) (some ⟨b21, 0, none⟩) 0 1 [.slice ho_rules_seats_a ho.rules.seats.length ho_rules_seats_c, vi ho.rules.tiers, vi ho.rules.room, vi ho.rules.size, vi ho.rules.period, vi ho.rules.window, vi ho.rules.rest, vi ho.rules.tries, vi ho.rules.crew, vi ho.now, vi ho.turn, .slice ho_parties_a ho.parties.length ho_parties_c, .slice ho_cabins_a ho.cabins.length ho_cabins_c, .slice ho_todo_a ho.todo.length ho_todo_c, .slice ho_jobs_a ho.jobs.length ho_jobs_c] (vi ho.rules.tiers) ?_ (fun w hw => ptC_elem (hw.own 0 rfl)) ?_ ?_ rfl ?_
    · as_aux_lemma => kernel_rfl
    · as_aux_lemma => kernel_rfl
    · as_aux_lemma => kernel_rfl
    · as_aux_lemma => kernel_rfl
    refine HALL [1, 20] ?_ (by decide) ⟨?_, ?_⟩
    · as_aux_lemma => kernel_rfl
    · -- operation 1 next
      refine CALL 23 #[p, vi 14] (some 43) ?_ [2] [curA (d) p] _ rfl (⟨{x : Int // 0 ≤ x ∧ (14 ≤ 0 → x = 0) ∧ (0 < 14 → x < 14)}, fun q => vi q.1, fun q => [curA (d) p]⟩) (fun w hw => l1Below_c w (d) (hd.fr hw.fr hS) p 14) (by rintro _ ⟨⟩; exact Nat.le_of_ble_eq_true rfl) ?_
      · as_aux_lemma => kernel_rfl
      rintro ⟨m23, hm24⟩
      try dsimp only at hm24
      refine HKEEP (js := [0, 0]) rfl (HPURE (js := [0, 0]) 2 [(0, .v (p)), (4, .e (some ⟨b22, 0, none⟩) 0 0), (6, I (if 1 > (ho.rules.seats.length : Int) then 1 else (ho.rules.seats.length : Int))), (44, I (wr (1 + m23))), (45, .v (p)), (46, I (if 1 > (ho.rules.seats.length : Int) then 1 else (ho.rules.seats.length : Int))), (48, .v (p)), (51, I ho.rules.size), (55, .v (p)), (58, I ho.rules.tiers)] ?_ ?_ rfl ?_)
      · as_aux_lemma => kernel_rfl
      · as_aux_lemma => kernel_rfl
      refine HALL [5, 20] ?_ (by decide) ⟨?_, ?_⟩
      · as_aux_lemma => kernel_rfl
      · -- operation 5 next
        refine CALL 23 #[p, vi (if 1 > (ho.rules.seats.length : Int) then 1 else (ho.rules.seats.length : Int))] (some 47) ?_ [2] [curA (d) p] _ rfl (⟨{x : Int // 0 ≤ x ∧ ((if 1 > (ho.rules.seats.length : Int) then 1 else (ho.rules.seats.length : Int)) ≤ 0 → x = 0) ∧ (0 < (if 1 > (ho.rules.seats.length : Int) then 1 else (ho.rules.seats.length : Int)) → x < (if 1 > (ho.rules.seats.length : Int) then 1 else (ho.rules.seats.length : Int)))}, fun q => vi q.1, fun q => [curA (d) p]⟩) (fun w hw => l1Below_c w (d) (hd.fr hw.fr hS) p (if 1 > (ho.rules.seats.length : Int) then 1 else (ho.rules.seats.length : Int))) (by rintro _ ⟨⟩; exact Nat.le_of_ble_eq_true rfl) ?_
        · as_aux_lemma => kernel_rfl
        rintro ⟨m25, hm26⟩
        try dsimp only at hm26
        refine HKEEP (js := [0, 0]) rfl (HALL [10, 20] ?_ (by decide) ⟨?_, ?_⟩)
        · as_aux_lemma => kernel_rfl
        · -- operation 10 next
          refine CALL 40 #[vi 1, vi ho.rules.size] (some 52) ?_ [] [] _ rfl (RV (vi (if 1 > ho.rules.size then 1 else ho.rules.size))) (fun w hw => l1Max_c w 1 ho.rules.size) (by rintro _ ⟨⟩; exact Nat.le_of_ble_eq_true rfl) ?_
          · as_aux_lemma => kernel_rfl
          rintro ⟨⟩
          refine HKEEP (js := [0, 0]) rfl (HALL [11, 20] ?_ (by decide) ⟨?_, ?_⟩)
          · as_aux_lemma => kernel_rfl
          · -- operation 11 next
            refine CALL 23 #[p, vi (if 1 > ho.rules.size then 1 else ho.rules.size)] (some 53) ?_ [2] [curA (d) p] _ rfl (⟨{x : Int // 0 ≤ x ∧ ((if 1 > ho.rules.size then 1 else ho.rules.size) ≤ 0 → x = 0) ∧ (0 < (if 1 > ho.rules.size then 1 else ho.rules.size) → x < (if 1 > ho.rules.size then 1 else ho.rules.size))}, fun q => vi q.1, fun q => [curA (d) p]⟩) (fun w hw => l1Below_c w (d) (hd.fr hw.fr hS) p (if 1 > ho.rules.size then 1 else ho.rules.size)) (by rintro _ ⟨⟩; exact Nat.le_of_ble_eq_true rfl) ?_
            · as_aux_lemma => kernel_rfl
            rintro ⟨m27, hm28⟩
            try dsimp only at hm28
            refine HKEEP (js := [0, 0]) rfl (HPURE (js := [0, 0]) 12 [(0, .v (p)), (4, .e (some ⟨b22, 0, none⟩) 0 0), (6, I (if 1 > (ho.rules.seats.length : Int) then 1 else (ho.rules.seats.length : Int))), (44, I (wr (1 + m23))), (47, I m25), (54, I (wr (1 + m27))), (55, .v (p)), (58, I ho.rules.tiers)] ?_ ?_ rfl ?_)
            · as_aux_lemma => kernel_rfl
            · as_aux_lemma => kernel_rfl
            refine HALL [17, 20] ?_ (by decide) ⟨?_, ?_⟩
            · as_aux_lemma => kernel_rfl
            · -- operation 17 next
              refine CALL 40 #[vi 1, vi ho.rules.tiers] (some 59) ?_ [] [] _ rfl (RV (vi (if 1 > ho.rules.tiers then 1 else ho.rules.tiers))) (fun w hw => l1Max_c w 1 ho.rules.tiers) (by rintro _ ⟨⟩; exact Nat.le_of_ble_eq_true rfl) ?_
              · as_aux_lemma => kernel_rfl
              rintro ⟨⟩
              refine HKEEP (js := [0, 0]) rfl (HALL [18, 20] ?_ (by decide) ⟨?_, ?_⟩)
              · as_aux_lemma => kernel_rfl
              · -- operation 18 next
                refine CALL 23 #[p, vi (if 1 > ho.rules.tiers then 1 else ho.rules.tiers)] (some 60) ?_ [2] [curA (d) p] _ rfl (⟨{x : Int // 0 ≤ x ∧ ((if 1 > ho.rules.tiers then 1 else ho.rules.tiers) ≤ 0 → x = 0) ∧ (0 < (if 1 > ho.rules.tiers then 1 else ho.rules.tiers) → x < (if 1 > ho.rules.tiers then 1 else ho.rules.tiers))}, fun q => vi q.1, fun q => [curA (d) p]⟩) (fun w hw => l1Below_c w (d) (hd.fr hw.fr hS) p (if 1 > ho.rules.tiers then 1 else ho.rules.tiers)) (by rintro _ ⟨⟩; exact Nat.le_of_ble_eq_true rfl) ?_
                · as_aux_lemma => kernel_rfl
                rintro ⟨m29, hm30⟩
                try dsimp only at hm30
                refine HKEEP (js := [0, 0]) rfl (HPURE (js := [0, 0]) 19 [(0, .v (p)), (4, .e (some ⟨b22, 0, none⟩) 0 0), (6, I (if 1 > (ho.rules.seats.length : Int) then 1 else (ho.rules.seats.length : Int))), (61, .v (.agg #[vi 1, vi (wr (1 + m23)), vi m25, vi (-1), vi (wr (1 + m27)), vi m29]))] ?_ ?_ rfl ?_)
                · as_aux_lemma => kernel_rfl
                · as_aux_lemma => kernel_rfl
                refine HALL [20] ?_ (by decide) ?_
                · as_aux_lemma => kernel_rfl
                refine RUNO [(0, .v (p)), (4, .e (some ⟨b22, 0, none⟩) 0 0), (6, I (if 1 > (ho.rules.seats.length : Int) then 1 else (ho.rules.seats.length : Int))), (7, .p 0 0), (61, .v (.agg #[vi 1, vi (wr (1 + m23)), vi m25, vi (-1), vi (wr (1 + m27)), vi m29]))] [(25, [vi 0, vi 0, vi 0, vi 0, vi 0, vi 0])] ?_ ?_
                · as_aux_lemma => kernel_rfl
                refine HKEEP (js := [0, 0]) rfl (HALL [21] ?_ (by decide) ?_)
                · as_aux_lemma => kernel_rfl
                refine RUNO [(0, .v (p)), (4, .e (some ⟨b22, 0, none⟩) 0 0), (6, I (if 1 > (ho.rules.seats.length : Int) then 1 else (ho.rules.seats.length : Int))), (7, .p 0 0)] [(25, [vi 1, vi (wr (1 + m23)), vi m25, vi (-1), vi (wr (1 + m27)), vi m29])] ?_ ?_
                · as_aux_lemma => kernel_rfl
                refine HKEEP (js := [0, 0]) rfl (HEND ?_ ?_)
                · as_aux_lemma => kernel_rfl
                refine IMPORT (L0 := [(45, [.slice ho_rules_seats_a ho.rules.seats.length ho_rules_seats_c, vi ho.rules.tiers, vi ho.rules.room, vi ho.rules.size, vi ho.rules.period, vi ho.rules.window, vi ho.rules.rest, vi ho.rules.tries, vi ho.rules.crew, vi ho.now, vi ho.turn, .slice ho_parties_a ho.parties.length ho_parties_c, .slice ho_cabins_a ho.cabins.length ho_cabins_c, .slice ho_todo_a ho.todo.length ho_todo_c, .slice ho_jobs_a ho.jobs.length ho_jobs_c]), (25, [vi 0, vi 0, vi 0, vi 0, vi 0, vi 0])]) (L1 := [(25, [vi 1, vi (wr (1 + m23)), vi m25, vi (-1), vi (wr (1 + m27)), vi m29])]) [b21, b22] rfl [0, 0] _ rfl [(0, .v (p)), (4, .p 1 0), (6, I (if 1 > (ho.rules.seats.length : Int) then 1 else (ho.rules.seats.length : Int))), (7, .p 2 0)] ?_ ?_ ?_
                · as_aux_lemma => kernel_rfl
                · as_aux_lemma => kernel_rfl
                refine NEXT (SEQ (SEQ (REGION [0, 1] rfl (RUN0 1 [1] [(0, .v (p)), (4, .p 1 0), (6, I (if 1 > (ho.rules.seats.length : Int) then 1 else (ho.rules.seats.length : Int))), (7, .p 2 0), (62, .v (p))] ?_ rfl ?_))))
                · as_aux_lemma => kernel_rfl
                refine OPC (CALL 19 #[p, vi 3] (some 63) ?_ [0] [curA (d) p] _ rfl (⟨{x : Bool // True}, fun q => .bool q.1, fun q => [curA (d) p]⟩) (fun w hw => l1Once_c w (d) (hd.fr hw.fr hS) p 3) (by rintro _ ⟨⟩; exact Nat.le_of_ble_eq_true rfl) ?_)
                · as_aux_lemma => kernel_rfl
                rintro ⟨m31, hm32⟩
                try dsimp only at hm32
                refine ENDOPS (NEXT (IF (m31) ?_ (fun bh33 => ?_) (fun bh33 => ?_)))
                · as_aux_lemma => kernel_rfl
                · -- m31 = true
                  have h33 := bh33
                  refine REGION [0, 1, 2, 3, 4] rfl (RUN0 2 [2, 3, 4] [(4, .p 1 0), (7, .p 2 0), (64, .v (p)), (65, I (if 1 > (ho.rules.seats.length : Int) then 1 else (ho.rules.seats.length : Int)))] ?_ rfl ?_)
                  · as_aux_lemma => kernel_rfl
                  refine OPC (CALL 23 #[p, vi (if 1 > (ho.rules.seats.length : Int) then 1 else (ho.rules.seats.length : Int))] (some 66) ?_ [0] [curA (d) p] _ rfl (⟨{x : Int // 0 ≤ x ∧ ((if 1 > (ho.rules.seats.length : Int) then 1 else (ho.rules.seats.length : Int)) ≤ 0 → x = 0) ∧ (0 < (if 1 > (ho.rules.seats.length : Int) then 1 else (ho.rules.seats.length : Int)) → x < (if 1 > (ho.rules.seats.length : Int) then 1 else (ho.rules.seats.length : Int)))}, fun q => vi q.1, fun q => [curA (d) p]⟩) (fun w hw => l1Below_c w (d) (hd.fr hw.fr hS) p (if 1 > (ho.rules.seats.length : Int) then 1 else (ho.rules.seats.length : Int))) (by rintro _ ⟨⟩; exact Nat.le_of_ble_eq_true rfl) ?_)
                  · as_aux_lemma => kernel_rfl
                  rintro ⟨m34, hm35⟩
                  try dsimp only at hm35
                  refine RUN 2 [] [(4, .p 1 0), (7, .p 2 0)] [(45, [.slice ho_rules_seats_a ho.rules.seats.length ho_rules_seats_c, vi ho.rules.tiers, vi ho.rules.room, vi ho.rules.size, vi ho.rules.period, vi ho.rules.window, vi ho.rules.rest, vi ho.rules.tries, vi ho.rules.crew, vi ho.now, vi ho.turn, .slice ho_parties_a ho.parties.length ho_parties_c, .slice ho_cabins_a ho.cabins.length ho_cabins_c, .slice ho_todo_a ho.todo.length ho_todo_c, .slice ho_jobs_a ho.jobs.length ho_jobs_c]), (25, [vi 0, vi 0, vi 0, vi 0, vi 0, vi 0]), (25, [vi 1, vi (wr (1 + m23)), vi m25, vi m34, vi (wr (1 + m27)), vi m29])] ?_ rfl ?_
                  · as_aux_lemma => kernel_rfl
                  refine ENDOPS (NEXT (SEQ (REGION [0, 1] rfl (RUN 2 [] [(4, .p 1 0)] [(45, [.slice ho_rules_seats_a ho.rules.seats.length ho_rules_seats_c, vi ho.rules.tiers, vi ho.rules.room, vi ho.rules.size, vi ho.rules.period, vi ho.rules.window, vi ho.rules.rest, vi ho.rules.tries, vi ho.rules.crew, vi ho.now, vi ho.turn, .slice ho_parties_a ho.parties.length ho_parties_c, .slice ho_cabins_a ho.cabins.length ho_cabins_c, .slice ho_todo_a ho.todo.length ho_todo_c, .slice ho_jobs_a ho.jobs.length ho_jobs_c]), (25, [vi 1, vi (wr (1 + m23)), vi m25, vi m34, vi (wr (1 + m27)), vi m29]), (25, [vi 1, vi (wr (1 + m23)), vi m25, vi m34, vi (wr (1 + m27)), vi m29])] ?_ rfl ?_))))
                  · as_aux_lemma => kernel_rfl
                  refine ENDOPS (NEXT (RET (OUTR (PASS trivial (FIN (.agg #[vi 1, vi (wr (1 + m23)), vi m25, vi m34, vi (wr (1 + m27)), vi m29]) ?_ ⟨(⟨1, wr (1 + m23), m25, m34, wr (1 + m27), m29⟩ : Req), trivial⟩ ?_ [0] ?_)))))
                  · as_aux_lemma => kernel_rfl
                  · rfl
                  · rfl
                · -- m31 = false
                  have h33 := bh33
                  refine SKIP (NEXT (SEQ (REGION [0, 1] rfl (RUN 2 [] [(4, .p 1 0)] [(45, [.slice ho_rules_seats_a ho.rules.seats.length ho_rules_seats_c, vi ho.rules.tiers, vi ho.rules.room, vi ho.rules.size, vi ho.rules.period, vi ho.rules.window, vi ho.rules.rest, vi ho.rules.tries, vi ho.rules.crew, vi ho.now, vi ho.turn, .slice ho_parties_a ho.parties.length ho_parties_c, .slice ho_cabins_a ho.cabins.length ho_cabins_c, .slice ho_todo_a ho.todo.length ho_todo_c, .slice ho_jobs_a ho.jobs.length ho_jobs_c]), (25, [vi 1, vi (wr (1 + m23)), vi m25, vi (-1), vi (wr (1 + m27)), vi m29]), (25, [vi 1, vi (wr (1 + m23)), vi m25, vi (-1), vi (wr (1 + m27)), vi m29])] ?_ rfl ?_))))
                  · as_aux_lemma => kernel_rfl
                  refine ENDOPS (NEXT (RET (OUTR (PASS trivial (FIN (.agg #[vi 1, vi (wr (1 + m23)), vi m25, vi (-1), vi (wr (1 + m27)), vi m29]) ?_ ⟨(⟨1, wr (1 + m23), m25, -1, wr (1 + m27), m29⟩ : Req), trivial⟩ ?_ [0] ?_)))))
                  · as_aux_lemma => kernel_rfl
                  · rfl
                  · rfl
              · -- operation 20 next
                refine RUNO [(0, .v (p)), (4, .e (some ⟨b22, 0, none⟩) 0 0), (6, I (if 1 > (ho.rules.seats.length : Int) then 1 else (ho.rules.seats.length : Int))), (7, .p 0 0), (44, I (wr (1 + m23))), (47, I m25), (54, I (wr (1 + m27))), (55, .v (p)), (59, I (if 1 > ho.rules.tiers then 1 else ho.rules.tiers))] [(25, [vi 0, vi 0, vi 0, vi 0, vi 0, vi 0])] ?_ ?_
                · as_aux_lemma => kernel_rfl
                refine HKEEP (js := [0, 0]) rfl (HALL [18] ?_ (by decide) ?_)
                · as_aux_lemma => kernel_rfl
                refine CALL 23 #[p, vi (if 1 > ho.rules.tiers then 1 else ho.rules.tiers)] (some 60) ?_ [2] [curA (d) p] _ rfl (⟨{x : Int // 0 ≤ x ∧ ((if 1 > ho.rules.tiers then 1 else ho.rules.tiers) ≤ 0 → x = 0) ∧ (0 < (if 1 > ho.rules.tiers then 1 else ho.rules.tiers) → x < (if 1 > ho.rules.tiers then 1 else ho.rules.tiers))}, fun q => vi q.1, fun q => [curA (d) p]⟩) (fun w hw => l1Below_c w (d) (hd.fr hw.fr hS) p (if 1 > ho.rules.tiers then 1 else ho.rules.tiers)) (by rintro _ ⟨⟩; exact Nat.le_of_ble_eq_true rfl) ?_
                · as_aux_lemma => kernel_rfl
                rintro ⟨m36, hm37⟩
                try dsimp only at hm37
                refine HKEEP (js := [0, 0]) rfl (HPURE (js := [0, 0]) 19 [(0, .v (p)), (4, .e (some ⟨b22, 0, none⟩) 0 0), (6, I (if 1 > (ho.rules.seats.length : Int) then 1 else (ho.rules.seats.length : Int))), (7, .p 0 0), (61, .v (.agg #[vi 1, vi (wr (1 + m23)), vi m25, vi (-1), vi (wr (1 + m27)), vi m36]))] ?_ ?_ rfl ?_)
                · as_aux_lemma => kernel_rfl
                · as_aux_lemma => kernel_rfl
                refine HALL [21] ?_ (by decide) ?_
                · as_aux_lemma => kernel_rfl
                refine RUNO [(0, .v (p)), (4, .e (some ⟨b22, 0, none⟩) 0 0), (6, I (if 1 > (ho.rules.seats.length : Int) then 1 else (ho.rules.seats.length : Int))), (7, .p 0 0)] [(25, [vi 1, vi (wr (1 + m23)), vi m25, vi (-1), vi (wr (1 + m27)), vi m36])] ?_ ?_
                · as_aux_lemma => kernel_rfl
                refine HKEEP (js := [0, 0]) rfl (HEND ?_ ?_)
                · as_aux_lemma => kernel_rfl
                refine IMPORT (L0 := [(45, [.slice ho_rules_seats_a ho.rules.seats.length ho_rules_seats_c, vi ho.rules.tiers, vi ho.rules.room, vi ho.rules.size, vi ho.rules.period, vi ho.rules.window, vi ho.rules.rest, vi ho.rules.tries, vi ho.rules.crew, vi ho.now, vi ho.turn, .slice ho_parties_a ho.parties.length ho_parties_c, .slice ho_cabins_a ho.cabins.length ho_cabins_c, .slice ho_todo_a ho.todo.length ho_todo_c, .slice ho_jobs_a ho.jobs.length ho_jobs_c]), (25, [vi 0, vi 0, vi 0, vi 0, vi 0, vi 0])]) (L1 := [(25, [vi 1, vi (wr (1 + m23)), vi m25, vi (-1), vi (wr (1 + m27)), vi m36])]) [b21, b22] rfl [0, 0] _ rfl [(0, .v (p)), (4, .p 1 0), (6, I (if 1 > (ho.rules.seats.length : Int) then 1 else (ho.rules.seats.length : Int))), (7, .p 2 0)] ?_ ?_ ?_
                · as_aux_lemma => kernel_rfl
                · as_aux_lemma => kernel_rfl
                refine NEXT (SEQ (SEQ (REGION [0, 1] rfl (RUN0 1 [1] [(0, .v (p)), (4, .p 1 0), (6, I (if 1 > (ho.rules.seats.length : Int) then 1 else (ho.rules.seats.length : Int))), (7, .p 2 0), (62, .v (p))] ?_ rfl ?_))))
                · as_aux_lemma => kernel_rfl
                refine OPC (CALL 19 #[p, vi 3] (some 63) ?_ [0] [curA (d) p] _ rfl (⟨{x : Bool // True}, fun q => .bool q.1, fun q => [curA (d) p]⟩) (fun w hw => l1Once_c w (d) (hd.fr hw.fr hS) p 3) (by rintro _ ⟨⟩; exact Nat.le_of_ble_eq_true rfl) ?_)
                · as_aux_lemma => kernel_rfl
                rintro ⟨m38, hm39⟩
                try dsimp only at hm39
                refine ENDOPS (NEXT (IF (m38) ?_ (fun bh40 => ?_) (fun bh40 => ?_)))
                · as_aux_lemma => kernel_rfl
                · -- m38 = true
                  have h40 := bh40
                  refine REGION [0, 1, 2, 3, 4] rfl (RUN0 2 [2, 3, 4] [(4, .p 1 0), (7, .p 2 0), (64, .v (p)), (65, I (if 1 > (ho.rules.seats.length : Int) then 1 else (ho.rules.seats.length : Int)))] ?_ rfl ?_)
                  · as_aux_lemma => kernel_rfl
                  refine OPC (CALL 23 #[p, vi (if 1 > (ho.rules.seats.length : Int) then 1 else (ho.rules.seats.length : Int))] (some 66) ?_ [0] [curA (d) p] _ rfl (⟨{x : Int // 0 ≤ x ∧ ((if 1 > (ho.rules.seats.length : Int) then 1 else (ho.rules.seats.length : Int)) ≤ 0 → x = 0) ∧ (0 < (if 1 > (ho.rules.seats.length : Int) then 1 else (ho.rules.seats.length : Int)) → x < (if 1 > (ho.rules.seats.length : Int) then 1 else (ho.rules.seats.length : Int)))}, fun q => vi q.1, fun q => [curA (d) p]⟩) (fun w hw => l1Below_c w (d) (hd.fr hw.fr hS) p (if 1 > (ho.rules.seats.length : Int) then 1 else (ho.rules.seats.length : Int))) (by rintro _ ⟨⟩; exact Nat.le_of_ble_eq_true rfl) ?_)
                  · as_aux_lemma => kernel_rfl
                  rintro ⟨m41, hm42⟩
                  try dsimp only at hm42
                  refine RUN 2 [] [(4, .p 1 0), (7, .p 2 0)] [(45, [.slice ho_rules_seats_a ho.rules.seats.length ho_rules_seats_c, vi ho.rules.tiers, vi ho.rules.room, vi ho.rules.size, vi ho.rules.period, vi ho.rules.window, vi ho.rules.rest, vi ho.rules.tries, vi ho.rules.crew, vi ho.now, vi ho.turn, .slice ho_parties_a ho.parties.length ho_parties_c, .slice ho_cabins_a ho.cabins.length ho_cabins_c, .slice ho_todo_a ho.todo.length ho_todo_c, .slice ho_jobs_a ho.jobs.length ho_jobs_c]), (25, [vi 0, vi 0, vi 0, vi 0, vi 0, vi 0]), (25, [vi 1, vi (wr (1 + m23)), vi m25, vi m41, vi (wr (1 + m27)), vi m36])] ?_ rfl ?_
                  · as_aux_lemma => kernel_rfl
                  refine ENDOPS (NEXT (SEQ (REGION [0, 1] rfl (RUN 2 [] [(4, .p 1 0)] [(45, [.slice ho_rules_seats_a ho.rules.seats.length ho_rules_seats_c, vi ho.rules.tiers, vi ho.rules.room, vi ho.rules.size, vi ho.rules.period, vi ho.rules.window, vi ho.rules.rest, vi ho.rules.tries, vi ho.rules.crew, vi ho.now, vi ho.turn, .slice ho_parties_a ho.parties.length ho_parties_c, .slice ho_cabins_a ho.cabins.length ho_cabins_c, .slice ho_todo_a ho.todo.length ho_todo_c, .slice ho_jobs_a ho.jobs.length ho_jobs_c]), (25, [vi 1, vi (wr (1 + m23)), vi m25, vi m41, vi (wr (1 + m27)), vi m36]), (25, [vi 1, vi (wr (1 + m23)), vi m25, vi m41, vi (wr (1 + m27)), vi m36])] ?_ rfl ?_))))
                  · as_aux_lemma => kernel_rfl
                  refine ENDOPS (NEXT (RET (OUTR (PASS trivial (FIN (.agg #[vi 1, vi (wr (1 + m23)), vi m25, vi m41, vi (wr (1 + m27)), vi m36]) ?_ ⟨(⟨1, wr (1 + m23), m25, m41, wr (1 + m27), m36⟩ : Req), trivial⟩ ?_ [0] ?_)))))
                  · as_aux_lemma => kernel_rfl
                  · rfl
                  · rfl
                · -- m38 = false
                  have h40 := bh40
                  refine SKIP (NEXT (SEQ (REGION [0, 1] rfl (RUN 2 [] [(4, .p 1 0)] [(45, [.slice ho_rules_seats_a ho.rules.seats.length ho_rules_seats_c, vi ho.rules.tiers, vi ho.rules.room, vi ho.rules.size, vi ho.rules.period, vi ho.rules.window, vi ho.rules.rest, vi ho.rules.tries, vi ho.rules.crew, vi ho.now, vi ho.turn, .slice ho_parties_a ho.parties.length ho_parties_c, .slice ho_cabins_a ho.cabins.length ho_cabins_c, .slice ho_todo_a ho.todo.length ho_todo_c, .slice ho_jobs_a ho.jobs.length ho_jobs_c]), (25, [vi 1, vi (wr (1 + m23)), vi m25, vi (-1), vi (wr (1 + m27)), vi m36]), (25, [vi 1, vi (wr (1 + m23)), vi m25, vi (-1), vi (wr (1 + m27)), vi m36])] ?_ rfl ?_))))
                  · as_aux_lemma => kernel_rfl
                  refine ENDOPS (NEXT (RET (OUTR (PASS trivial (FIN (.agg #[vi 1, vi (wr (1 + m23)), vi m25, vi (-1), vi (wr (1 + m27)), vi m36]) ?_ ⟨(⟨1, wr (1 + m23), m25, -1, wr (1 + m27), m36⟩ : Req), trivial⟩ ?_ [0] ?_)))))
                  · as_aux_lemma => kernel_rfl
                  · rfl
                  · rfl
            · -- operation 20 next
              refine RUNO [(0, .v (p)), (4, .e (some ⟨b22, 0, none⟩) 0 0), (6, I (if 1 > (ho.rules.seats.length : Int) then 1 else (ho.rules.seats.length : Int))), (7, .p 0 0), (44, I (wr (1 + m23))), (47, I m25), (54, I (wr (1 + m27))), (55, .v (p)), (58, I ho.rules.tiers)] [(25, [vi 0, vi 0, vi 0, vi 0, vi 0, vi 0])] ?_ ?_
              · as_aux_lemma => kernel_rfl
              refine HKEEP (js := [0, 0]) rfl (HALL [17] ?_ (by decide) ?_)
              · as_aux_lemma => kernel_rfl
              refine CALL 40 #[vi 1, vi ho.rules.tiers] (some 59) ?_ [] [] _ rfl (RV (vi (if 1 > ho.rules.tiers then 1 else ho.rules.tiers))) (fun w hw => l1Max_c w 1 ho.rules.tiers) (by rintro _ ⟨⟩; exact Nat.le_of_ble_eq_true rfl) ?_
              · as_aux_lemma => kernel_rfl
              rintro ⟨⟩
              refine HKEEP (js := [0, 0]) rfl (HALL [18] ?_ (by decide) ?_)
              · as_aux_lemma => kernel_rfl
              refine CALL 23 #[p, vi (if 1 > ho.rules.tiers then 1 else ho.rules.tiers)] (some 60) ?_ [2] [curA (d) p] _ rfl (⟨{x : Int // 0 ≤ x ∧ ((if 1 > ho.rules.tiers then 1 else ho.rules.tiers) ≤ 0 → x = 0) ∧ (0 < (if 1 > ho.rules.tiers then 1 else ho.rules.tiers) → x < (if 1 > ho.rules.tiers then 1 else ho.rules.tiers))}, fun q => vi q.1, fun q => [curA (d) p]⟩) (fun w hw => l1Below_c w (d) (hd.fr hw.fr hS) p (if 1 > ho.rules.tiers then 1 else ho.rules.tiers)) (by rintro _ ⟨⟩; exact Nat.le_of_ble_eq_true rfl) ?_
              · as_aux_lemma => kernel_rfl
              rintro ⟨m43, hm44⟩
              try dsimp only at hm44
              refine HKEEP (js := [0, 0]) rfl (HPURE (js := [0, 0]) 19 [(0, .v (p)), (4, .e (some ⟨b22, 0, none⟩) 0 0), (6, I (if 1 > (ho.rules.seats.length : Int) then 1 else (ho.rules.seats.length : Int))), (7, .p 0 0), (61, .v (.agg #[vi 1, vi (wr (1 + m23)), vi m25, vi (-1), vi (wr (1 + m27)), vi m43]))] ?_ ?_ rfl ?_)
              · as_aux_lemma => kernel_rfl
              · as_aux_lemma => kernel_rfl
              refine HALL [21] ?_ (by decide) ?_
              · as_aux_lemma => kernel_rfl
              refine RUNO [(0, .v (p)), (4, .e (some ⟨b22, 0, none⟩) 0 0), (6, I (if 1 > (ho.rules.seats.length : Int) then 1 else (ho.rules.seats.length : Int))), (7, .p 0 0)] [(25, [vi 1, vi (wr (1 + m23)), vi m25, vi (-1), vi (wr (1 + m27)), vi m43])] ?_ ?_
              · as_aux_lemma => kernel_rfl
              refine HKEEP (js := [0, 0]) rfl (HEND ?_ ?_)
              · as_aux_lemma => kernel_rfl
              refine IMPORT (L0 := [(45, [.slice ho_rules_seats_a ho.rules.seats.length ho_rules_seats_c, vi ho.rules.tiers, vi ho.rules.room, vi ho.rules.size, vi ho.rules.period, vi ho.rules.window, vi ho.rules.rest, vi ho.rules.tries, vi ho.rules.crew, vi ho.now, vi ho.turn, .slice ho_parties_a ho.parties.length ho_parties_c, .slice ho_cabins_a ho.cabins.length ho_cabins_c, .slice ho_todo_a ho.todo.length ho_todo_c, .slice ho_jobs_a ho.jobs.length ho_jobs_c]), (25, [vi 0, vi 0, vi 0, vi 0, vi 0, vi 0])]) (L1 := [(25, [vi 1, vi (wr (1 + m23)), vi m25, vi (-1), vi (wr (1 + m27)), vi m43])]) [b21, b22] rfl [0, 0] _ rfl [(0, .v (p)), (4, .p 1 0), (6, I (if 1 > (ho.rules.seats.length : Int) then 1 else (ho.rules.seats.length : Int))), (7, .p 2 0)] ?_ ?_ ?_
              · as_aux_lemma => kernel_rfl
              · as_aux_lemma => kernel_rfl
              refine NEXT (SEQ (SEQ (REGION [0, 1] rfl (RUN0 1 [1] [(0, .v (p)), (4, .p 1 0), (6, I (if 1 > (ho.rules.seats.length : Int) then 1 else (ho.rules.seats.length : Int))), (7, .p 2 0), (62, .v (p))] ?_ rfl ?_))))
              · as_aux_lemma => kernel_rfl
              refine OPC (CALL 19 #[p, vi 3] (some 63) ?_ [0] [curA (d) p] _ rfl (⟨{x : Bool // True}, fun q => .bool q.1, fun q => [curA (d) p]⟩) (fun w hw => l1Once_c w (d) (hd.fr hw.fr hS) p 3) (by rintro _ ⟨⟩; exact Nat.le_of_ble_eq_true rfl) ?_)
              · as_aux_lemma => kernel_rfl
              rintro ⟨m45, hm46⟩
              try dsimp only at hm46
              refine ENDOPS (NEXT (IF (m45) ?_ (fun bh47 => ?_) (fun bh47 => ?_)))
              · as_aux_lemma => kernel_rfl
              · -- m45 = true
                have h47 := bh47
                refine REGION [0, 1, 2, 3, 4] rfl (RUN0 2 [2, 3, 4] [(4, .p 1 0), (7, .p 2 0), (64, .v (p)), (65, I (if 1 > (ho.rules.seats.length : Int) then 1 else (ho.rules.seats.length : Int)))] ?_ rfl ?_)
                · as_aux_lemma => kernel_rfl
                refine OPC (CALL 23 #[p, vi (if 1 > (ho.rules.seats.length : Int) then 1 else (ho.rules.seats.length : Int))] (some 66) ?_ [0] [curA (d) p] _ rfl (⟨{x : Int // 0 ≤ x ∧ ((if 1 > (ho.rules.seats.length : Int) then 1 else (ho.rules.seats.length : Int)) ≤ 0 → x = 0) ∧ (0 < (if 1 > (ho.rules.seats.length : Int) then 1 else (ho.rules.seats.length : Int)) → x < (if 1 > (ho.rules.seats.length : Int) then 1 else (ho.rules.seats.length : Int)))}, fun q => vi q.1, fun q => [curA (d) p]⟩) (fun w hw => l1Below_c w (d) (hd.fr hw.fr hS) p (if 1 > (ho.rules.seats.length : Int) then 1 else (ho.rules.seats.length : Int))) (by rintro _ ⟨⟩; exact Nat.le_of_ble_eq_true rfl) ?_)
                · as_aux_lemma => kernel_rfl
                rintro ⟨m48, hm49⟩
                try dsimp only at hm49
                refine RUN 2 [] [(4, .p 1 0), (7, .p 2 0)] [(45, [.slice ho_rules_seats_a ho.rules.seats.length ho_rules_seats_c, vi ho.rules.tiers, vi ho.rules.room, vi ho.rules.size, vi ho.rules.period, vi ho.rules.window, vi ho.rules.rest, vi ho.rules.tries, vi ho.rules.crew, vi ho.now, vi ho.turn, .slice ho_parties_a ho.parties.length ho_parties_c, .slice ho_cabins_a ho.cabins.length ho_cabins_c, .slice ho_todo_a ho.todo.length ho_todo_c, .slice ho_jobs_a ho.jobs.length ho_jobs_c]), (25, [vi 0, vi 0, vi 0, vi 0, vi 0, vi 0]), (25, [vi 1, vi (wr (1 + m23)), vi m25, vi m48, vi (wr (1 + m27)), vi m43])] ?_ rfl ?_
                · as_aux_lemma => kernel_rfl
                refine ENDOPS (NEXT (SEQ (REGION [0, 1] rfl (RUN 2 [] [(4, .p 1 0)] [(45, [.slice ho_rules_seats_a ho.rules.seats.length ho_rules_seats_c, vi ho.rules.tiers, vi ho.rules.room, vi ho.rules.size, vi ho.rules.period, vi ho.rules.window, vi ho.rules.rest, vi ho.rules.tries, vi ho.rules.crew, vi ho.now, vi ho.turn, .slice ho_parties_a ho.parties.length ho_parties_c, .slice ho_cabins_a ho.cabins.length ho_cabins_c, .slice ho_todo_a ho.todo.length ho_todo_c, .slice ho_jobs_a ho.jobs.length ho_jobs_c]), (25, [vi 1, vi (wr (1 + m23)), vi m25, vi m48, vi (wr (1 + m27)), vi m43]), (25, [vi 1, vi (wr (1 + m23)), vi m25, vi m48, vi (wr (1 + m27)), vi m43])] ?_ rfl ?_))))
                · as_aux_lemma => kernel_rfl
                refine ENDOPS (NEXT (RET (OUTR (PASS trivial (FIN (.agg #[vi 1, vi (wr (1 + m23)), vi m25, vi m48, vi (wr (1 + m27)), vi m43]) ?_ ⟨(⟨1, wr (1 + m23), m25, m48, wr (1 + m27), m43⟩ : Req), trivial⟩ ?_ [0] ?_)))))
                · as_aux_lemma => kernel_rfl
                · rfl
                · rfl
              · -- m45 = false
                have h47 := bh47
                refine SKIP (NEXT (SEQ (REGION [0, 1] rfl (RUN 2 [] [(4, .p 1 0)] [(45, [.slice ho_rules_seats_a ho.rules.seats.length ho_rules_seats_c, vi ho.rules.tiers, vi ho.rules.room, vi ho.rules.size, vi ho.rules.period, vi ho.rules.window, vi ho.rules.rest, vi ho.rules.tries, vi ho.rules.crew, vi ho.now, vi ho.turn, .slice ho_parties_a ho.parties.length ho_parties_c, .slice ho_cabins_a ho.cabins.length ho_cabins_c, .slice ho_todo_a ho.todo.length ho_todo_c, .slice ho_jobs_a ho.jobs.length ho_jobs_c]), (25, [vi 1, vi (wr (1 + m23)), vi m25, vi (-1), vi (wr (1 + m27)), vi m43]), (25, [vi 1, vi (wr (1 + m23)), vi m25, vi (-1), vi (wr (1 + m27)), vi m43])] ?_ rfl ?_))))
                · as_aux_lemma => kernel_rfl
                refine ENDOPS (NEXT (RET (OUTR (PASS trivial (FIN (.agg #[vi 1, vi (wr (1 + m23)), vi m25, vi (-1), vi (wr (1 + m27)), vi m43]) ?_ ⟨(⟨1, wr (1 + m23), m25, -1, wr (1 + m27), m43⟩ : Req), trivial⟩ ?_ [0] ?_)))))
                · as_aux_lemma => kernel_rfl
                · rfl
                · rfl
          · -- operation 20 next
            refine RUNO [(0, .v (p)), (4, .e (some ⟨b22, 0, none⟩) 0 0), (6, I (if 1 > (ho.rules.seats.length : Int) then 1 else (ho.rules.seats.length : Int))), (7, .p 0 0), (44, I (wr (1 + m23))), (47, I m25), (48, .v (p)), (52, I (if 1 > ho.rules.size then 1 else ho.rules.size)), (55, .v (p)), (58, I ho.rules.tiers)] [(25, [vi 0, vi 0, vi 0, vi 0, vi 0, vi 0])] ?_ ?_
            · as_aux_lemma => kernel_rfl
            refine HKEEP (js := [0, 0]) rfl (HALL [11] ?_ (by decide) ?_)
            · as_aux_lemma => kernel_rfl
            refine CALL 23 #[p, vi (if 1 > ho.rules.size then 1 else ho.rules.size)] (some 53) ?_ [2] [curA (d) p] _ rfl (⟨{x : Int // 0 ≤ x ∧ ((if 1 > ho.rules.size then 1 else ho.rules.size) ≤ 0 → x = 0) ∧ (0 < (if 1 > ho.rules.size then 1 else ho.rules.size) → x < (if 1 > ho.rules.size then 1 else ho.rules.size))}, fun q => vi q.1, fun q => [curA (d) p]⟩) (fun w hw => l1Below_c w (d) (hd.fr hw.fr hS) p (if 1 > ho.rules.size then 1 else ho.rules.size)) (by rintro _ ⟨⟩; exact Nat.le_of_ble_eq_true rfl) ?_
            · as_aux_lemma => kernel_rfl
            rintro ⟨m50, hm51⟩
            try dsimp only at hm51
            refine HKEEP (js := [0, 0]) rfl (HPURE (js := [0, 0]) 12 [(0, .v (p)), (4, .e (some ⟨b22, 0, none⟩) 0 0), (6, I (if 1 > (ho.rules.seats.length : Int) then 1 else (ho.rules.seats.length : Int))), (7, .p 0 0), (44, I (wr (1 + m23))), (47, I m25), (54, I (wr (1 + m50))), (55, .v (p)), (58, I ho.rules.tiers)] ?_ ?_ rfl ?_)
            · as_aux_lemma => kernel_rfl
            · as_aux_lemma => kernel_rfl
            refine HALL [17] ?_ (by decide) ?_
            · as_aux_lemma => kernel_rfl
            refine CALL 40 #[vi 1, vi ho.rules.tiers] (some 59) ?_ [] [] _ rfl (RV (vi (if 1 > ho.rules.tiers then 1 else ho.rules.tiers))) (fun w hw => l1Max_c w 1 ho.rules.tiers) (by rintro _ ⟨⟩; exact Nat.le_of_ble_eq_true rfl) ?_
            · as_aux_lemma => kernel_rfl
            rintro ⟨⟩
            refine HKEEP (js := [0, 0]) rfl (HALL [18] ?_ (by decide) ?_)
            · as_aux_lemma => kernel_rfl
            refine CALL 23 #[p, vi (if 1 > ho.rules.tiers then 1 else ho.rules.tiers)] (some 60) ?_ [2] [curA (d) p] _ rfl (⟨{x : Int // 0 ≤ x ∧ ((if 1 > ho.rules.tiers then 1 else ho.rules.tiers) ≤ 0 → x = 0) ∧ (0 < (if 1 > ho.rules.tiers then 1 else ho.rules.tiers) → x < (if 1 > ho.rules.tiers then 1 else ho.rules.tiers))}, fun q => vi q.1, fun q => [curA (d) p]⟩) (fun w hw => l1Below_c w (d) (hd.fr hw.fr hS) p (if 1 > ho.rules.tiers then 1 else ho.rules.tiers)) (by rintro _ ⟨⟩; exact Nat.le_of_ble_eq_true rfl) ?_
            · as_aux_lemma => kernel_rfl
            rintro ⟨m52, hm53⟩
            try dsimp only at hm53
            refine HKEEP (js := [0, 0]) rfl (HPURE (js := [0, 0]) 19 [(0, .v (p)), (4, .e (some ⟨b22, 0, none⟩) 0 0), (6, I (if 1 > (ho.rules.seats.length : Int) then 1 else (ho.rules.seats.length : Int))), (7, .p 0 0), (61, .v (.agg #[vi 1, vi (wr (1 + m23)), vi m25, vi (-1), vi (wr (1 + m50)), vi m52]))] ?_ ?_ rfl ?_)
            · as_aux_lemma => kernel_rfl
            · as_aux_lemma => kernel_rfl
            refine HALL [21] ?_ (by decide) ?_
            · as_aux_lemma => kernel_rfl
            refine RUNO [(0, .v (p)), (4, .e (some ⟨b22, 0, none⟩) 0 0), (6, I (if 1 > (ho.rules.seats.length : Int) then 1 else (ho.rules.seats.length : Int))), (7, .p 0 0)] [(25, [vi 1, vi (wr (1 + m23)), vi m25, vi (-1), vi (wr (1 + m50)), vi m52])] ?_ ?_
            · as_aux_lemma => kernel_rfl
            refine HKEEP (js := [0, 0]) rfl (HEND ?_ ?_)
            · as_aux_lemma => kernel_rfl
            refine IMPORT (L0 := [(45, [.slice ho_rules_seats_a ho.rules.seats.length ho_rules_seats_c, vi ho.rules.tiers, vi ho.rules.room, vi ho.rules.size, vi ho.rules.period, vi ho.rules.window, vi ho.rules.rest, vi ho.rules.tries, vi ho.rules.crew, vi ho.now, vi ho.turn, .slice ho_parties_a ho.parties.length ho_parties_c, .slice ho_cabins_a ho.cabins.length ho_cabins_c, .slice ho_todo_a ho.todo.length ho_todo_c, .slice ho_jobs_a ho.jobs.length ho_jobs_c]), (25, [vi 0, vi 0, vi 0, vi 0, vi 0, vi 0])]) (L1 := [(25, [vi 1, vi (wr (1 + m23)), vi m25, vi (-1), vi (wr (1 + m50)), vi m52])]) [b21, b22] rfl [0, 0] _ rfl [(0, .v (p)), (4, .p 1 0), (6, I (if 1 > (ho.rules.seats.length : Int) then 1 else (ho.rules.seats.length : Int))), (7, .p 2 0)] ?_ ?_ ?_
            · as_aux_lemma => kernel_rfl
            · as_aux_lemma => kernel_rfl
            refine NEXT (SEQ (SEQ (REGION [0, 1] rfl (RUN0 1 [1] [(0, .v (p)), (4, .p 1 0), (6, I (if 1 > (ho.rules.seats.length : Int) then 1 else (ho.rules.seats.length : Int))), (7, .p 2 0), (62, .v (p))] ?_ rfl ?_))))
            · as_aux_lemma => kernel_rfl
            refine OPC (CALL 19 #[p, vi 3] (some 63) ?_ [0] [curA (d) p] _ rfl (⟨{x : Bool // True}, fun q => .bool q.1, fun q => [curA (d) p]⟩) (fun w hw => l1Once_c w (d) (hd.fr hw.fr hS) p 3) (by rintro _ ⟨⟩; exact Nat.le_of_ble_eq_true rfl) ?_)
            · as_aux_lemma => kernel_rfl
            rintro ⟨m54, hm55⟩
            try dsimp only at hm55
            refine ENDOPS (NEXT (IF (m54) ?_ (fun bh56 => ?_) (fun bh56 => ?_)))
            · as_aux_lemma => kernel_rfl
            · -- m54 = true
              have h56 := bh56
              refine REGION [0, 1, 2, 3, 4] rfl (RUN0 2 [2, 3, 4] [(4, .p 1 0), (7, .p 2 0), (64, .v (p)), (65, I (if 1 > (ho.rules.seats.length : Int) then 1 else (ho.rules.seats.length : Int)))] ?_ rfl ?_)
              · as_aux_lemma => kernel_rfl
              refine OPC (CALL 23 #[p, vi (if 1 > (ho.rules.seats.length : Int) then 1 else (ho.rules.seats.length : Int))] (some 66) ?_ [0] [curA (d) p] _ rfl (⟨{x : Int // 0 ≤ x ∧ ((if 1 > (ho.rules.seats.length : Int) then 1 else (ho.rules.seats.length : Int)) ≤ 0 → x = 0) ∧ (0 < (if 1 > (ho.rules.seats.length : Int) then 1 else (ho.rules.seats.length : Int)) → x < (if 1 > (ho.rules.seats.length : Int) then 1 else (ho.rules.seats.length : Int)))}, fun q => vi q.1, fun q => [curA (d) p]⟩) (fun w hw => l1Below_c w (d) (hd.fr hw.fr hS) p (if 1 > (ho.rules.seats.length : Int) then 1 else (ho.rules.seats.length : Int))) (by rintro _ ⟨⟩; exact Nat.le_of_ble_eq_true rfl) ?_)
              · as_aux_lemma => kernel_rfl
              rintro ⟨m57, hm58⟩
              try dsimp only at hm58
              refine RUN 2 [] [(4, .p 1 0), (7, .p 2 0)] [(45, [.slice ho_rules_seats_a ho.rules.seats.length ho_rules_seats_c, vi ho.rules.tiers, vi ho.rules.room, vi ho.rules.size, vi ho.rules.period, vi ho.rules.window, vi ho.rules.rest, vi ho.rules.tries, vi ho.rules.crew, vi ho.now, vi ho.turn, .slice ho_parties_a ho.parties.length ho_parties_c, .slice ho_cabins_a ho.cabins.length ho_cabins_c, .slice ho_todo_a ho.todo.length ho_todo_c, .slice ho_jobs_a ho.jobs.length ho_jobs_c]), (25, [vi 0, vi 0, vi 0, vi 0, vi 0, vi 0]), (25, [vi 1, vi (wr (1 + m23)), vi m25, vi m57, vi (wr (1 + m50)), vi m52])] ?_ rfl ?_
              · as_aux_lemma => kernel_rfl
              refine ENDOPS (NEXT (SEQ (REGION [0, 1] rfl (RUN 2 [] [(4, .p 1 0)] [(45, [.slice ho_rules_seats_a ho.rules.seats.length ho_rules_seats_c, vi ho.rules.tiers, vi ho.rules.room, vi ho.rules.size, vi ho.rules.period, vi ho.rules.window, vi ho.rules.rest, vi ho.rules.tries, vi ho.rules.crew, vi ho.now, vi ho.turn, .slice ho_parties_a ho.parties.length ho_parties_c, .slice ho_cabins_a ho.cabins.length ho_cabins_c, .slice ho_todo_a ho.todo.length ho_todo_c, .slice ho_jobs_a ho.jobs.length ho_jobs_c]), (25, [vi 1, vi (wr (1 + m23)), vi m25, vi m57, vi (wr (1 + m50)), vi m52]), (25, [vi 1, vi (wr (1 + m23)), vi m25, vi m57, vi (wr (1 + m50)), vi m52])] ?_ rfl ?_))))
              · as_aux_lemma => kernel_rfl
              refine ENDOPS (NEXT (RET (OUTR (PASS trivial (FIN (.agg #[vi 1, vi (wr (1 + m23)), vi m25, vi m57, vi (wr (1 + m50)), vi m52]) ?_ ⟨(⟨1, wr (1 + m23), m25, m57, wr (1 + m50), m52⟩ : Req), trivial⟩ ?_ [0] ?_)))))
              · as_aux_lemma => kernel_rfl
              · rfl
              · rfl
            · -- m54 = false
              have h56 := bh56
              refine SKIP (NEXT (SEQ (REGION [0, 1] rfl (RUN 2 [] [(4, .p 1 0)] [(45, [.slice ho_rules_seats_a ho.rules.seats.length ho_rules_seats_c, vi ho.rules.tiers, vi ho.rules.room, vi ho.rules.size, vi ho.rules.period, vi ho.rules.window, vi ho.rules.rest, vi ho.rules.tries, vi ho.rules.crew, vi ho.now, vi ho.turn, .slice ho_parties_a ho.parties.length ho_parties_c, .slice ho_cabins_a ho.cabins.length ho_cabins_c, .slice ho_todo_a ho.todo.length ho_todo_c, .slice ho_jobs_a ho.jobs.length ho_jobs_c]), (25, [vi 1, vi (wr (1 + m23)), vi m25, vi (-1), vi (wr (1 + m50)), vi m52]), (25, [vi 1, vi (wr (1 + m23)), vi m25, vi (-1), vi (wr (1 + m50)), vi m52])] ?_ rfl ?_))))
              · as_aux_lemma => kernel_rfl
              refine ENDOPS (NEXT (RET (OUTR (PASS trivial (FIN (.agg #[vi 1, vi (wr (1 + m23)), vi m25, vi (-1), vi (wr (1 + m50)), vi m52]) ?_ ⟨(⟨1, wr (1 + m23), m25, -1, wr (1 + m50), m52⟩ : Req), trivial⟩ ?_ [0] ?_)))))
              · as_aux_lemma => kernel_rfl
              · rfl
              · rfl
        · -- operation 20 next
          refine RUNO [(0, .v (p)), (4, .e (some ⟨b22, 0, none⟩) 0 0), (6, I (if 1 > (ho.rules.seats.length : Int) then 1 else (ho.rules.seats.length : Int))), (7, .p 0 0), (44, I (wr (1 + m23))), (47, I m25), (48, .v (p)), (51, I ho.rules.size), (55, .v (p)), (58, I ho.rules.tiers)] [(25, [vi 0, vi 0, vi 0, vi 0, vi 0, vi 0])] ?_ ?_
          · as_aux_lemma => kernel_rfl
          refine HKEEP (js := [0, 0]) rfl (HALL [10] ?_ (by decide) ?_)
          · as_aux_lemma => kernel_rfl
          refine CALL 40 #[vi 1, vi ho.rules.size] (some 52) ?_ [] [] _ rfl (RV (vi (if 1 > ho.rules.size then 1 else ho.rules.size))) (fun w hw => l1Max_c w 1 ho.rules.size) (by rintro _ ⟨⟩; exact Nat.le_of_ble_eq_true rfl) ?_
          · as_aux_lemma => kernel_rfl
          rintro ⟨⟩
          refine HKEEP (js := [0, 0]) rfl (HALL [11] ?_ (by decide) ?_)
          · as_aux_lemma => kernel_rfl
          refine CALL 23 #[p, vi (if 1 > ho.rules.size then 1 else ho.rules.size)] (some 53) ?_ [2] [curA (d) p] _ rfl (⟨{x : Int // 0 ≤ x ∧ ((if 1 > ho.rules.size then 1 else ho.rules.size) ≤ 0 → x = 0) ∧ (0 < (if 1 > ho.rules.size then 1 else ho.rules.size) → x < (if 1 > ho.rules.size then 1 else ho.rules.size))}, fun q => vi q.1, fun q => [curA (d) p]⟩) (fun w hw => l1Below_c w (d) (hd.fr hw.fr hS) p (if 1 > ho.rules.size then 1 else ho.rules.size)) (by rintro _ ⟨⟩; exact Nat.le_of_ble_eq_true rfl) ?_
          · as_aux_lemma => kernel_rfl
          rintro ⟨m59, hm60⟩
          try dsimp only at hm60
          refine HKEEP (js := [0, 0]) rfl (HPURE (js := [0, 0]) 12 [(0, .v (p)), (4, .e (some ⟨b22, 0, none⟩) 0 0), (6, I (if 1 > (ho.rules.seats.length : Int) then 1 else (ho.rules.seats.length : Int))), (7, .p 0 0), (44, I (wr (1 + m23))), (47, I m25), (54, I (wr (1 + m59))), (55, .v (p)), (58, I ho.rules.tiers)] ?_ ?_ rfl ?_)
          · as_aux_lemma => kernel_rfl
          · as_aux_lemma => kernel_rfl
          refine HALL [17] ?_ (by decide) ?_
          · as_aux_lemma => kernel_rfl
          refine CALL 40 #[vi 1, vi ho.rules.tiers] (some 59) ?_ [] [] _ rfl (RV (vi (if 1 > ho.rules.tiers then 1 else ho.rules.tiers))) (fun w hw => l1Max_c w 1 ho.rules.tiers) (by rintro _ ⟨⟩; exact Nat.le_of_ble_eq_true rfl) ?_
          · as_aux_lemma => kernel_rfl
          rintro ⟨⟩
          refine HKEEP (js := [0, 0]) rfl (HALL [18] ?_ (by decide) ?_)
          · as_aux_lemma => kernel_rfl
          refine CALL 23 #[p, vi (if 1 > ho.rules.tiers then 1 else ho.rules.tiers)] (some 60) ?_ [2] [curA (d) p] _ rfl (⟨{x : Int // 0 ≤ x ∧ ((if 1 > ho.rules.tiers then 1 else ho.rules.tiers) ≤ 0 → x = 0) ∧ (0 < (if 1 > ho.rules.tiers then 1 else ho.rules.tiers) → x < (if 1 > ho.rules.tiers then 1 else ho.rules.tiers))}, fun q => vi q.1, fun q => [curA (d) p]⟩) (fun w hw => l1Below_c w (d) (hd.fr hw.fr hS) p (if 1 > ho.rules.tiers then 1 else ho.rules.tiers)) (by rintro _ ⟨⟩; exact Nat.le_of_ble_eq_true rfl) ?_
          · as_aux_lemma => kernel_rfl
          rintro ⟨m61, hm62⟩
          try dsimp only at hm62
          refine HKEEP (js := [0, 0]) rfl (HPURE (js := [0, 0]) 19 [(0, .v (p)), (4, .e (some ⟨b22, 0, none⟩) 0 0), (6, I (if 1 > (ho.rules.seats.length : Int) then 1 else (ho.rules.seats.length : Int))), (7, .p 0 0), (61, .v (.agg #[vi 1, vi (wr (1 + m23)), vi m25, vi (-1), vi (wr (1 + m59)), vi m61]))] ?_ ?_ rfl ?_)
          · as_aux_lemma => kernel_rfl
          · as_aux_lemma => kernel_rfl
          refine HALL [21] ?_ (by decide) ?_
          · as_aux_lemma => kernel_rfl
          refine RUNO [(0, .v (p)), (4, .e (some ⟨b22, 0, none⟩) 0 0), (6, I (if 1 > (ho.rules.seats.length : Int) then 1 else (ho.rules.seats.length : Int))), (7, .p 0 0)] [(25, [vi 1, vi (wr (1 + m23)), vi m25, vi (-1), vi (wr (1 + m59)), vi m61])] ?_ ?_
          · as_aux_lemma => kernel_rfl
          refine HKEEP (js := [0, 0]) rfl (HEND ?_ ?_)
          · as_aux_lemma => kernel_rfl
          refine IMPORT (L0 := [(45, [.slice ho_rules_seats_a ho.rules.seats.length ho_rules_seats_c, vi ho.rules.tiers, vi ho.rules.room, vi ho.rules.size, vi ho.rules.period, vi ho.rules.window, vi ho.rules.rest, vi ho.rules.tries, vi ho.rules.crew, vi ho.now, vi ho.turn, .slice ho_parties_a ho.parties.length ho_parties_c, .slice ho_cabins_a ho.cabins.length ho_cabins_c, .slice ho_todo_a ho.todo.length ho_todo_c, .slice ho_jobs_a ho.jobs.length ho_jobs_c]), (25, [vi 0, vi 0, vi 0, vi 0, vi 0, vi 0])]) (L1 := [(25, [vi 1, vi (wr (1 + m23)), vi m25, vi (-1), vi (wr (1 + m59)), vi m61])]) [b21, b22] rfl [0, 0] _ rfl [(0, .v (p)), (4, .p 1 0), (6, I (if 1 > (ho.rules.seats.length : Int) then 1 else (ho.rules.seats.length : Int))), (7, .p 2 0)] ?_ ?_ ?_
          · as_aux_lemma => kernel_rfl
          · as_aux_lemma => kernel_rfl
          refine NEXT (SEQ (SEQ (REGION [0, 1] rfl (RUN0 1 [1] [(0, .v (p)), (4, .p 1 0), (6, I (if 1 > (ho.rules.seats.length : Int) then 1 else (ho.rules.seats.length : Int))), (7, .p 2 0), (62, .v (p))] ?_ rfl ?_))))
          · as_aux_lemma => kernel_rfl
          refine OPC (CALL 19 #[p, vi 3] (some 63) ?_ [0] [curA (d) p] _ rfl (⟨{x : Bool // True}, fun q => .bool q.1, fun q => [curA (d) p]⟩) (fun w hw => l1Once_c w (d) (hd.fr hw.fr hS) p 3) (by rintro _ ⟨⟩; exact Nat.le_of_ble_eq_true rfl) ?_)
          · as_aux_lemma => kernel_rfl
          rintro ⟨m63, hm64⟩
          try dsimp only at hm64
          refine ENDOPS (NEXT (IF (m63) ?_ (fun bh65 => ?_) (fun bh65 => ?_)))
          · as_aux_lemma => kernel_rfl
          · -- m63 = true
            have h65 := bh65
            refine REGION [0, 1, 2, 3, 4] rfl (RUN0 2 [2, 3, 4] [(4, .p 1 0), (7, .p 2 0), (64, .v (p)), (65, I (if 1 > (ho.rules.seats.length : Int) then 1 else (ho.rules.seats.length : Int)))] ?_ rfl ?_)
            · as_aux_lemma => kernel_rfl
            refine OPC (CALL 23 #[p, vi (if 1 > (ho.rules.seats.length : Int) then 1 else (ho.rules.seats.length : Int))] (some 66) ?_ [0] [curA (d) p] _ rfl (⟨{x : Int // 0 ≤ x ∧ ((if 1 > (ho.rules.seats.length : Int) then 1 else (ho.rules.seats.length : Int)) ≤ 0 → x = 0) ∧ (0 < (if 1 > (ho.rules.seats.length : Int) then 1 else (ho.rules.seats.length : Int)) → x < (if 1 > (ho.rules.seats.length : Int) then 1 else (ho.rules.seats.length : Int)))}, fun q => vi q.1, fun q => [curA (d) p]⟩) (fun w hw => l1Below_c w (d) (hd.fr hw.fr hS) p (if 1 > (ho.rules.seats.length : Int) then 1 else (ho.rules.seats.length : Int))) (by rintro _ ⟨⟩; exact Nat.le_of_ble_eq_true rfl) ?_)
            · as_aux_lemma => kernel_rfl
            rintro ⟨m66, hm67⟩
            try dsimp only at hm67
            refine RUN 2 [] [(4, .p 1 0), (7, .p 2 0)] [(45, [.slice ho_rules_seats_a ho.rules.seats.length ho_rules_seats_c, vi ho.rules.tiers, vi ho.rules.room, vi ho.rules.size, vi ho.rules.period, vi ho.rules.window, vi ho.rules.rest, vi ho.rules.tries, vi ho.rules.crew, vi ho.now, vi ho.turn, .slice ho_parties_a ho.parties.length ho_parties_c, .slice ho_cabins_a ho.cabins.length ho_cabins_c, .slice ho_todo_a ho.todo.length ho_todo_c, .slice ho_jobs_a ho.jobs.length ho_jobs_c]), (25, [vi 0, vi 0, vi 0, vi 0, vi 0, vi 0]), (25, [vi 1, vi (wr (1 + m23)), vi m25, vi m66, vi (wr (1 + m59)), vi m61])] ?_ rfl ?_
            · as_aux_lemma => kernel_rfl
            refine ENDOPS (NEXT (SEQ (REGION [0, 1] rfl (RUN 2 [] [(4, .p 1 0)] [(45, [.slice ho_rules_seats_a ho.rules.seats.length ho_rules_seats_c, vi ho.rules.tiers, vi ho.rules.room, vi ho.rules.size, vi ho.rules.period, vi ho.rules.window, vi ho.rules.rest, vi ho.rules.tries, vi ho.rules.crew, vi ho.now, vi ho.turn, .slice ho_parties_a ho.parties.length ho_parties_c, .slice ho_cabins_a ho.cabins.length ho_cabins_c, .slice ho_todo_a ho.todo.length ho_todo_c, .slice ho_jobs_a ho.jobs.length ho_jobs_c]), (25, [vi 1, vi (wr (1 + m23)), vi m25, vi m66, vi (wr (1 + m59)), vi m61]), (25, [vi 1, vi (wr (1 + m23)), vi m25, vi m66, vi (wr (1 + m59)), vi m61])] ?_ rfl ?_))))
            · as_aux_lemma => kernel_rfl
            refine ENDOPS (NEXT (RET (OUTR (PASS trivial (FIN (.agg #[vi 1, vi (wr (1 + m23)), vi m25, vi m66, vi (wr (1 + m59)), vi m61]) ?_ ⟨(⟨1, wr (1 + m23), m25, m66, wr (1 + m59), m61⟩ : Req), trivial⟩ ?_ [0] ?_)))))
            · as_aux_lemma => kernel_rfl
            · rfl
            · rfl
          · -- m63 = false
            have h65 := bh65
            refine SKIP (NEXT (SEQ (REGION [0, 1] rfl (RUN 2 [] [(4, .p 1 0)] [(45, [.slice ho_rules_seats_a ho.rules.seats.length ho_rules_seats_c, vi ho.rules.tiers, vi ho.rules.room, vi ho.rules.size, vi ho.rules.period, vi ho.rules.window, vi ho.rules.rest, vi ho.rules.tries, vi ho.rules.crew, vi ho.now, vi ho.turn, .slice ho_parties_a ho.parties.length ho_parties_c, .slice ho_cabins_a ho.cabins.length ho_cabins_c, .slice ho_todo_a ho.todo.length ho_todo_c, .slice ho_jobs_a ho.jobs.length ho_jobs_c]), (25, [vi 1, vi (wr (1 + m23)), vi m25, vi (-1), vi (wr (1 + m59)), vi m61]), (25, [vi 1, vi (wr (1 + m23)), vi m25, vi (-1), vi (wr (1 + m59)), vi m61])] ?_ rfl ?_))))
            · as_aux_lemma => kernel_rfl
            refine ENDOPS (NEXT (RET (OUTR (PASS trivial (FIN (.agg #[vi 1, vi (wr (1 + m23)), vi m25, vi (-1), vi (wr (1 + m59)), vi m61]) ?_ ⟨(⟨1, wr (1 + m23), m25, -1, wr (1 + m59), m61⟩ : Req), trivial⟩ ?_ [0] ?_)))))
            · as_aux_lemma => kernel_rfl
            · rfl
            · rfl
      · -- operation 20 next
        refine RUNO [(0, .v (p)), (4, .e (some ⟨b22, 0, none⟩) 0 0), (6, I (if 1 > (ho.rules.seats.length : Int) then 1 else (ho.rules.seats.length : Int))), (7, .p 0 0), (44, I (wr (1 + m23))), (45, .v (p)), (46, I (if 1 > (ho.rules.seats.length : Int) then 1 else (ho.rules.seats.length : Int))), (48, .v (p)), (51, I ho.rules.size), (55, .v (p)), (58, I ho.rules.tiers)] [(25, [vi 0, vi 0, vi 0, vi 0, vi 0, vi 0])] ?_ ?_
        · as_aux_lemma => kernel_rfl
        refine HKEEP (js := [0, 0]) rfl (HALL [5] ?_ (by decide) ?_)
        · as_aux_lemma => kernel_rfl
        refine CALL 23 #[p, vi (if 1 > (ho.rules.seats.length : Int) then 1 else (ho.rules.seats.length : Int))] (some 47) ?_ [2] [curA (d) p] _ rfl (⟨{x : Int // 0 ≤ x ∧ ((if 1 > (ho.rules.seats.length : Int) then 1 else (ho.rules.seats.length : Int)) ≤ 0 → x = 0) ∧ (0 < (if 1 > (ho.rules.seats.length : Int) then 1 else (ho.rules.seats.length : Int)) → x < (if 1 > (ho.rules.seats.length : Int) then 1 else (ho.rules.seats.length : Int)))}, fun q => vi q.1, fun q => [curA (d) p]⟩) (fun w hw => l1Below_c w (d) (hd.fr hw.fr hS) p (if 1 > (ho.rules.seats.length : Int) then 1 else (ho.rules.seats.length : Int))) (by rintro _ ⟨⟩; exact Nat.le_of_ble_eq_true rfl) ?_
        · as_aux_lemma => kernel_rfl
        rintro ⟨m68, hm69⟩
        try dsimp only at hm69
        refine HKEEP (js := [0, 0]) rfl (HALL [10] ?_ (by decide) ?_)
        · as_aux_lemma => kernel_rfl
        refine CALL 40 #[vi 1, vi ho.rules.size] (some 52) ?_ [] [] _ rfl (RV (vi (if 1 > ho.rules.size then 1 else ho.rules.size))) (fun w hw => l1Max_c w 1 ho.rules.size) (by rintro _ ⟨⟩; exact Nat.le_of_ble_eq_true rfl) ?_
        · as_aux_lemma => kernel_rfl
        rintro ⟨⟩
        refine HKEEP (js := [0, 0]) rfl (HALL [11] ?_ (by decide) ?_)
        · as_aux_lemma => kernel_rfl
        refine CALL 23 #[p, vi (if 1 > ho.rules.size then 1 else ho.rules.size)] (some 53) ?_ [2] [curA (d) p] _ rfl (⟨{x : Int // 0 ≤ x ∧ ((if 1 > ho.rules.size then 1 else ho.rules.size) ≤ 0 → x = 0) ∧ (0 < (if 1 > ho.rules.size then 1 else ho.rules.size) → x < (if 1 > ho.rules.size then 1 else ho.rules.size))}, fun q => vi q.1, fun q => [curA (d) p]⟩) (fun w hw => l1Below_c w (d) (hd.fr hw.fr hS) p (if 1 > ho.rules.size then 1 else ho.rules.size)) (by rintro _ ⟨⟩; exact Nat.le_of_ble_eq_true rfl) ?_
        · as_aux_lemma => kernel_rfl
        rintro ⟨m70, hm71⟩
        try dsimp only at hm71
        refine HKEEP (js := [0, 0]) rfl (HPURE (js := [0, 0]) 12 [(0, .v (p)), (4, .e (some ⟨b22, 0, none⟩) 0 0), (6, I (if 1 > (ho.rules.seats.length : Int) then 1 else (ho.rules.seats.length : Int))), (7, .p 0 0), (44, I (wr (1 + m23))), (47, I m68), (54, I (wr (1 + m70))), (55, .v (p)), (58, I ho.rules.tiers)] ?_ ?_ rfl ?_)
        · as_aux_lemma => kernel_rfl
        · as_aux_lemma => kernel_rfl
        refine HALL [17] ?_ (by decide) ?_
        · as_aux_lemma => kernel_rfl
        refine CALL 40 #[vi 1, vi ho.rules.tiers] (some 59) ?_ [] [] _ rfl (RV (vi (if 1 > ho.rules.tiers then 1 else ho.rules.tiers))) (fun w hw => l1Max_c w 1 ho.rules.tiers) (by rintro _ ⟨⟩; exact Nat.le_of_ble_eq_true rfl) ?_
        · as_aux_lemma => kernel_rfl
        rintro ⟨⟩
        refine HKEEP (js := [0, 0]) rfl (HALL [18] ?_ (by decide) ?_)
        · as_aux_lemma => kernel_rfl
        refine CALL 23 #[p, vi (if 1 > ho.rules.tiers then 1 else ho.rules.tiers)] (some 60) ?_ [2] [curA (d) p] _ rfl (⟨{x : Int // 0 ≤ x ∧ ((if 1 > ho.rules.tiers then 1 else ho.rules.tiers) ≤ 0 → x = 0) ∧ (0 < (if 1 > ho.rules.tiers then 1 else ho.rules.tiers) → x < (if 1 > ho.rules.tiers then 1 else ho.rules.tiers))}, fun q => vi q.1, fun q => [curA (d) p]⟩) (fun w hw => l1Below_c w (d) (hd.fr hw.fr hS) p (if 1 > ho.rules.tiers then 1 else ho.rules.tiers)) (by rintro _ ⟨⟩; exact Nat.le_of_ble_eq_true rfl) ?_
        · as_aux_lemma => kernel_rfl
        rintro ⟨m72, hm73⟩
        try dsimp only at hm73
        refine HKEEP (js := [0, 0]) rfl (HPURE (js := [0, 0]) 19 [(0, .v (p)), (4, .e (some ⟨b22, 0, none⟩) 0 0), (6, I (if 1 > (ho.rules.seats.length : Int) then 1 else (ho.rules.seats.length : Int))), (7, .p 0 0), (61, .v (.agg #[vi 1, vi (wr (1 + m23)), vi m68, vi (-1), vi (wr (1 + m70)), vi m72]))] ?_ ?_ rfl ?_)
        · as_aux_lemma => kernel_rfl
        · as_aux_lemma => kernel_rfl
        refine HALL [21] ?_ (by decide) ?_
        · as_aux_lemma => kernel_rfl
        refine RUNO [(0, .v (p)), (4, .e (some ⟨b22, 0, none⟩) 0 0), (6, I (if 1 > (ho.rules.seats.length : Int) then 1 else (ho.rules.seats.length : Int))), (7, .p 0 0)] [(25, [vi 1, vi (wr (1 + m23)), vi m68, vi (-1), vi (wr (1 + m70)), vi m72])] ?_ ?_
        · as_aux_lemma => kernel_rfl
        refine HKEEP (js := [0, 0]) rfl (HEND ?_ ?_)
        · as_aux_lemma => kernel_rfl
        refine IMPORT (L0 := [(45, [.slice ho_rules_seats_a ho.rules.seats.length ho_rules_seats_c, vi ho.rules.tiers, vi ho.rules.room, vi ho.rules.size, vi ho.rules.period, vi ho.rules.window, vi ho.rules.rest, vi ho.rules.tries, vi ho.rules.crew, vi ho.now, vi ho.turn, .slice ho_parties_a ho.parties.length ho_parties_c, .slice ho_cabins_a ho.cabins.length ho_cabins_c, .slice ho_todo_a ho.todo.length ho_todo_c, .slice ho_jobs_a ho.jobs.length ho_jobs_c]), (25, [vi 0, vi 0, vi 0, vi 0, vi 0, vi 0])]) (L1 := [(25, [vi 1, vi (wr (1 + m23)), vi m68, vi (-1), vi (wr (1 + m70)), vi m72])]) [b21, b22] rfl [0, 0] _ rfl [(0, .v (p)), (4, .p 1 0), (6, I (if 1 > (ho.rules.seats.length : Int) then 1 else (ho.rules.seats.length : Int))), (7, .p 2 0)] ?_ ?_ ?_
        · as_aux_lemma => kernel_rfl
        · as_aux_lemma => kernel_rfl
        refine NEXT (SEQ (SEQ (REGION [0, 1] rfl (RUN0 1 [1] [(0, .v (p)), (4, .p 1 0), (6, I (if 1 > (ho.rules.seats.length : Int) then 1 else (ho.rules.seats.length : Int))), (7, .p 2 0), (62, .v (p))] ?_ rfl ?_))))
        · as_aux_lemma => kernel_rfl
        refine OPC (CALL 19 #[p, vi 3] (some 63) ?_ [0] [curA (d) p] _ rfl (⟨{x : Bool // True}, fun q => .bool q.1, fun q => [curA (d) p]⟩) (fun w hw => l1Once_c w (d) (hd.fr hw.fr hS) p 3) (by rintro _ ⟨⟩; exact Nat.le_of_ble_eq_true rfl) ?_)
        · as_aux_lemma => kernel_rfl
        rintro ⟨m74, hm75⟩
        try dsimp only at hm75
        refine ENDOPS (NEXT (IF (m74) ?_ (fun bh76 => ?_) (fun bh76 => ?_)))
        · as_aux_lemma => kernel_rfl
        · -- m74 = true
          have h76 := bh76
          refine REGION [0, 1, 2, 3, 4] rfl (RUN0 2 [2, 3, 4] [(4, .p 1 0), (7, .p 2 0), (64, .v (p)), (65, I (if 1 > (ho.rules.seats.length : Int) then 1 else (ho.rules.seats.length : Int)))] ?_ rfl ?_)
          · as_aux_lemma => kernel_rfl
          refine OPC (CALL 23 #[p, vi (if 1 > (ho.rules.seats.length : Int) then 1 else (ho.rules.seats.length : Int))] (some 66) ?_ [0] [curA (d) p] _ rfl (⟨{x : Int // 0 ≤ x ∧ ((if 1 > (ho.rules.seats.length : Int) then 1 else (ho.rules.seats.length : Int)) ≤ 0 → x = 0) ∧ (0 < (if 1 > (ho.rules.seats.length : Int) then 1 else (ho.rules.seats.length : Int)) → x < (if 1 > (ho.rules.seats.length : Int) then 1 else (ho.rules.seats.length : Int)))}, fun q => vi q.1, fun q => [curA (d) p]⟩) (fun w hw => l1Below_c w (d) (hd.fr hw.fr hS) p (if 1 > (ho.rules.seats.length : Int) then 1 else (ho.rules.seats.length : Int))) (by rintro _ ⟨⟩; exact Nat.le_of_ble_eq_true rfl) ?_)
          · as_aux_lemma => kernel_rfl
          rintro ⟨m77, hm78⟩
          try dsimp only at hm78
          refine RUN 2 [] [(4, .p 1 0), (7, .p 2 0)] [(45, [.slice ho_rules_seats_a ho.rules.seats.length ho_rules_seats_c, vi ho.rules.tiers, vi ho.rules.room, vi ho.rules.size, vi ho.rules.period, vi ho.rules.window, vi ho.rules.rest, vi ho.rules.tries, vi ho.rules.crew, vi ho.now, vi ho.turn, .slice ho_parties_a ho.parties.length ho_parties_c, .slice ho_cabins_a ho.cabins.length ho_cabins_c, .slice ho_todo_a ho.todo.length ho_todo_c, .slice ho_jobs_a ho.jobs.length ho_jobs_c]), (25, [vi 0, vi 0, vi 0, vi 0, vi 0, vi 0]), (25, [vi 1, vi (wr (1 + m23)), vi m68, vi m77, vi (wr (1 + m70)), vi m72])] ?_ rfl ?_
          · as_aux_lemma => kernel_rfl
          refine ENDOPS (NEXT (SEQ (REGION [0, 1] rfl (RUN 2 [] [(4, .p 1 0)] [(45, [.slice ho_rules_seats_a ho.rules.seats.length ho_rules_seats_c, vi ho.rules.tiers, vi ho.rules.room, vi ho.rules.size, vi ho.rules.period, vi ho.rules.window, vi ho.rules.rest, vi ho.rules.tries, vi ho.rules.crew, vi ho.now, vi ho.turn, .slice ho_parties_a ho.parties.length ho_parties_c, .slice ho_cabins_a ho.cabins.length ho_cabins_c, .slice ho_todo_a ho.todo.length ho_todo_c, .slice ho_jobs_a ho.jobs.length ho_jobs_c]), (25, [vi 1, vi (wr (1 + m23)), vi m68, vi m77, vi (wr (1 + m70)), vi m72]), (25, [vi 1, vi (wr (1 + m23)), vi m68, vi m77, vi (wr (1 + m70)), vi m72])] ?_ rfl ?_))))
          · as_aux_lemma => kernel_rfl
          refine ENDOPS (NEXT (RET (OUTR (PASS trivial (FIN (.agg #[vi 1, vi (wr (1 + m23)), vi m68, vi m77, vi (wr (1 + m70)), vi m72]) ?_ ⟨(⟨1, wr (1 + m23), m68, m77, wr (1 + m70), m72⟩ : Req), trivial⟩ ?_ [0] ?_)))))
          · as_aux_lemma => kernel_rfl
          · rfl
          · rfl
        · -- m74 = false
          have h76 := bh76
          refine SKIP (NEXT (SEQ (REGION [0, 1] rfl (RUN 2 [] [(4, .p 1 0)] [(45, [.slice ho_rules_seats_a ho.rules.seats.length ho_rules_seats_c, vi ho.rules.tiers, vi ho.rules.room, vi ho.rules.size, vi ho.rules.period, vi ho.rules.window, vi ho.rules.rest, vi ho.rules.tries, vi ho.rules.crew, vi ho.now, vi ho.turn, .slice ho_parties_a ho.parties.length ho_parties_c, .slice ho_cabins_a ho.cabins.length ho_cabins_c, .slice ho_todo_a ho.todo.length ho_todo_c, .slice ho_jobs_a ho.jobs.length ho_jobs_c]), (25, [vi 1, vi (wr (1 + m23)), vi m68, vi (-1), vi (wr (1 + m70)), vi m72]), (25, [vi 1, vi (wr (1 + m23)), vi m68, vi (-1), vi (wr (1 + m70)), vi m72])] ?_ rfl ?_))))
          · as_aux_lemma => kernel_rfl
          refine ENDOPS (NEXT (RET (OUTR (PASS trivial (FIN (.agg #[vi 1, vi (wr (1 + m23)), vi m68, vi (-1), vi (wr (1 + m70)), vi m72]) ?_ ⟨(⟨1, wr (1 + m23), m68, -1, wr (1 + m70), m72⟩ : Req), trivial⟩ ?_ [0] ?_)))))
          · as_aux_lemma => kernel_rfl
          · rfl
          · rfl
    · -- operation 20 next
      refine RUNO [(0, .v (p)), (4, .e (some ⟨b22, 0, none⟩) 0 0), (6, I (if 1 > (ho.rules.seats.length : Int) then 1 else (ho.rules.seats.length : Int))), (7, .p 0 0), (42, .v (p)), (45, .v (p)), (46, I (if 1 > (ho.rules.seats.length : Int) then 1 else (ho.rules.seats.length : Int))), (48, .v (p)), (51, I ho.rules.size), (55, .v (p)), (58, I ho.rules.tiers)] [(25, [vi 0, vi 0, vi 0, vi 0, vi 0, vi 0])] ?_ ?_
      · as_aux_lemma => kernel_rfl
      refine HKEEP (js := [0, 0]) rfl (HALL [1] ?_ (by decide) ?_)
      · as_aux_lemma => kernel_rfl
      refine CALL 23 #[p, vi 14] (some 43) ?_ [2] [curA (d) p] _ rfl (⟨{x : Int // 0 ≤ x ∧ (14 ≤ 0 → x = 0) ∧ (0 < 14 → x < 14)}, fun q => vi q.1, fun q => [curA (d) p]⟩) (fun w hw => l1Below_c w (d) (hd.fr hw.fr hS) p 14) (by rintro _ ⟨⟩; exact Nat.le_of_ble_eq_true rfl) ?_
      · as_aux_lemma => kernel_rfl
      rintro ⟨m79, hm80⟩
      try dsimp only at hm80
      refine HKEEP (js := [0, 0]) rfl (HPURE (js := [0, 0]) 2 [(0, .v (p)), (4, .e (some ⟨b22, 0, none⟩) 0 0), (6, I (if 1 > (ho.rules.seats.length : Int) then 1 else (ho.rules.seats.length : Int))), (7, .p 0 0), (44, I (wr (1 + m79))), (45, .v (p)), (46, I (if 1 > (ho.rules.seats.length : Int) then 1 else (ho.rules.seats.length : Int))), (48, .v (p)), (51, I ho.rules.size), (55, .v (p)), (58, I ho.rules.tiers)] ?_ ?_ rfl ?_)
      · as_aux_lemma => kernel_rfl
      · as_aux_lemma => kernel_rfl
      refine HALL [5] ?_ (by decide) ?_
      · as_aux_lemma => kernel_rfl
      refine CALL 23 #[p, vi (if 1 > (ho.rules.seats.length : Int) then 1 else (ho.rules.seats.length : Int))] (some 47) ?_ [2] [curA (d) p] _ rfl (⟨{x : Int // 0 ≤ x ∧ ((if 1 > (ho.rules.seats.length : Int) then 1 else (ho.rules.seats.length : Int)) ≤ 0 → x = 0) ∧ (0 < (if 1 > (ho.rules.seats.length : Int) then 1 else (ho.rules.seats.length : Int)) → x < (if 1 > (ho.rules.seats.length : Int) then 1 else (ho.rules.seats.length : Int)))}, fun q => vi q.1, fun q => [curA (d) p]⟩) (fun w hw => l1Below_c w (d) (hd.fr hw.fr hS) p (if 1 > (ho.rules.seats.length : Int) then 1 else (ho.rules.seats.length : Int))) (by rintro _ ⟨⟩; exact Nat.le_of_ble_eq_true rfl) ?_
      · as_aux_lemma => kernel_rfl
      rintro ⟨m81, hm82⟩
      try dsimp only at hm82
      refine HKEEP (js := [0, 0]) rfl (HALL [10] ?_ (by decide) ?_)
      · as_aux_lemma => kernel_rfl
      refine CALL 40 #[vi 1, vi ho.rules.size] (some 52) ?_ [] [] _ rfl (RV (vi (if 1 > ho.rules.size then 1 else ho.rules.size))) (fun w hw => l1Max_c w 1 ho.rules.size) (by rintro _ ⟨⟩; exact Nat.le_of_ble_eq_true rfl) ?_
      · as_aux_lemma => kernel_rfl
      rintro ⟨⟩
      refine HKEEP (js := [0, 0]) rfl (HALL [11] ?_ (by decide) ?_)
      · as_aux_lemma => kernel_rfl
      refine CALL 23 #[p, vi (if 1 > ho.rules.size then 1 else ho.rules.size)] (some 53) ?_ [2] [curA (d) p] _ rfl (⟨{x : Int // 0 ≤ x ∧ ((if 1 > ho.rules.size then 1 else ho.rules.size) ≤ 0 → x = 0) ∧ (0 < (if 1 > ho.rules.size then 1 else ho.rules.size) → x < (if 1 > ho.rules.size then 1 else ho.rules.size))}, fun q => vi q.1, fun q => [curA (d) p]⟩) (fun w hw => l1Below_c w (d) (hd.fr hw.fr hS) p (if 1 > ho.rules.size then 1 else ho.rules.size)) (by rintro _ ⟨⟩; exact Nat.le_of_ble_eq_true rfl) ?_
      · as_aux_lemma => kernel_rfl
      rintro ⟨m83, hm84⟩
      try dsimp only at hm84
      refine HKEEP (js := [0, 0]) rfl (HPURE (js := [0, 0]) 12 [(0, .v (p)), (4, .e (some ⟨b22, 0, none⟩) 0 0), (6, I (if 1 > (ho.rules.seats.length : Int) then 1 else (ho.rules.seats.length : Int))), (7, .p 0 0), (44, I (wr (1 + m79))), (47, I m81), (54, I (wr (1 + m83))), (55, .v (p)), (58, I ho.rules.tiers)] ?_ ?_ rfl ?_)
      · as_aux_lemma => kernel_rfl
      · as_aux_lemma => kernel_rfl
      refine HALL [17] ?_ (by decide) ?_
      · as_aux_lemma => kernel_rfl
      refine CALL 40 #[vi 1, vi ho.rules.tiers] (some 59) ?_ [] [] _ rfl (RV (vi (if 1 > ho.rules.tiers then 1 else ho.rules.tiers))) (fun w hw => l1Max_c w 1 ho.rules.tiers) (by rintro _ ⟨⟩; exact Nat.le_of_ble_eq_true rfl) ?_
      · as_aux_lemma => kernel_rfl
      rintro ⟨⟩
      refine HKEEP (js := [0, 0]) rfl (HALL [18] ?_ (by decide) ?_)
      · as_aux_lemma => kernel_rfl
      refine CALL 23 #[p, vi (if 1 > ho.rules.tiers then 1 else ho.rules.tiers)] (some 60) ?_ [2] [curA (d) p] _ rfl (⟨{x : Int // 0 ≤ x ∧ ((if 1 > ho.rules.tiers then 1 else ho.rules.tiers) ≤ 0 → x = 0) ∧ (0 < (if 1 > ho.rules.tiers then 1 else ho.rules.tiers) → x < (if 1 > ho.rules.tiers then 1 else ho.rules.tiers))}, fun q => vi q.1, fun q => [curA (d) p]⟩) (fun w hw => l1Below_c w (d) (hd.fr hw.fr hS) p (if 1 > ho.rules.tiers then 1 else ho.rules.tiers)) (by rintro _ ⟨⟩; exact Nat.le_of_ble_eq_true rfl) ?_
      · as_aux_lemma => kernel_rfl
      rintro ⟨m85, hm86⟩
      try dsimp only at hm86
      refine HKEEP (js := [0, 0]) rfl (HPURE (js := [0, 0]) 19 [(0, .v (p)), (4, .e (some ⟨b22, 0, none⟩) 0 0), (6, I (if 1 > (ho.rules.seats.length : Int) then 1 else (ho.rules.seats.length : Int))), (7, .p 0 0), (61, .v (.agg #[vi 1, vi (wr (1 + m79)), vi m81, vi (-1), vi (wr (1 + m83)), vi m85]))] ?_ ?_ rfl ?_)
      · as_aux_lemma => kernel_rfl
      · as_aux_lemma => kernel_rfl
      refine HALL [21] ?_ (by decide) ?_
      · as_aux_lemma => kernel_rfl
      refine RUNO [(0, .v (p)), (4, .e (some ⟨b22, 0, none⟩) 0 0), (6, I (if 1 > (ho.rules.seats.length : Int) then 1 else (ho.rules.seats.length : Int))), (7, .p 0 0)] [(25, [vi 1, vi (wr (1 + m79)), vi m81, vi (-1), vi (wr (1 + m83)), vi m85])] ?_ ?_
      · as_aux_lemma => kernel_rfl
      refine HKEEP (js := [0, 0]) rfl (HEND ?_ ?_)
      · as_aux_lemma => kernel_rfl
      refine IMPORT (L0 := [(45, [.slice ho_rules_seats_a ho.rules.seats.length ho_rules_seats_c, vi ho.rules.tiers, vi ho.rules.room, vi ho.rules.size, vi ho.rules.period, vi ho.rules.window, vi ho.rules.rest, vi ho.rules.tries, vi ho.rules.crew, vi ho.now, vi ho.turn, .slice ho_parties_a ho.parties.length ho_parties_c, .slice ho_cabins_a ho.cabins.length ho_cabins_c, .slice ho_todo_a ho.todo.length ho_todo_c, .slice ho_jobs_a ho.jobs.length ho_jobs_c]), (25, [vi 0, vi 0, vi 0, vi 0, vi 0, vi 0])]) (L1 := [(25, [vi 1, vi (wr (1 + m79)), vi m81, vi (-1), vi (wr (1 + m83)), vi m85])]) [b21, b22] rfl [0, 0] _ rfl [(0, .v (p)), (4, .p 1 0), (6, I (if 1 > (ho.rules.seats.length : Int) then 1 else (ho.rules.seats.length : Int))), (7, .p 2 0)] ?_ ?_ ?_
      · as_aux_lemma => kernel_rfl
      · as_aux_lemma => kernel_rfl
      refine NEXT (SEQ (SEQ (REGION [0, 1] rfl (RUN0 1 [1] [(0, .v (p)), (4, .p 1 0), (6, I (if 1 > (ho.rules.seats.length : Int) then 1 else (ho.rules.seats.length : Int))), (7, .p 2 0), (62, .v (p))] ?_ rfl ?_))))
      · as_aux_lemma => kernel_rfl
      refine OPC (CALL 19 #[p, vi 3] (some 63) ?_ [0] [curA (d) p] _ rfl (⟨{x : Bool // True}, fun q => .bool q.1, fun q => [curA (d) p]⟩) (fun w hw => l1Once_c w (d) (hd.fr hw.fr hS) p 3) (by rintro _ ⟨⟩; exact Nat.le_of_ble_eq_true rfl) ?_)
      · as_aux_lemma => kernel_rfl
      rintro ⟨m87, hm88⟩
      try dsimp only at hm88
      refine ENDOPS (NEXT (IF (m87) ?_ (fun bh89 => ?_) (fun bh89 => ?_)))
      · as_aux_lemma => kernel_rfl
      · -- m87 = true
        have h89 := bh89
        refine REGION [0, 1, 2, 3, 4] rfl (RUN0 2 [2, 3, 4] [(4, .p 1 0), (7, .p 2 0), (64, .v (p)), (65, I (if 1 > (ho.rules.seats.length : Int) then 1 else (ho.rules.seats.length : Int)))] ?_ rfl ?_)
        · as_aux_lemma => kernel_rfl
        refine OPC (CALL 23 #[p, vi (if 1 > (ho.rules.seats.length : Int) then 1 else (ho.rules.seats.length : Int))] (some 66) ?_ [0] [curA (d) p] _ rfl (⟨{x : Int // 0 ≤ x ∧ ((if 1 > (ho.rules.seats.length : Int) then 1 else (ho.rules.seats.length : Int)) ≤ 0 → x = 0) ∧ (0 < (if 1 > (ho.rules.seats.length : Int) then 1 else (ho.rules.seats.length : Int)) → x < (if 1 > (ho.rules.seats.length : Int) then 1 else (ho.rules.seats.length : Int)))}, fun q => vi q.1, fun q => [curA (d) p]⟩) (fun w hw => l1Below_c w (d) (hd.fr hw.fr hS) p (if 1 > (ho.rules.seats.length : Int) then 1 else (ho.rules.seats.length : Int))) (by rintro _ ⟨⟩; exact Nat.le_of_ble_eq_true rfl) ?_)
        · as_aux_lemma => kernel_rfl
        rintro ⟨m90, hm91⟩
        try dsimp only at hm91
        refine RUN 2 [] [(4, .p 1 0), (7, .p 2 0)] [(45, [.slice ho_rules_seats_a ho.rules.seats.length ho_rules_seats_c, vi ho.rules.tiers, vi ho.rules.room, vi ho.rules.size, vi ho.rules.period, vi ho.rules.window, vi ho.rules.rest, vi ho.rules.tries, vi ho.rules.crew, vi ho.now, vi ho.turn, .slice ho_parties_a ho.parties.length ho_parties_c, .slice ho_cabins_a ho.cabins.length ho_cabins_c, .slice ho_todo_a ho.todo.length ho_todo_c, .slice ho_jobs_a ho.jobs.length ho_jobs_c]), (25, [vi 0, vi 0, vi 0, vi 0, vi 0, vi 0]), (25, [vi 1, vi (wr (1 + m79)), vi m81, vi m90, vi (wr (1 + m83)), vi m85])] ?_ rfl ?_
        · as_aux_lemma => kernel_rfl
        refine ENDOPS (NEXT (SEQ (REGION [0, 1] rfl (RUN 2 [] [(4, .p 1 0)] [(45, [.slice ho_rules_seats_a ho.rules.seats.length ho_rules_seats_c, vi ho.rules.tiers, vi ho.rules.room, vi ho.rules.size, vi ho.rules.period, vi ho.rules.window, vi ho.rules.rest, vi ho.rules.tries, vi ho.rules.crew, vi ho.now, vi ho.turn, .slice ho_parties_a ho.parties.length ho_parties_c, .slice ho_cabins_a ho.cabins.length ho_cabins_c, .slice ho_todo_a ho.todo.length ho_todo_c, .slice ho_jobs_a ho.jobs.length ho_jobs_c]), (25, [vi 1, vi (wr (1 + m79)), vi m81, vi m90, vi (wr (1 + m83)), vi m85]), (25, [vi 1, vi (wr (1 + m79)), vi m81, vi m90, vi (wr (1 + m83)), vi m85])] ?_ rfl ?_))))
        · as_aux_lemma => kernel_rfl
        refine ENDOPS (NEXT (RET (OUTR (PASS trivial (FIN (.agg #[vi 1, vi (wr (1 + m79)), vi m81, vi m90, vi (wr (1 + m83)), vi m85]) ?_ ⟨(⟨1, wr (1 + m79), m81, m90, wr (1 + m83), m85⟩ : Req), trivial⟩ ?_ [0] ?_)))))
        · as_aux_lemma => kernel_rfl
        · rfl
        · rfl
      · -- m87 = false
        have h89 := bh89
        refine SKIP (NEXT (SEQ (REGION [0, 1] rfl (RUN 2 [] [(4, .p 1 0)] [(45, [.slice ho_rules_seats_a ho.rules.seats.length ho_rules_seats_c, vi ho.rules.tiers, vi ho.rules.room, vi ho.rules.size, vi ho.rules.period, vi ho.rules.window, vi ho.rules.rest, vi ho.rules.tries, vi ho.rules.crew, vi ho.now, vi ho.turn, .slice ho_parties_a ho.parties.length ho_parties_c, .slice ho_cabins_a ho.cabins.length ho_cabins_c, .slice ho_todo_a ho.todo.length ho_todo_c, .slice ho_jobs_a ho.jobs.length ho_jobs_c]), (25, [vi 1, vi (wr (1 + m79)), vi m81, vi (-1), vi (wr (1 + m83)), vi m85]), (25, [vi 1, vi (wr (1 + m79)), vi m81, vi (-1), vi (wr (1 + m83)), vi m85])] ?_ rfl ?_))))
        · as_aux_lemma => kernel_rfl
        refine ENDOPS (NEXT (RET (OUTR (PASS trivial (FIN (.agg #[vi 1, vi (wr (1 + m79)), vi m81, vi (-1), vi (wr (1 + m83)), vi m85]) ?_ ⟨(⟨1, wr (1 + m79), m81, -1, wr (1 + m83), m85⟩ : Req), trivial⟩ ?_ [0] ?_)))))
        · as_aux_lemma => kernel_rfl
        · rfl
        · rfl
  · -- jb = false
    have h20 := bh20
    refine SEQ (REGION [0, 1] rfl (RUN0 2 [] [(0, .v (p)), (3, .p 0 0), (4, .p 1 0), (5, I idv), (6, I (if 1 > (ho.rules.seats.length : Int) then 1 else (ho.rules.seats.length : Int))), (36, I m14), (69, B (m14 == 4))] ?_ rfl ?_))
    · as_aux_lemma => kernel_rfl
    refine ENDOPS (NEXT (IF (m14 == 4) ?_ (fun bh92 => ?_) (fun bh92 => ?_)))
    · as_aux_lemma => kernel_rfl
    · -- m14 == 4 = true
      have h92 := bh92
      have h92 := eq_of_beq h92
      refine SEQ (REGION [0, 1, 2] rfl (RUN 3 [] [(4, .p 1 0)] [(45, [.slice ho_rules_seats_a ho.rules.seats.length ho_rules_seats_c, vi ho.rules.tiers, vi ho.rules.room, vi ho.rules.size, vi ho.rules.period, vi ho.rules.window, vi ho.rules.rest, vi ho.rules.tries, vi ho.rules.crew, vi ho.now, vi ho.turn, .slice ho_parties_a ho.parties.length ho_parties_c, .slice ho_cabins_a ho.cabins.length ho_cabins_c, .slice ho_todo_a ho.todo.length ho_todo_c, .slice ho_jobs_a ho.jobs.length ho_jobs_c]), (25, [vi 2, vi idv, vi 0, vi 0, vi 0, vi 0])] ?_ rfl ?_))
      · as_aux_lemma => kernel_rfl
      refine ENDOPS (NEXT (RET (OUTR (PASS trivial (FIN (.agg #[vi 2, vi idv, vi 0, vi 0, vi 0, vi 0]) ?_ ⟨(⟨2, idv, 0, 0, 0, 0⟩ : Req), trivial⟩ ?_ [0] ?_)))))
      · as_aux_lemma => kernel_rfl
      · rfl
      · rfl
    · -- m14 == 4 = false
      have h92 := bh92
      have h92 := ne_of_beq_false h92
      refine SEQ (SEQ (REGION [0, 1] rfl (RUN0 2 [] [(0, .v (p)), (3, .p 0 0), (4, .p 1 0), (5, I idv), (6, I (if 1 > (ho.rules.seats.length : Int) then 1 else (ho.rules.seats.length : Int))), (36, I m14), (73, B (m14 == 5))] ?_ rfl ?_)))
      · as_aux_lemma => kernel_rfl
      refine ENDOPS (NEXT (IF (m14 == 5) ?_ (fun bh93 => ?_) (fun bh93 => ?_)))
      · as_aux_lemma => kernel_rfl
      · -- m14 == 5 = true
        have h93 := bh93
        have h93 := eq_of_beq h93
        refine SKIP (NEXT (IF (m14 == 5) ?_ (fun bh94 => ?_) (fun bh94 => ?_)))
        · as_aux_lemma => kernel_rfl
        · -- m14 == 5 = true
          have h94 := bh94
          have h94 := eq_of_beq h94
          refine SEQ (REGION [0, 1, 2, 3, 4, 5, 6, 7] rfl (RUN0 2 [2, 3, 4, 5, 6, 7] [(0, .v (p)), (4, .p 1 0), (76, .v (p)), (77, I (if 1 > (ho.rules.seats.length : Int) then 1 else (ho.rules.seats.length : Int)))] ?_ rfl ?_))
          · as_aux_lemma => kernel_rfl
          refine OPC (CALL 23 #[p, vi (if 1 > (ho.rules.seats.length : Int) then 1 else (ho.rules.seats.length : Int))] (some 78) ?_ [0] [curA (d) p] _ rfl (⟨{x : Int // 0 ≤ x ∧ ((if 1 > (ho.rules.seats.length : Int) then 1 else (ho.rules.seats.length : Int)) ≤ 0 → x = 0) ∧ (0 < (if 1 > (ho.rules.seats.length : Int) then 1 else (ho.rules.seats.length : Int)) → x < (if 1 > (ho.rules.seats.length : Int) then 1 else (ho.rules.seats.length : Int)))}, fun q => vi q.1, fun q => [curA (d) p]⟩) (fun w hw => l1Below_c w (d) (hd.fr hw.fr hS) p (if 1 > (ho.rules.seats.length : Int) then 1 else (ho.rules.seats.length : Int))) (by rintro _ ⟨⟩; exact Nat.le_of_ble_eq_true rfl) ?_)
          · as_aux_lemma => kernel_rfl
          rintro ⟨m95, hm96⟩
          try dsimp only at hm96
          refine RUN0 1 [4, 5, 6, 7] [(4, .p 1 0), (78, I m95), (79, .v (p))] ?_ rfl ?_
          · as_aux_lemma => kernel_rfl
          refine OPC (CALL 23 #[p, vi 4] (some 80) ?_ [0] [curA (d) p] _ rfl (⟨{x : Int // 0 ≤ x ∧ (4 ≤ 0 → x = 0) ∧ (0 < 4 → x < 4)}, fun q => vi q.1, fun q => [curA (d) p]⟩) (fun w hw => l1Below_c w (d) (hd.fr hw.fr hS) p 4) (by rintro _ ⟨⟩; exact Nat.le_of_ble_eq_true rfl) ?_)
          · as_aux_lemma => kernel_rfl
          rintro ⟨m97, hm98⟩
          try dsimp only at hm98
          refine RUN 3 [] [(4, .p 1 0)] [(45, [.slice ho_rules_seats_a ho.rules.seats.length ho_rules_seats_c, vi ho.rules.tiers, vi ho.rules.room, vi ho.rules.size, vi ho.rules.period, vi ho.rules.window, vi ho.rules.rest, vi ho.rules.tries, vi ho.rules.crew, vi ho.now, vi ho.turn, .slice ho_parties_a ho.parties.length ho_parties_c, .slice ho_cabins_a ho.cabins.length ho_cabins_c, .slice ho_todo_a ho.todo.length ho_todo_c, .slice ho_jobs_a ho.jobs.length ho_jobs_c]), (25, [vi 3, vi 0, vi m95, vi 0, vi (wr (1 + m97)), vi 0])] ?_ rfl ?_
          · as_aux_lemma => kernel_rfl
          refine ENDOPS (NEXT (RET (OUTR (PASS trivial (FIN (.agg #[vi 3, vi 0, vi m95, vi 0, vi (wr (1 + m97)), vi 0]) ?_ ⟨(⟨3, 0, m95, 0, wr (1 + m97), 0⟩ : Req), trivial⟩ ?_ [0] ?_)))))
          · as_aux_lemma => kernel_rfl
          · rfl
          · rfl
        · exact Bool.noConfusion (bh93.symm.trans bh94)
      · -- m14 == 5 = false
        have h93 := bh93
        have h93 := ne_of_beq_false h93
        refine REGION [0, 1] rfl (RUN0 2 [] [(0, .v (p)), (3, .p 0 0), (4, .p 1 0), (5, I idv), (6, I (if 1 > (ho.rules.seats.length : Int) then 1 else (ho.rules.seats.length : Int))), (36, I m14), (73, B (m14 == 6))] ?_ rfl ?_)
        · as_aux_lemma => kernel_rfl
        refine ENDOPS (NEXT (IF (m14 == 6) ?_ (fun bh99 => ?_) (fun bh99 => ?_)))
        · as_aux_lemma => kernel_rfl
        · -- m14 == 6 = true
          have h99 := bh99
          have h99 := eq_of_beq h99
          refine SEQ (REGION [0, 1, 2, 3, 4, 5, 6, 7] rfl (RUN0 2 [2, 3, 4, 5, 6, 7] [(0, .v (p)), (4, .p 1 0), (76, .v (p)), (77, I (if 1 > (ho.rules.seats.length : Int) then 1 else (ho.rules.seats.length : Int)))] ?_ rfl ?_))
          · as_aux_lemma => kernel_rfl
          refine OPC (CALL 23 #[p, vi (if 1 > (ho.rules.seats.length : Int) then 1 else (ho.rules.seats.length : Int))] (some 78) ?_ [0] [curA (d) p] _ rfl (⟨{x : Int // 0 ≤ x ∧ ((if 1 > (ho.rules.seats.length : Int) then 1 else (ho.rules.seats.length : Int)) ≤ 0 → x = 0) ∧ (0 < (if 1 > (ho.rules.seats.length : Int) then 1 else (ho.rules.seats.length : Int)) → x < (if 1 > (ho.rules.seats.length : Int) then 1 else (ho.rules.seats.length : Int)))}, fun q => vi q.1, fun q => [curA (d) p]⟩) (fun w hw => l1Below_c w (d) (hd.fr hw.fr hS) p (if 1 > (ho.rules.seats.length : Int) then 1 else (ho.rules.seats.length : Int))) (by rintro _ ⟨⟩; exact Nat.le_of_ble_eq_true rfl) ?_)
          · as_aux_lemma => kernel_rfl
          rintro ⟨m100, hm101⟩
          try dsimp only at hm101
          refine RUN0 1 [4, 5, 6, 7] [(4, .p 1 0), (78, I m100), (79, .v (p))] ?_ rfl ?_
          · as_aux_lemma => kernel_rfl
          refine OPC (CALL 23 #[p, vi 4] (some 80) ?_ [0] [curA (d) p] _ rfl (⟨{x : Int // 0 ≤ x ∧ (4 ≤ 0 → x = 0) ∧ (0 < 4 → x < 4)}, fun q => vi q.1, fun q => [curA (d) p]⟩) (fun w hw => l1Below_c w (d) (hd.fr hw.fr hS) p 4) (by rintro _ ⟨⟩; exact Nat.le_of_ble_eq_true rfl) ?_)
          · as_aux_lemma => kernel_rfl
          rintro ⟨m102, hm103⟩
          try dsimp only at hm103
          refine RUN 3 [] [(4, .p 1 0)] [(45, [.slice ho_rules_seats_a ho.rules.seats.length ho_rules_seats_c, vi ho.rules.tiers, vi ho.rules.room, vi ho.rules.size, vi ho.rules.period, vi ho.rules.window, vi ho.rules.rest, vi ho.rules.tries, vi ho.rules.crew, vi ho.now, vi ho.turn, .slice ho_parties_a ho.parties.length ho_parties_c, .slice ho_cabins_a ho.cabins.length ho_cabins_c, .slice ho_todo_a ho.todo.length ho_todo_c, .slice ho_jobs_a ho.jobs.length ho_jobs_c]), (25, [vi 3, vi 0, vi m100, vi 0, vi (wr (1 + m102)), vi 0])] ?_ rfl ?_
          · as_aux_lemma => kernel_rfl
          refine ENDOPS (NEXT (RET (OUTR (PASS trivial (FIN (.agg #[vi 3, vi 0, vi m100, vi 0, vi (wr (1 + m102)), vi 0]) ?_ ⟨(⟨3, 0, m100, 0, wr (1 + m102), 0⟩ : Req), trivial⟩ ?_ [0] ?_)))))
          · as_aux_lemma => kernel_rfl
          · rfl
          · rfl
        · -- m14 == 6 = false
          have h99 := bh99
          have h99 := ne_of_beq_false h99
          refine SEQ (REGION [0, 1] rfl (RUN0 2 [] [(0, .v (p)), (3, .p 0 0), (4, .p 1 0), (5, I idv), (36, I m14), (83, B (m14 == 7))] ?_ rfl ?_))
          · as_aux_lemma => kernel_rfl
          refine ENDOPS (NEXT (IF (m14 == 7) ?_ (fun bh104 => ?_) (fun bh104 => ?_)))
          · as_aux_lemma => kernel_rfl
          · -- m14 == 7 = true
            have h104 := bh104
            have h104 := eq_of_beq h104
            refine SEQ (REGION [0, 1, 2] rfl (RUN 3 [] [(4, .p 1 0)] [(45, [.slice ho_rules_seats_a ho.rules.seats.length ho_rules_seats_c, vi ho.rules.tiers, vi ho.rules.room, vi ho.rules.size, vi ho.rules.period, vi ho.rules.window, vi ho.rules.rest, vi ho.rules.tries, vi ho.rules.crew, vi ho.now, vi ho.turn, .slice ho_parties_a ho.parties.length ho_parties_c, .slice ho_cabins_a ho.cabins.length ho_cabins_c, .slice ho_todo_a ho.todo.length ho_todo_c, .slice ho_jobs_a ho.jobs.length ho_jobs_c]), (25, [vi 4, vi idv, vi 0, vi 0, vi 0, vi 0])] ?_ rfl ?_))
            · as_aux_lemma => kernel_rfl
            refine ENDOPS (NEXT (RET (OUTR (PASS trivial (FIN (.agg #[vi 4, vi idv, vi 0, vi 0, vi 0, vi 0]) ?_ ⟨(⟨4, idv, 0, 0, 0, 0⟩ : Req), trivial⟩ ?_ [0] ?_)))))
            · as_aux_lemma => kernel_rfl
            · rfl
            · rfl
          · -- m14 == 7 = false
            have h104 := bh104
            have h104 := ne_of_beq_false h104
            refine SEQ (REGION [0, 1] rfl (RUN0 2 [] [(0, .v (p)), (3, .p 0 0), (4, .p 1 0), (5, I idv), (36, I m14), (87, B (m14 == 8))] ?_ rfl ?_))
            · as_aux_lemma => kernel_rfl
            refine ENDOPS (NEXT (IF (m14 == 8) ?_ (fun bh105 => ?_) (fun bh105 => ?_)))
            · as_aux_lemma => kernel_rfl
            · -- m14 == 8 = true
              have h105 := bh105
              have h105 := eq_of_beq h105
              refine SEQ (REGION [0, 1, 2] rfl (RUN 3 [] [(4, .p 1 0)] [(45, [.slice ho_rules_seats_a ho.rules.seats.length ho_rules_seats_c, vi ho.rules.tiers, vi ho.rules.room, vi ho.rules.size, vi ho.rules.period, vi ho.rules.window, vi ho.rules.rest, vi ho.rules.tries, vi ho.rules.crew, vi ho.now, vi ho.turn, .slice ho_parties_a ho.parties.length ho_parties_c, .slice ho_cabins_a ho.cabins.length ho_cabins_c, .slice ho_todo_a ho.todo.length ho_todo_c, .slice ho_jobs_a ho.jobs.length ho_jobs_c]), (25, [vi 5, vi idv, vi 0, vi 0, vi 0, vi 0])] ?_ rfl ?_))
              · as_aux_lemma => kernel_rfl
              refine ENDOPS (NEXT (RET (OUTR (PASS trivial (FIN (.agg #[vi 5, vi idv, vi 0, vi 0, vi 0, vi 0]) ?_ ⟨(⟨5, idv, 0, 0, 0, 0⟩ : Req), trivial⟩ ?_ [0] ?_)))))
              · as_aux_lemma => kernel_rfl
              · rfl
              · rfl
            · -- m14 == 8 = false
              have h105 := bh105
              have h105 := ne_of_beq_false h105
              refine SEQ (REGION [0, 1] rfl (RUN0 2 [] [(0, .v (p)), (3, .p 0 0), (4, .p 1 0), (91, B (m14 == 9))] ?_ rfl ?_))
              · as_aux_lemma => kernel_rfl
              refine ENDOPS (NEXT (IF (m14 == 9) ?_ (fun bh106 => ?_) (fun bh106 => ?_)))
              · as_aux_lemma => kernel_rfl
              · -- m14 == 9 = true
                have h106 := bh106
                have h106 := eq_of_beq h106
                refine SEQ (REGION [0, 1] rfl (RUN 2 [] [(4, .p 1 0)] [(45, [.slice ho_rules_seats_a ho.rules.seats.length ho_rules_seats_c, vi ho.rules.tiers, vi ho.rules.room, vi ho.rules.size, vi ho.rules.period, vi ho.rules.window, vi ho.rules.rest, vi ho.rules.tries, vi ho.rules.crew, vi ho.now, vi ho.turn, .slice ho_parties_a ho.parties.length ho_parties_c, .slice ho_cabins_a ho.cabins.length ho_cabins_c, .slice ho_todo_a ho.todo.length ho_todo_c, .slice ho_jobs_a ho.jobs.length ho_jobs_c]), (25, [vi 6, vi 0, vi 0, vi 0, vi 0, vi 0])] ?_ rfl ?_))
                · as_aux_lemma => kernel_rfl
                refine ENDOPS (NEXT (RET (OUTR (PASS trivial (FIN (.agg #[vi 6, vi 0, vi 0, vi 0, vi 0, vi 0]) ?_ ⟨(⟨6, 0, 0, 0, 0, 0⟩ : Req), trivial⟩ ?_ [0] ?_)))))
                · as_aux_lemma => kernel_rfl
                · rfl
                · rfl
              · -- m14 == 9 = false
                have h106 := bh106
                have h106 := ne_of_beq_false h106
                refine SKIP (OUTN (NEXT (SEQ (REGION [0, 1, 2, 3, 4, 5, 6, 7] rfl (RUN0 4 [4, 5, 6, 7] [(4, .p 1 0), (94, .v (p)), (97, I ho.rules.crew)] ?_ rfl ?_)))))
                · as_aux_lemma => kernel_rfl
                refine OPC (CALL 40 #[vi 1, vi ho.rules.crew] (some 98) ?_ [] [] _ rfl (RV (vi (if 1 > ho.rules.crew then 1 else ho.rules.crew))) (fun w hw => l1Max_c w 1 ho.rules.crew) (by rintro _ ⟨⟩; exact Nat.le_of_ble_eq_true rfl) ?_)
                · as_aux_lemma => kernel_rfl
                rintro ⟨⟩
                refine OPC (CALL 23 #[p, vi (if 1 > ho.rules.crew then 1 else ho.rules.crew)] (some 99) ?_ [0] [curA (d) p] _ rfl (⟨{x : Int // 0 ≤ x ∧ ((if 1 > ho.rules.crew then 1 else ho.rules.crew) ≤ 0 → x = 0) ∧ (0 < (if 1 > ho.rules.crew then 1 else ho.rules.crew) → x < (if 1 > ho.rules.crew then 1 else ho.rules.crew))}, fun q => vi q.1, fun q => [curA (d) p]⟩) (fun w hw => l1Below_c w (d) (hd.fr hw.fr hS) p (if 1 > ho.rules.crew then 1 else ho.rules.crew)) (by rintro _ ⟨⟩; exact Nat.le_of_ble_eq_true rfl) ?_)
                · as_aux_lemma => kernel_rfl
                rintro ⟨m107, hm108⟩
                try dsimp only at hm108
                refine RUN 2 [] [(4, .p 1 0)] [(45, [.slice ho_rules_seats_a ho.rules.seats.length ho_rules_seats_c, vi ho.rules.tiers, vi ho.rules.room, vi ho.rules.size, vi ho.rules.period, vi ho.rules.window, vi ho.rules.rest, vi ho.rules.tries, vi ho.rules.crew, vi ho.now, vi ho.turn, .slice ho_parties_a ho.parties.length ho_parties_c, .slice ho_cabins_a ho.cabins.length ho_cabins_c, .slice ho_todo_a ho.todo.length ho_todo_c, .slice ho_jobs_a ho.jobs.length ho_jobs_c]), (25, [vi 7, vi m107, vi 0, vi 0, vi 0, vi 0])] ?_ rfl ?_
                · as_aux_lemma => kernel_rfl
                refine ENDOPS (NEXT (RET (FIN (.agg #[vi 7, vi m107, vi 0, vi 0, vi 0, vi 0]) ?_ ⟨(⟨7, m107, 0, 0, 0, 0⟩ : Req), trivial⟩ ?_ [0] ?_)))
                · as_aux_lemma => kernel_rfl
                · rfl
                · rfl

theorem l12Bent_c (W : World) (d : Cd) (hd : CodeOk W d) (p : Value) (ho : House) (ho_rules_seats_a : Option Addr) (ho_rules_seats_c : Nat) (hho_rules_seats : RdP W p intL ho_rules_seats_a ho.rules.seats) (ho_parties_a : Option Addr) (ho_parties_c : Nat) (hho_parties : RdP W p partyL ho_parties_a ho.parties) (ho_cabins_a : Option Addr) (ho_cabins_c : Nat) (hho_cabins : RdP W p (cabinLx 99 85 90) ho_cabins_a ho.cabins) (ho_todo_a : Option Addr) (ho_todo_c : Nat) (hho_todo : RdP W p intL ho_todo_a ho.todo) (ho_jobs_a : Option Addr) (ho_jobs_c : Nat) (hho_jobs : RdP W p intL ho_jobs_a ho.jobs) : Spec Try.prog W [curA d p] 20 #[p, .agg #[.slice ho_rules_seats_a ho.rules.seats.length ho_rules_seats_c, vi ho.rules.tiers, vi ho.rules.room, vi ho.rules.size, vi ho.rules.period, vi ho.rules.window, vi ho.rules.rest, vi ho.rules.tries, vi ho.rules.crew, vi ho.now, vi ho.turn, .slice ho_parties_a ho.parties.length ho_parties_c, .slice ho_cabins_a ho.cabins.length ho_cabins_c, .slice ho_todo_a ho.todo.length ho_todo_c, .slice ho_jobs_a ho.jobs.length ho_jobs_c]] (⟨{x : Req // True}, fun q => .agg #[vi q.1.kind, vi q.1.id, vi q.1.cabin, vi q.1.from', vi q.1.size, vi q.1.tier], fun q => [curA (d) p]⟩) := by
  refine ENTERC (N := 40) (vs := [p, .agg #[.slice ho_rules_seats_a ho.rules.seats.length ho_rules_seats_c, vi ho.rules.tiers, vi ho.rules.room, vi ho.rules.size, vi ho.rules.period, vi ho.rules.window, vi ho.rules.rest, vi ho.rules.tries, vi ho.rules.crew, vi ho.now, vi ho.turn, .slice ho_parties_a ho.parties.length ho_parties_c, .slice ho_cabins_a ho.cabins.length ho_cabins_c, .slice ho_todo_a ho.todo.length ho_todo_c, .slice ho_jobs_a ho.jobs.length ho_jobs_c]]) Try.func20 rfl rfl (Nat.le_of_ble_eq_true rfl) (fun S0 hS hP => ?_)
  have hho_rules_seats_len := hho_rules_seats.len
  have hho_parties_len := hho_parties.len
  have hho_cabins_len := hho_cabins.len
  have hho_todo_len := hho_todo.len
  have hho_jobs_len := hho_jobs.len
  refine SEQ (REGION [0, 1] rfl (RUN 2 [] [(0, .v (p)), (3, .p 0 0), (4, .p 1 0)] [(45, [.slice ho_rules_seats_a ho.rules.seats.length ho_rules_seats_c, vi ho.rules.tiers, vi ho.rules.room, vi ho.rules.size, vi ho.rules.period, vi ho.rules.window, vi ho.rules.rest, vi ho.rules.tries, vi ho.rules.crew, vi ho.now, vi ho.turn, .slice ho_parties_a ho.parties.length ho_parties_c, .slice ho_cabins_a ho.cabins.length ho_cabins_c, .slice ho_todo_a ho.todo.length ho_todo_c, .slice ho_jobs_a ho.jobs.length ho_jobs_c]), (25, [vi 0, vi 0, vi 0, vi 0, vi 0, vi 0])] ?_ rfl ?_))
  · as_aux_lemma => kernel_rfl
  refine ENDOPS (NEXT (SEQ (REGION [0, 1, 2, 3, 4] rfl (RUN0 2 [2, 3, 4] [(0, .v (p)), (4, .p 1 0), (7, .v (p)), (8, .v (.agg #[.slice ho_rules_seats_a ho.rules.seats.length ho_rules_seats_c, vi ho.rules.tiers, vi ho.rules.room, vi ho.rules.size, vi ho.rules.period, vi ho.rules.window, vi ho.rules.rest, vi ho.rules.tries, vi ho.rules.crew, vi ho.now, vi ho.turn, .slice ho_parties_a ho.parties.length ho_parties_c, .slice ho_cabins_a ho.cabins.length ho_cabins_c, .slice ho_todo_a ho.todo.length ho_todo_c, .slice ho_jobs_a ho.jobs.length ho_jobs_c]))] ?_ rfl ?_))))
  · as_aux_lemma => kernel_rfl
  refine OPC (CALL 21 #[p, .agg #[.slice ho_rules_seats_a ho.rules.seats.length ho_rules_seats_c, vi ho.rules.tiers, vi ho.rules.room, vi ho.rules.size, vi ho.rules.period, vi ho.rules.window, vi ho.rules.rest, vi ho.rules.tries, vi ho.rules.crew, vi ho.now, vi ho.turn, .slice ho_parties_a ho.parties.length ho_parties_c, .slice ho_cabins_a ho.cabins.length ho_cabins_c, .slice ho_todo_a ho.todo.length ho_todo_c, .slice ho_jobs_a ho.jobs.length ho_jobs_c]] (some 9) ?_ [0] [curA (d) p] _ rfl (⟨{x : Req // True}, fun q => .agg #[vi q.1.kind, vi q.1.id, vi q.1.cabin, vi q.1.from', vi q.1.size, vi q.1.tier], fun q => [curA (d) p]⟩) (fun w hw => l12Right_c w (d) (hd.fr hw.fr hS) p ho ho_rules_seats_a ho_rules_seats_c (hho_rules_seats.fr hw.fr hP) ho_parties_a ho_parties_c (hho_parties.fr hw.fr hP) ho_cabins_a ho_cabins_c (hho_cabins.fr hw.fr hP) ho_todo_a ho_todo_c (hho_todo.fr hw.fr hP) ho_jobs_a ho_jobs_c (hho_jobs.fr hw.fr hP)) (by rintro _ ⟨⟩; exact Nat.le_of_ble_eq_true rfl) ?_)
  · as_aux_lemma => kernel_rfl
  rintro ⟨m1, hm2⟩
  try dsimp only at hm2
  refine RUN 2 [] [(0, .v (p)), (4, .p 1 0), (5, .p 2 0)] [(45, [.slice ho_rules_seats_a ho.rules.seats.length ho_rules_seats_c, vi ho.rules.tiers, vi ho.rules.room, vi ho.rules.size, vi ho.rules.period, vi ho.rules.window, vi ho.rules.rest, vi ho.rules.tries, vi ho.rules.crew, vi ho.now, vi ho.turn, .slice ho_parties_a ho.parties.length ho_parties_c, .slice ho_cabins_a ho.cabins.length ho_cabins_c, .slice ho_todo_a ho.todo.length ho_todo_c, .slice ho_jobs_a ho.jobs.length ho_jobs_c]), (25, [vi 0, vi 0, vi 0, vi 0, vi 0, vi 0]), (25, [vi m1.kind, vi m1.id, vi m1.cabin, vi m1.from', vi m1.size, vi m1.tier])] ?_ rfl ?_
  · as_aux_lemma => kernel_rfl
  refine ENDOPS (NEXT (SEQ (REGION [0, 1, 2, 3] rfl (RUN0 1 [1, 2, 3] [(0, .v (p)), (4, .p 1 0), (5, .p 2 0), (10, .v (p))] ?_ rfl ?_))))
  · as_aux_lemma => kernel_rfl
  refine OPC (BUILDS 39 11 #[(0, .const (vi (-1))), (1, .const (vi 0)), (2, .const (vi 1)), (3, .const (vi 4)), (4, .const (vi 7)), (5, .const (vi 61)), (6, .const (vi 1000)), (7, .const (vi 9999)), (8, .const (vi 10000)), (9, .const (vi 9223372036854775807)), (10, .const (vi (-9223372036854775808)))] 11 39 ?_ (Nat.le_of_ble_eq_true rfl) 3 [vi (-1), vi 0, vi 1, vi 4, vi 7, vi 61, vi 1000, vi 9999, vi 10000, vi 9223372036854775807, vi (-9223372036854775808)] ?_ intL [-1, 0, 1, 4, 7, 61, 1000, 9999, 10000, 9223372036854775807, -9223372036854775808] rfl (by simp only [maxLen]; omega) [] [] _ rfl (flatRep rfl) (fun a3 ha4 => ?_))
  · as_aux_lemma => kernel_rfl
  · as_aux_lemma => kernel_rfl
  refine FACT (11 = ([-1, 0, 1, 4, 7, 61, 1000, 9999, 10000, 9223372036854775807, -9223372036854775808]).length) (fun w hw => (SlO.lenE (hw.own 1 rfl)).1) (fun hln5 => ?_)
  refine OPC (CALL 22 #[p, .slice a3 11 11] (some 12) ?_ [0] [curA (d) p] _ rfl (⟨{x : Int // True}, fun q => vi q.1, fun q => [curA (d) p]⟩) (fun w hw => (congrArg (fun z : Nat => Spec Try.prog w [curA (d) p] 22 #[p, .slice a3 z 11] (⟨{x : Int // True}, fun q => vi q.1, fun q => [curA (d) p]⟩)) hln5).mpr (l1PickInt_c w (d) (hd.fr hw.fr hS) p ([-1, 0, 1, 4, 7, 61, 1000, 9999, 10000, 9223372036854775807, -9223372036854775808]) a3 11 (RdP.own hw 1 0 rfl rfl (by decide)) (by first | omega | decide | simp))) (by rintro _ ⟨⟩; exact Nat.le_of_ble_eq_true rfl) ?_)
  · as_aux_lemma => kernel_rfl
  rintro ⟨m6, hm7⟩
  try dsimp only at hm7
  refine RUN0 1 [] [(0, .v (p)), (4, .p 1 0), (5, .p 2 0), (6, I m6)] ?_ rfl ?_
  · as_aux_lemma => kernel_rfl
  refine ENDOPS (NEXT (SEQ (SEQ (REGION [0, 1] rfl (RUN0 1 [1] [(4, .p 1 0), (5, .p 2 0), (6, I m6), (13, .v (p))] ?_ rfl ?_)))))
  · as_aux_lemma => kernel_rfl
  refine OPC (CALL 23 #[p, vi 20] (some 14) ?_ [1] [curA (d) p] _ rfl (⟨{x : Int // 0 ≤ x ∧ (20 ≤ 0 → x = 0) ∧ (0 < 20 → x < 20)}, fun q => vi q.1, fun q => [curA (d) p]⟩) (fun w hw => l1Below_c w (d) (hd.fr hw.fr hS) p 20) (by rintro _ ⟨⟩; exact Nat.le_of_ble_eq_true rfl) ?_)
  · as_aux_lemma => kernel_rfl
  rintro ⟨m8, hm9⟩
  try dsimp only at hm9
  refine ENDOPS (NEXT (BLOCK (SEQ (REGION [0, 1] rfl (RUN0 2 [] [(4, .p 1 0), (5, .p 2 0), (6, I m6), (14, I m8), (15, B (m8 == 0))] ?_ rfl ?_)))))
  · as_aux_lemma => kernel_rfl
  refine ENDOPS (NEXT (IF (m8 == 0) ?_ (fun bh10 => ?_) (fun bh10 => ?_)))
  · as_aux_lemma => kernel_rfl
  · -- m8 == 0 = true
    have h10 := bh10
    have h10 := eq_of_beq h10
    refine REGION [0, 1, 2] rfl (RUN 3 [] [(4, .p 1 0), (5, .p 2 0)] [(45, [.slice ho_rules_seats_a ho.rules.seats.length ho_rules_seats_c, vi ho.rules.tiers, vi ho.rules.room, vi ho.rules.size, vi ho.rules.period, vi ho.rules.window, vi ho.rules.rest, vi ho.rules.tries, vi ho.rules.crew, vi ho.now, vi ho.turn, .slice ho_parties_a ho.parties.length ho_parties_c, .slice ho_cabins_a ho.cabins.length ho_cabins_c, .slice ho_todo_a ho.todo.length ho_todo_c, .slice ho_jobs_a ho.jobs.length ho_jobs_c]), (25, [vi 0, vi 0, vi 0, vi 0, vi 0, vi 0]), (25, [vi m6, vi m1.id, vi m1.cabin, vi m1.from', vi m1.size, vi m1.tier])] ?_ rfl ?_)
    · as_aux_lemma => kernel_rfl
    refine ENDOPS (OUTN (NEXT (SEQ (REGION [0, 1] rfl (RUN 2 [] [(4, .p 1 0)] [(45, [.slice ho_rules_seats_a ho.rules.seats.length ho_rules_seats_c, vi ho.rules.tiers, vi ho.rules.room, vi ho.rules.size, vi ho.rules.period, vi ho.rules.window, vi ho.rules.rest, vi ho.rules.tries, vi ho.rules.crew, vi ho.now, vi ho.turn, .slice ho_parties_a ho.parties.length ho_parties_c, .slice ho_cabins_a ho.cabins.length ho_cabins_c, .slice ho_todo_a ho.todo.length ho_todo_c, .slice ho_jobs_a ho.jobs.length ho_jobs_c]), (25, [vi m6, vi m1.id, vi m1.cabin, vi m1.from', vi m1.size, vi m1.tier]), (25, [vi m6, vi m1.id, vi m1.cabin, vi m1.from', vi m1.size, vi m1.tier])] ?_ rfl ?_)))))
    · as_aux_lemma => kernel_rfl
    refine ENDOPS (NEXT (RET (FIN (.agg #[vi m6, vi m1.id, vi m1.cabin, vi m1.from', vi m1.size, vi m1.tier]) ?_ ⟨(⟨m6, m1.id, m1.cabin, m1.from', m1.size, m1.tier⟩ : Req), trivial⟩ ?_ [1] ?_)))
    · as_aux_lemma => kernel_rfl
    · rfl
    · rfl
  · -- m8 == 0 = false
    have h10 := bh10
    have h10 := ne_of_beq_false h10
    refine SEQ (REGION [0, 1] rfl (RUN0 2 [] [(4, .p 1 0), (5, .p 2 0), (6, I m6), (14, I m8), (19, B (m8 == 1))] ?_ rfl ?_))
    · as_aux_lemma => kernel_rfl
    refine ENDOPS (NEXT (IF (m8 == 1) ?_ (fun bh11 => ?_) (fun bh11 => ?_)))
    · as_aux_lemma => kernel_rfl
    · -- m8 == 1 = true
      have h11 := bh11
      have h11 := eq_of_beq h11
      refine REGION [0, 1, 2] rfl (RUN 3 [] [(4, .p 1 0), (5, .p 2 0)] [(45, [.slice ho_rules_seats_a ho.rules.seats.length ho_rules_seats_c, vi ho.rules.tiers, vi ho.rules.room, vi ho.rules.size, vi ho.rules.period, vi ho.rules.window, vi ho.rules.rest, vi ho.rules.tries, vi ho.rules.crew, vi ho.now, vi ho.turn, .slice ho_parties_a ho.parties.length ho_parties_c, .slice ho_cabins_a ho.cabins.length ho_cabins_c, .slice ho_todo_a ho.todo.length ho_todo_c, .slice ho_jobs_a ho.jobs.length ho_jobs_c]), (25, [vi 0, vi 0, vi 0, vi 0, vi 0, vi 0]), (25, [vi m1.kind, vi m6, vi m1.cabin, vi m1.from', vi m1.size, vi m1.tier])] ?_ rfl ?_)
      · as_aux_lemma => kernel_rfl
      refine ENDOPS (OUTN (NEXT (SEQ (REGION [0, 1] rfl (RUN 2 [] [(4, .p 1 0)] [(45, [.slice ho_rules_seats_a ho.rules.seats.length ho_rules_seats_c, vi ho.rules.tiers, vi ho.rules.room, vi ho.rules.size, vi ho.rules.period, vi ho.rules.window, vi ho.rules.rest, vi ho.rules.tries, vi ho.rules.crew, vi ho.now, vi ho.turn, .slice ho_parties_a ho.parties.length ho_parties_c, .slice ho_cabins_a ho.cabins.length ho_cabins_c, .slice ho_todo_a ho.todo.length ho_todo_c, .slice ho_jobs_a ho.jobs.length ho_jobs_c]), (25, [vi m1.kind, vi m6, vi m1.cabin, vi m1.from', vi m1.size, vi m1.tier]), (25, [vi m1.kind, vi m6, vi m1.cabin, vi m1.from', vi m1.size, vi m1.tier])] ?_ rfl ?_)))))
      · as_aux_lemma => kernel_rfl
      refine ENDOPS (NEXT (RET (FIN (.agg #[vi m1.kind, vi m6, vi m1.cabin, vi m1.from', vi m1.size, vi m1.tier]) ?_ ⟨(⟨m1.kind, m6, m1.cabin, m1.from', m1.size, m1.tier⟩ : Req), trivial⟩ ?_ [1] ?_)))
      · as_aux_lemma => kernel_rfl
      · rfl
      · rfl
    · -- m8 == 1 = false
      have h11 := bh11
      have h11 := ne_of_beq_false h11
      refine SEQ (REGION [0, 1] rfl (RUN0 2 [] [(4, .p 1 0), (5, .p 2 0), (6, I m6), (14, I m8), (23, B (m8 == 2))] ?_ rfl ?_))
      · as_aux_lemma => kernel_rfl
      refine ENDOPS (NEXT (IF (m8 == 2) ?_ (fun bh12 => ?_) (fun bh12 => ?_)))
      · as_aux_lemma => kernel_rfl
      · -- m8 == 2 = true
        have h12 := bh12
        have h12 := eq_of_beq h12
        refine REGION [0, 1, 2] rfl (RUN 3 [] [(4, .p 1 0), (5, .p 2 0)] [(45, [.slice ho_rules_seats_a ho.rules.seats.length ho_rules_seats_c, vi ho.rules.tiers, vi ho.rules.room, vi ho.rules.size, vi ho.rules.period, vi ho.rules.window, vi ho.rules.rest, vi ho.rules.tries, vi ho.rules.crew, vi ho.now, vi ho.turn, .slice ho_parties_a ho.parties.length ho_parties_c, .slice ho_cabins_a ho.cabins.length ho_cabins_c, .slice ho_todo_a ho.todo.length ho_todo_c, .slice ho_jobs_a ho.jobs.length ho_jobs_c]), (25, [vi 0, vi 0, vi 0, vi 0, vi 0, vi 0]), (25, [vi m1.kind, vi m1.id, vi m6, vi m1.from', vi m1.size, vi m1.tier])] ?_ rfl ?_)
        · as_aux_lemma => kernel_rfl
        refine ENDOPS (OUTN (NEXT (SEQ (REGION [0, 1] rfl (RUN 2 [] [(4, .p 1 0)] [(45, [.slice ho_rules_seats_a ho.rules.seats.length ho_rules_seats_c, vi ho.rules.tiers, vi ho.rules.room, vi ho.rules.size, vi ho.rules.period, vi ho.rules.window, vi ho.rules.rest, vi ho.rules.tries, vi ho.rules.crew, vi ho.now, vi ho.turn, .slice ho_parties_a ho.parties.length ho_parties_c, .slice ho_cabins_a ho.cabins.length ho_cabins_c, .slice ho_todo_a ho.todo.length ho_todo_c, .slice ho_jobs_a ho.jobs.length ho_jobs_c]), (25, [vi m1.kind, vi m1.id, vi m6, vi m1.from', vi m1.size, vi m1.tier]), (25, [vi m1.kind, vi m1.id, vi m6, vi m1.from', vi m1.size, vi m1.tier])] ?_ rfl ?_)))))
        · as_aux_lemma => kernel_rfl
        refine ENDOPS (NEXT (RET (FIN (.agg #[vi m1.kind, vi m1.id, vi m6, vi m1.from', vi m1.size, vi m1.tier]) ?_ ⟨(⟨m1.kind, m1.id, m6, m1.from', m1.size, m1.tier⟩ : Req), trivial⟩ ?_ [1] ?_)))
        · as_aux_lemma => kernel_rfl
        · rfl
        · rfl
      · -- m8 == 2 = false
        have h12 := bh12
        have h12 := ne_of_beq_false h12
        refine SEQ (REGION [0, 1] rfl (RUN0 2 [] [(4, .p 1 0), (5, .p 2 0), (6, I m6), (14, I m8), (27, B (m8 == 3))] ?_ rfl ?_))
        · as_aux_lemma => kernel_rfl
        refine ENDOPS (NEXT (IF (m8 == 3) ?_ (fun bh13 => ?_) (fun bh13 => ?_)))
        · as_aux_lemma => kernel_rfl
        · -- m8 == 3 = true
          have h13 := bh13
          have h13 := eq_of_beq h13
          refine REGION [0, 1, 2] rfl (RUN 3 [] [(4, .p 1 0), (5, .p 2 0)] [(45, [.slice ho_rules_seats_a ho.rules.seats.length ho_rules_seats_c, vi ho.rules.tiers, vi ho.rules.room, vi ho.rules.size, vi ho.rules.period, vi ho.rules.window, vi ho.rules.rest, vi ho.rules.tries, vi ho.rules.crew, vi ho.now, vi ho.turn, .slice ho_parties_a ho.parties.length ho_parties_c, .slice ho_cabins_a ho.cabins.length ho_cabins_c, .slice ho_todo_a ho.todo.length ho_todo_c, .slice ho_jobs_a ho.jobs.length ho_jobs_c]), (25, [vi 0, vi 0, vi 0, vi 0, vi 0, vi 0]), (25, [vi m1.kind, vi m1.id, vi m1.cabin, vi m6, vi m1.size, vi m1.tier])] ?_ rfl ?_)
          · as_aux_lemma => kernel_rfl
          refine ENDOPS (OUTN (NEXT (SEQ (REGION [0, 1] rfl (RUN 2 [] [(4, .p 1 0)] [(45, [.slice ho_rules_seats_a ho.rules.seats.length ho_rules_seats_c, vi ho.rules.tiers, vi ho.rules.room, vi ho.rules.size, vi ho.rules.period, vi ho.rules.window, vi ho.rules.rest, vi ho.rules.tries, vi ho.rules.crew, vi ho.now, vi ho.turn, .slice ho_parties_a ho.parties.length ho_parties_c, .slice ho_cabins_a ho.cabins.length ho_cabins_c, .slice ho_todo_a ho.todo.length ho_todo_c, .slice ho_jobs_a ho.jobs.length ho_jobs_c]), (25, [vi m1.kind, vi m1.id, vi m1.cabin, vi m6, vi m1.size, vi m1.tier]), (25, [vi m1.kind, vi m1.id, vi m1.cabin, vi m6, vi m1.size, vi m1.tier])] ?_ rfl ?_)))))
          · as_aux_lemma => kernel_rfl
          refine ENDOPS (NEXT (RET (FIN (.agg #[vi m1.kind, vi m1.id, vi m1.cabin, vi m6, vi m1.size, vi m1.tier]) ?_ ⟨(⟨m1.kind, m1.id, m1.cabin, m6, m1.size, m1.tier⟩ : Req), trivial⟩ ?_ [1] ?_)))
          · as_aux_lemma => kernel_rfl
          · rfl
          · rfl
        · -- m8 == 3 = false
          have h13 := bh13
          have h13 := ne_of_beq_false h13
          refine SEQ (REGION [0, 1] rfl (RUN0 2 [] [(4, .p 1 0), (5, .p 2 0), (6, I m6), (14, I m8), (31, B (m8 == 4))] ?_ rfl ?_))
          · as_aux_lemma => kernel_rfl
          refine ENDOPS (NEXT (IF (m8 == 4) ?_ (fun bh14 => ?_) (fun bh14 => ?_)))
          · as_aux_lemma => kernel_rfl
          · -- m8 == 4 = true
            have h14 := bh14
            have h14 := eq_of_beq h14
            refine REGION [0, 1, 2] rfl (RUN 3 [] [(4, .p 1 0), (5, .p 2 0)] [(45, [.slice ho_rules_seats_a ho.rules.seats.length ho_rules_seats_c, vi ho.rules.tiers, vi ho.rules.room, vi ho.rules.size, vi ho.rules.period, vi ho.rules.window, vi ho.rules.rest, vi ho.rules.tries, vi ho.rules.crew, vi ho.now, vi ho.turn, .slice ho_parties_a ho.parties.length ho_parties_c, .slice ho_cabins_a ho.cabins.length ho_cabins_c, .slice ho_todo_a ho.todo.length ho_todo_c, .slice ho_jobs_a ho.jobs.length ho_jobs_c]), (25, [vi 0, vi 0, vi 0, vi 0, vi 0, vi 0]), (25, [vi m1.kind, vi m1.id, vi m1.cabin, vi m1.from', vi m6, vi m1.tier])] ?_ rfl ?_)
            · as_aux_lemma => kernel_rfl
            refine ENDOPS (OUTN (NEXT (SEQ (REGION [0, 1] rfl (RUN 2 [] [(4, .p 1 0)] [(45, [.slice ho_rules_seats_a ho.rules.seats.length ho_rules_seats_c, vi ho.rules.tiers, vi ho.rules.room, vi ho.rules.size, vi ho.rules.period, vi ho.rules.window, vi ho.rules.rest, vi ho.rules.tries, vi ho.rules.crew, vi ho.now, vi ho.turn, .slice ho_parties_a ho.parties.length ho_parties_c, .slice ho_cabins_a ho.cabins.length ho_cabins_c, .slice ho_todo_a ho.todo.length ho_todo_c, .slice ho_jobs_a ho.jobs.length ho_jobs_c]), (25, [vi m1.kind, vi m1.id, vi m1.cabin, vi m1.from', vi m6, vi m1.tier]), (25, [vi m1.kind, vi m1.id, vi m1.cabin, vi m1.from', vi m6, vi m1.tier])] ?_ rfl ?_)))))
            · as_aux_lemma => kernel_rfl
            refine ENDOPS (NEXT (RET (FIN (.agg #[vi m1.kind, vi m1.id, vi m1.cabin, vi m1.from', vi m6, vi m1.tier]) ?_ ⟨(⟨m1.kind, m1.id, m1.cabin, m1.from', m6, m1.tier⟩ : Req), trivial⟩ ?_ [1] ?_)))
            · as_aux_lemma => kernel_rfl
            · rfl
            · rfl
          · -- m8 == 4 = false
            have h14 := bh14
            have h14 := ne_of_beq_false h14
            refine SEQ (REGION [0, 1] rfl (RUN0 2 [] [(4, .p 1 0), (5, .p 2 0), (6, I m6), (35, B (m8 == 5))] ?_ rfl ?_))
            · as_aux_lemma => kernel_rfl
            refine ENDOPS (NEXT (IF (m8 == 5) ?_ (fun bh15 => ?_) (fun bh15 => ?_)))
            · as_aux_lemma => kernel_rfl
            · -- m8 == 5 = true
              have h15 := bh15
              have h15 := eq_of_beq h15
              refine REGION [0, 1, 2] rfl (RUN 3 [] [(4, .p 1 0), (5, .p 2 0)] [(45, [.slice ho_rules_seats_a ho.rules.seats.length ho_rules_seats_c, vi ho.rules.tiers, vi ho.rules.room, vi ho.rules.size, vi ho.rules.period, vi ho.rules.window, vi ho.rules.rest, vi ho.rules.tries, vi ho.rules.crew, vi ho.now, vi ho.turn, .slice ho_parties_a ho.parties.length ho_parties_c, .slice ho_cabins_a ho.cabins.length ho_cabins_c, .slice ho_todo_a ho.todo.length ho_todo_c, .slice ho_jobs_a ho.jobs.length ho_jobs_c]), (25, [vi 0, vi 0, vi 0, vi 0, vi 0, vi 0]), (25, [vi m1.kind, vi m1.id, vi m1.cabin, vi m1.from', vi m1.size, vi m6])] ?_ rfl ?_)
              · as_aux_lemma => kernel_rfl
              refine ENDOPS (OUTN (NEXT (SEQ (REGION [0, 1] rfl (RUN 2 [] [(4, .p 1 0)] [(45, [.slice ho_rules_seats_a ho.rules.seats.length ho_rules_seats_c, vi ho.rules.tiers, vi ho.rules.room, vi ho.rules.size, vi ho.rules.period, vi ho.rules.window, vi ho.rules.rest, vi ho.rules.tries, vi ho.rules.crew, vi ho.now, vi ho.turn, .slice ho_parties_a ho.parties.length ho_parties_c, .slice ho_cabins_a ho.cabins.length ho_cabins_c, .slice ho_todo_a ho.todo.length ho_todo_c, .slice ho_jobs_a ho.jobs.length ho_jobs_c]), (25, [vi m1.kind, vi m1.id, vi m1.cabin, vi m1.from', vi m1.size, vi m6]), (25, [vi m1.kind, vi m1.id, vi m1.cabin, vi m1.from', vi m1.size, vi m6])] ?_ rfl ?_)))))
              · as_aux_lemma => kernel_rfl
              refine ENDOPS (NEXT (RET (FIN (.agg #[vi m1.kind, vi m1.id, vi m1.cabin, vi m1.from', vi m1.size, vi m6]) ?_ ⟨(⟨m1.kind, m1.id, m1.cabin, m1.from', m1.size, m6⟩ : Req), trivial⟩ ?_ [1] ?_)))
              · as_aux_lemma => kernel_rfl
              · rfl
              · rfl
            · -- m8 == 5 = false
              have h15 := bh15
              have h15 := ne_of_beq_false h15
              refine SKIP (OUTN (NEXT (SEQ (REGION [0, 1] rfl (RUN 2 [] [(4, .p 1 0)] [(45, [.slice ho_rules_seats_a ho.rules.seats.length ho_rules_seats_c, vi ho.rules.tiers, vi ho.rules.room, vi ho.rules.size, vi ho.rules.period, vi ho.rules.window, vi ho.rules.rest, vi ho.rules.tries, vi ho.rules.crew, vi ho.now, vi ho.turn, .slice ho_parties_a ho.parties.length ho_parties_c, .slice ho_cabins_a ho.cabins.length ho_cabins_c, .slice ho_todo_a ho.todo.length ho_todo_c, .slice ho_jobs_a ho.jobs.length ho_jobs_c]), (25, [vi m1.kind, vi m1.id, vi m1.cabin, vi m1.from', vi m1.size, vi m1.tier]), (25, [vi m1.kind, vi m1.id, vi m1.cabin, vi m1.from', vi m1.size, vi m1.tier])] ?_ rfl ?_)))))
              · as_aux_lemma => kernel_rfl
              refine ENDOPS (NEXT (RET (FIN (.agg #[vi m1.kind, vi m1.id, vi m1.cabin, vi m1.from', vi m1.size, vi m1.tier]) ?_ ⟨m1, trivial⟩ ?_ [1] ?_)))
              · as_aux_lemma => kernel_rfl
              · rfl
              · rfl

end SX
end Go.Proofs.Ytpdijcbgdalphaa
