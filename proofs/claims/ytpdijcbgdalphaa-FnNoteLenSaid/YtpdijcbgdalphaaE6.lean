/- Walks, printed by program. -/
import Derived.Test.YtpdijcbgdalphaaE4
namespace Go.Proofs.Ytpdijcbgdalphaa
namespace SX
open Go Go.RowKit
set_option linter.unusedVariables false
set_option linter.unusedSimpArgs false
set_option maxRecDepth 10000
set_option maxHeartbeats 400000
theorem l11Room_c (W : World) (ho : House) (ho_rules_seats_a : Option Addr) (ho_rules_seats_c : Nat) (hho_rules_seats : Rd intL W ho_rules_seats_a ho.rules.seats) (ho_parties_a : Option Addr) (ho_parties_c : Nat) (hho_parties : Rd partyL W ho_parties_a ho.parties) (ho_cabins_a : Option Addr) (ho_cabins_c : Nat) (hho_cabins : Rd (cabinLx 99 85 90) W ho_cabins_a ho.cabins) (ho_todo_a : Option Addr) (ho_todo_c : Nat) (hho_todo : Rd intL W ho_todo_a ho.todo) (ho_jobs_a : Option Addr) (ho_jobs_c : Nat) (hho_jobs : Rd intL W ho_jobs_a ho.jobs) (pa : Party) (hc : ho.cabins.length ≤ ho.rules.seats.length) (hb : ho.parties.length ≤ 1048576) : Spec Try.prog W [] 36 #[.agg #[.slice ho_rules_seats_a ho.rules.seats.length ho_rules_seats_c, vi ho.rules.tiers, vi ho.rules.room, vi ho.rules.size, vi ho.rules.period, vi ho.rules.window, vi ho.rules.rest, vi ho.rules.tries, vi ho.rules.crew, vi ho.now, vi ho.turn, .slice ho_parties_a ho.parties.length ho_parties_c, .slice ho_cabins_a ho.cabins.length ho_cabins_c, .slice ho_todo_a ho.todo.length ho_todo_c, .slice ho_jobs_a ho.jobs.length ho_jobs_c], .agg #[vi pa.id, vi pa.cabin, vi pa.from', vi pa.size, vi pa.tier, vi pa.since, vi pa.turn, vi pa.state, vi pa.until', vi pa.asked]] (⟨{x : Bool // True}, fun q => .bool q.1, fun q => []⟩) := by
  refine ENTER0 (N := 35) (vs := [.agg #[.slice ho_rules_seats_a ho.rules.seats.length ho_rules_seats_c, vi ho.rules.tiers, vi ho.rules.room, vi ho.rules.size, vi ho.rules.period, vi ho.rules.window, vi ho.rules.rest, vi ho.rules.tries, vi ho.rules.crew, vi ho.now, vi ho.turn, .slice ho_parties_a ho.parties.length ho_parties_c, .slice ho_cabins_a ho.cabins.length ho_cabins_c, .slice ho_todo_a ho.todo.length ho_todo_c, .slice ho_jobs_a ho.jobs.length ho_jobs_c], .agg #[vi pa.id, vi pa.cabin, vi pa.from', vi pa.size, vi pa.tier, vi pa.since, vi pa.turn, vi pa.state, vi pa.until', vi pa.asked]]) Try.func36 rfl rfl (Nat.le_of_ble_eq_true rfl) ?_
  have hho_rules_seats_len := hho_rules_seats.len
  have hho_parties_len := hho_parties.len
  have hho_cabins_len := hho_cabins.len
  have hho_todo_len := hho_todo.len
  have hho_jobs_len := hho_jobs.len
  refine SEQ (REGION [0, 1, 2] rfl (RUN 3 [] [(2, .p 0 0), (3, .p 1 0)] [(45, [.slice ho_rules_seats_a ho.rules.seats.length ho_rules_seats_c, vi ho.rules.tiers, vi ho.rules.room, vi ho.rules.size, vi ho.rules.period, vi ho.rules.window, vi ho.rules.rest, vi ho.rules.tries, vi ho.rules.crew, vi ho.now, vi ho.turn, .slice ho_parties_a ho.parties.length ho_parties_c, .slice ho_cabins_a ho.cabins.length ho_cabins_c, .slice ho_todo_a ho.todo.length ho_todo_c, .slice ho_jobs_a ho.jobs.length ho_jobs_c]), (62, [vi pa.id, vi pa.cabin, vi pa.from', vi pa.size, vi pa.tier, vi pa.since, vi pa.turn, vi pa.state, vi pa.until', vi pa.asked])] ?_ rfl ?_))
  · as_aux_lemma => kernel_rfl
  refine ENDOPS (NEXT (SEQ (EXPORT (fun bs hbs => ?_))))
  obtain ⟨b1, b2, rfl⟩ := len2 hbs
  refine REGIONH ?_ 8 rfl [ptC b1 45 [.slice ho_rules_seats_a ho.rules.seats.length ho_rules_seats_c, vi ho.rules.tiers, vi ho.rules.room, vi ho.rules.size, vi ho.rules.period, vi ho.rules.window, vi ho.rules.rest, vi ho.rules.tries, vi ho.rules.crew, vi ho.now, vi ho.turn, .slice ho_parties_a ho.parties.length ho_parties_c, .slice ho_cabins_a ho.cabins.length ho_cabins_c, .slice ho_todo_a ho.todo.length ho_todo_c, .slice ho_jobs_a ho.jobs.length ho_jobs_c], ptC b2 62 [vi pa.id, vi pa.cabin, vi pa.from', vi pa.size, vi pa.tier, vi pa.since, vi pa.turn, vi pa.state, vi pa.until', vi pa.asked]] ?_
  · as_aux_lemma => kernel_rfl
  refine HPURE (js := [0, 0]) 1 [(2, .e (some ⟨b1, 0, none⟩) 0 0), (3, .e (some ⟨b2, 0, none⟩) 0 0), (8, .e (some ⟨b1, 0, none⟩) 0 11)] ?_ ?_ rfl ?_
  · as_aux_lemma => kernel_rfl
  · as_aux_lemma => kernel_rfl
  refine HLOADE (i := 2) (js := [0, 0])  42 (.tmp 8) 9 42 ?_ (Nat.le_of_ble_eq_true rfl) (some ⟨b1, 0, none⟩) 0 11 [.slice ho_rules_seats_a ho.rules.seats.length ho_rules_seats_c, vi ho.rules.tiers, vi ho.rules.room, vi ho.rules.size, vi ho.rules.period, vi ho.rules.window, vi ho.rules.rest, vi ho.rules.tries, vi ho.rules.crew, vi ho.now, vi ho.turn, .slice ho_parties_a ho.parties.length ho_parties_c, .slice ho_cabins_a ho.cabins.length ho_cabins_c, .slice ho_todo_a ho.todo.length ho_todo_c, .slice ho_jobs_a ho.jobs.length ho_jobs_c] (.slice ho_parties_a ho.parties.length ho_parties_c) ?_ (fun w hw => ptC_elem (hw.own 0 rfl)) ?_ ?_ rfl ?_
  · as_aux_lemma => kernel_rfl
  · as_aux_lemma => kernel_rfl
  · as_aux_lemma => kernel_rfl
  · as_aux_lemma => kernel_rfl
  refine HLOADE (i := 4) (js := [0, 0])  62 (.tmp 3) 11 62 ?_ (Nat.le_of_ble_eq_true rfl) (some ⟨b2, 0, none⟩) 0 0 [vi pa.id, vi pa.cabin, vi pa.from', vi pa.size, vi pa.tier, vi pa.since, vi pa.turn, vi pa.state, vi pa.until', vi pa.asked] (.agg #[vi pa.id, vi pa.cabin, vi pa.from', vi pa.size, vi pa.tier, vi pa.since, vi pa.turn, vi pa.state, vi pa.until', vi pa.asked]) ?_ (fun w hw => ptC_elem (hw.own 1 rfl)) ?_ ?_ rfl ?_
  · as_aux_lemma => kernel_rfl
  · as_aux_lemma => kernel_rfl
  · as_aux_lemma => kernel_rfl
  · as_aux_lemma => kernel_rfl
  refine HALL [0, 5] ?_ (by decide) ⟨?_, ?_⟩
  · as_aux_lemma => kernel_rfl
  · -- operation 0 next
    refine BUILDS 42 0 #[] 7 42 ?_ (Nat.le_of_ble_eq_true rfl) 62 [] ?_ partyL [] rfl (by simp only [maxLen]; omega) [] [] _ rfl (flatRep rfl) (fun a3 ha4 => ?_)
    · as_aux_lemma => kernel_rfl
    · as_aux_lemma => kernel_rfl
    refine HKEEP (js := [0, 0]) rfl (HALL [3, 5] ?_ (by decide) ⟨?_, ?_⟩)
    · as_aux_lemma => kernel_rfl
    · -- operation 3 next
      refine APPENDR 42 (.tmp 7) (.tmp 9) 10 42 ?_ (Nat.le_of_ble_eq_true rfl) (.slice a3 0 0) ho_parties_a ho.parties.length ho_parties_c ?_ ?_ 62 ?_ (.agg #[vi 0, vi 0, vi 0, vi 0, vi 0, vi 0, vi 0, vi 0, vi 0, vi 0]) 80 ?_ rfl (by decide) 2 ([]) ho.parties _ rfl rfl (fun w hw => (hho_parties.fr hw.fr)) (by first | omega | (simp only [List.length_append, List.length_cons, List.length_nil, List.length_take, List.length_drop] at *; omega)) (by simp only [maxLen]; first | omega | (simp only [List.length_append, List.length_cons, List.length_nil, List.length_take, List.length_drop] at *; omega)) (fun a5 c6 hn7 => ?_)
      · as_aux_lemma => kernel_rfl
      · as_aux_lemma => kernel_rfl
      · as_aux_lemma => kernel_rfl
      · as_aux_lemma => kernel_rfl
      · as_aux_lemma => kernel_rfl
      refine HKEEP (js := [0, 0]) rfl (HALL [5] ?_ (by decide) ?_)
      · as_aux_lemma => kernel_rfl
      refine BUILDS 42 1 #[(0, .tmp 11)] 12 42 ?_ (Nat.le_of_ble_eq_true rfl) 62 [vi pa.id, vi pa.cabin, vi pa.from', vi pa.size, vi pa.tier, vi pa.since, vi pa.turn, vi pa.state, vi pa.until', vi pa.asked] ?_ partyL [pa] rfl (by simp only [maxLen]; omega) [] [] _ rfl (flatRep rfl) (fun a8 ha9 => ?_)
      · as_aux_lemma => kernel_rfl
      · as_aux_lemma => kernel_rfl
      refine HKEEP (js := [0, 0]) rfl (HALL [6] ?_ (by decide) ?_)
      · as_aux_lemma => kernel_rfl
      refine APPENDO 42 (.tmp 10) (.tmp 12) 13 42 ?_ (Nat.le_of_ble_eq_true rfl) (.slice a5 ((([]) ++ ho.parties).length) c6) a8 1 1 ?_ ?_ ha9 62 ?_ partyL (.agg #[vi 0, vi 0, vi 0, vi 0, vi 0, vi 0, vi 0, vi 0, vi 0, vi 0]) 80 ?_ rfl (by decide) 2 2 (([]) ++ ho.parties) ([pa]) _ rfl rfl (by first | omega | (simp only [List.length_append, List.length_cons, List.length_nil, List.length_take, List.length_drop] at *; omega)) (by simp only [maxLen]; first | omega | (simp only [List.length_append, List.length_cons, List.length_nil, List.length_take, List.length_drop] at *; omega)) (fun a10 c11 hn12 => ?_)
      · as_aux_lemma => kernel_rfl
      · as_aux_lemma => kernel_rfl
      · as_aux_lemma => kernel_rfl
      · as_aux_lemma => kernel_rfl
      · as_aux_lemma => kernel_rfl
      refine HKEEP (js := [0, 0]) rfl (HPURE (js := [0, 0]) 7 [(2, .e (some ⟨b1, 0, none⟩) 0 0), (5, .v (.slice a10 (((([]) ++ ho.parties) ++ ([pa])).length) c11))] ?_ ?_ rfl ?_)
      · as_aux_lemma => kernel_rfl
      · as_aux_lemma => kernel_rfl
      refine HEND ?_ ?_
      · as_aux_lemma => kernel_rfl
      refine IMPORT (L0 := [(45, [.slice ho_rules_seats_a ho.rules.seats.length ho_rules_seats_c, vi ho.rules.tiers, vi ho.rules.room, vi ho.rules.size, vi ho.rules.period, vi ho.rules.window, vi ho.rules.rest, vi ho.rules.tries, vi ho.rules.crew, vi ho.now, vi ho.turn, .slice ho_parties_a ho.parties.length ho_parties_c, .slice ho_cabins_a ho.cabins.length ho_cabins_c, .slice ho_todo_a ho.todo.length ho_todo_c, .slice ho_jobs_a ho.jobs.length ho_jobs_c]), (62, [vi pa.id, vi pa.cabin, vi pa.from', vi pa.size, vi pa.tier, vi pa.since, vi pa.turn, vi pa.state, vi pa.until', vi pa.asked])]) (L1 := []) [b1, b2] rfl [0, 0] _ rfl [(2, .p 0 0), (5, .v (.slice a10 (((([]) ++ ho.parties) ++ ([pa])).length) c11))] ?_ ?_ ?_
      · as_aux_lemma => kernel_rfl
      · as_aux_lemma => kernel_rfl
      refine NEXT (SEQ (SEQ (REGION [0] rfl (RUN0 1 [] [(2, .p 0 0), (5, .v (.slice a10 (((([]) ++ ho.parties) ++ ([pa])).length) c11)), (6, I 0)] ?_ rfl ?_))))
      · as_aux_lemma => kernel_rfl
      refine ENDOPS (NEXT (BLOCK (LOOP (ι := Nat × (List Cabin)) (fun j => [(2, .p 0 0), (5, .v (.slice a10 (((([]) ++ ho.parties) ++ ([pa])).length) c11)), (6, I (j.1 : Int))]) (fun j => [(45, [.slice ho_rules_seats_a ho.rules.seats.length ho_rules_seats_c, vi ho.rules.tiers, vi ho.rules.room, vi ho.rules.size, vi ho.rules.period, vi ho.rules.window, vi ho.rules.rest, vi ho.rules.tries, vi ho.rules.crew, vi ho.now, vi ho.turn, .slice ho_parties_a ho.parties.length ho_parties_c, .slice ho_cabins_a ho.cabins.length ho_cabins_c, .slice ho_todo_a ho.todo.length ho_todo_c, .slice ho_jobs_a ho.jobs.length ho_jobs_c]), (62, [vi pa.id, vi pa.cabin, vi pa.from', vi pa.size, vi pa.tier, vi pa.since, vi pa.turn, vi pa.state, vi pa.until', vi pa.asked])]) (fun j => [slA 62 partyL (.slice a10 ((([]) ++ ho.parties) ++ ([pa])).length c11) ((([]) ++ ho.parties) ++ ([pa]))]) (fun j => j.1 + j.2.length = ho.cabins.length ∧ ho.cabins.drop j.1 = j.2) (fun j => j.2.length) (0, ho.cabins) [2, 5, 6] ⟨by simp, rfl⟩ ?_ rfl rfl ?_)))
      · as_aux_lemma => kernel_rfl
      rintro ⟨k, ys⟩ ⟨hk, hd⟩
      try dsimp only at hk hd
      refine SEQ (SEQ (REGION [0, 1, 2, 3, 4] rfl (RUN0 5 [] [(2, .p 0 0), (5, .v (.slice a10 (((([]) ++ ho.parties) ++ ([pa])).length) c11)), (6, I (k : Int)), (18, B (decide ((k : Int) < (ho.cabins.length : Int))))] ?_ rfl ?_)))
      · as_aux_lemma => kernel_rfl
      refine ENDOPS (NEXT (IF (decide ((k : Int) < (ho.cabins.length : Int))) ?_ (fun bh13 => ?_) (fun bh13 => ?_)))
      · as_aux_lemma => kernel_rfl
      · -- decide ((k : Int) < (ho.cabins.length : Int)) = true
        have h13 := bh13
        have h13 := of_decide_eq_true h13
        obtain ⟨y14, ys15, rfl, hx_y14, hd_y14, hl_y14⟩ := drop_cons hd hk (by omega)
        refine SKIP (NEXT (SEQ (BLOCK (SEQ (EXPORT (fun bs hbs => ?_))))))
        obtain ⟨b16, b17, rfl⟩ := len2 hbs
        refine REGIONH ?_ 14 rfl [ptC b16 45 [.slice ho_rules_seats_a ho.rules.seats.length ho_rules_seats_c, vi ho.rules.tiers, vi ho.rules.room, vi ho.rules.size, vi ho.rules.period, vi ho.rules.window, vi ho.rules.rest, vi ho.rules.tries, vi ho.rules.crew, vi ho.now, vi ho.turn, .slice ho_parties_a ho.parties.length ho_parties_c, .slice ho_cabins_a ho.cabins.length ho_cabins_c, .slice ho_todo_a ho.todo.length ho_todo_c, .slice ho_jobs_a ho.jobs.length ho_jobs_c], ptC b17 62 [vi pa.id, vi pa.cabin, vi pa.from', vi pa.size, vi pa.tier, vi pa.since, vi pa.turn, vi pa.state, vi pa.until', vi pa.asked], slA 62 partyL (.slice a10 ((([]) ++ ho.parties) ++ ([pa])).length c11) ((([]) ++ ho.parties) ++ ([pa]))] ?_
        · as_aux_lemma => kernel_rfl
        refine HPURE (js := [0, 0, 0]) 0 [(2, .e (some ⟨b16, 0, none⟩) 0 0), (5, .v (.slice a10 (((([]) ++ ho.parties) ++ ([pa])).length) c11)), (6, I (k : Int)), (21, .v (.slice a10 (((([]) ++ ho.parties) ++ ([pa])).length) c11))] ?_ ?_ rfl ?_
        · as_aux_lemma => kernel_rfl
        · as_aux_lemma => kernel_rfl
        refine HPURE (js := [0, 0, 0]) 1 [(2, .e (some ⟨b16, 0, none⟩) 0 0), (5, .v (.slice a10 (((([]) ++ ho.parties) ++ ([pa])).length) c11)), (6, I (k : Int)), (21, .v (.slice a10 (((([]) ++ ho.parties) ++ ([pa])).length) c11)), (22, I (k : Int))] ?_ ?_ rfl ?_
        · as_aux_lemma => kernel_rfl
        · as_aux_lemma => kernel_rfl
        refine HPURE (js := [0, 0, 0]) 3 [(2, .e (some ⟨b16, 0, none⟩) 0 0), (5, .v (.slice a10 (((([]) ++ ho.parties) ++ ([pa])).length) c11)), (6, I (k : Int)), (21, .v (.slice a10 (((([]) ++ ho.parties) ++ ([pa])).length) c11)), (22, I (k : Int)), (24, .v (.slice a10 (((([]) ++ ho.parties) ++ ([pa])).length) c11))] ?_ ?_ rfl ?_
        · as_aux_lemma => kernel_rfl
        · as_aux_lemma => kernel_rfl
        refine HPURE (js := [0, 0, 0]) 4 [(2, .e (some ⟨b16, 0, none⟩) 0 0), (5, .v (.slice a10 (((([]) ++ ho.parties) ++ ([pa])).length) c11)), (6, I (k : Int)), (21, .v (.slice a10 (((([]) ++ ho.parties) ++ ([pa])).length) c11)), (22, I (k : Int)), (24, .v (.slice a10 (((([]) ++ ho.parties) ++ ([pa])).length) c11)), (25, I (k : Int))] ?_ ?_ rfl ?_
        · as_aux_lemma => kernel_rfl
        · as_aux_lemma => kernel_rfl
        refine HPURE (js := [0, 0, 0]) 7 [(2, .e (some ⟨b16, 0, none⟩) 0 0), (5, .v (.slice a10 (((([]) ++ ho.parties) ++ ([pa])).length) c11)), (6, I (k : Int)), (21, .v (.slice a10 (((([]) ++ ho.parties) ++ ([pa])).length) c11)), (22, I (k : Int)), (24, .v (.slice a10 (((([]) ++ ho.parties) ++ ([pa])).length) c11)), (25, I (k : Int)), (28, .e (some ⟨b16, 0, none⟩) 0 0)] ?_ ?_ rfl ?_
        · as_aux_lemma => kernel_rfl
        · as_aux_lemma => kernel_rfl
        refine HPURE (js := [0, 0, 0]) 8 [(2, .e (some ⟨b16, 0, none⟩) 0 0), (5, .v (.slice a10 (((([]) ++ ho.parties) ++ ([pa])).length) c11)), (6, I (k : Int)), (21, .v (.slice a10 (((([]) ++ ho.parties) ++ ([pa])).length) c11)), (22, I (k : Int)), (24, .v (.slice a10 (((([]) ++ ho.parties) ++ ([pa])).length) c11)), (25, I (k : Int)), (29, .e (some ⟨b16, 0, none⟩) 0 0)] ?_ ?_ rfl ?_
        · as_aux_lemma => kernel_rfl
        · as_aux_lemma => kernel_rfl
        refine HLOADE (i := 9) (js := [0, 0, 0])  39 (.tmp 29) 30 39 ?_ (Nat.le_of_ble_eq_true rfl) (some ⟨b16, 0, none⟩) 0 0 [.slice ho_rules_seats_a ho.rules.seats.length ho_rules_seats_c, vi ho.rules.tiers, vi ho.rules.room, vi ho.rules.size, vi ho.rules.period, vi ho.rules.window, vi ho.rules.rest, vi ho.rules.tries, vi ho.rules.crew, vi ho.now, vi ho.turn, .slice ho_parties_a ho.parties.length ho_parties_c, .slice ho_cabins_a ho.cabins.length ho_cabins_c, .slice ho_todo_a ho.todo.length ho_todo_c, .slice ho_jobs_a ho.jobs.length ho_jobs_c] (.slice ho_rules_seats_a ho.rules.seats.length ho_rules_seats_c) ?_ (fun w hw => ptC_elem (hw.own 0 rfl)) ?_ ?_ rfl ?_
        · as_aux_lemma => kernel_rfl
        · as_aux_lemma => kernel_rfl
        · as_aux_lemma => kernel_rfl
        · as_aux_lemma => kernel_rfl
        refine HPURE (js := [0, 0, 0]) 10 [(2, .e (some ⟨b16, 0, none⟩) 0 0), (5, .v (.slice a10 (((([]) ++ ho.parties) ++ ([pa])).length) c11)), (6, I (k : Int)), (21, .v (.slice a10 (((([]) ++ ho.parties) ++ ([pa])).length) c11)), (22, I (k : Int)), (24, .v (.slice a10 (((([]) ++ ho.parties) ++ ([pa])).length) c11)), (25, I (k : Int)), (30, .v (.slice ho_rules_seats_a ho.rules.seats.length ho_rules_seats_c)), (31, I (k : Int))] ?_ ?_ rfl ?_
        · as_aux_lemma => kernel_rfl
        · as_aux_lemma => kernel_rfl
        obtain ⟨x18, hx19⟩ : ∃ y, ho.rules.seats[k]? = some y := ⟨_, List.getElem?_eq_getElem (by omega)⟩
        refine HINDEX (i := 11) (js := [0, 0, 0])  39 (.tmp 30) (.tmp 31) 32 0 ?_ (Nat.le_of_ble_eq_true rfl) ho_rules_seats_a ho.rules.seats.length ho_rules_seats_c .i64 (k : Int) 3 1 ?_ ?_ ?_ ?_ (Rd.some hho_rules_seats (by omega)) (by omega) (by omega) ?_ rfl ?_
        · as_aux_lemma => kernel_rfl
        · as_aux_lemma => kernel_rfl
        · as_aux_lemma => kernel_rfl
        · as_aux_lemma => kernel_rfl
        · as_aux_lemma => kernel_rfl
        · as_aux_lemma => kernel_rfl
        refine HLOADE (i := 12) (js := [0, 0, 0])  3 (.tmp 32) 33 3 ?_ (Nat.le_of_ble_eq_true rfl) ho_rules_seats_a (k * 1) 0 [vi x18] (vi x18) ?_ (fun w hw => (hho_rules_seats.fr hw.fr).flat hx19) ?_ ?_ rfl ?_
        · as_aux_lemma => kernel_rfl
        · as_aux_lemma => kernel_rfl
        · as_aux_lemma => kernel_rfl
        · as_aux_lemma => kernel_rfl
        refine HALL [2] ?_ (by decide) ?_
        · as_aux_lemma => kernel_rfl
        refine CALL 52 #[.slice a10 (((([]) ++ ho.parties) ++ ([pa])).length) c11, vi (k : Int)] (some 23) ?_ [] [] _ rfl (⟨{x : Int // True}, fun q => vi q.1, fun q => []⟩) (fun w hw => by have h10 := heldIn_c w ((([]) ++ ho.parties) ++ ([pa])) a10 c11 (hw.rdO 2 rfl) (k : Int); exact h10) (by rintro _ ⟨⟩; exact Nat.le_of_ble_eq_true rfl) ?_
        · as_aux_lemma => kernel_rfl
        rintro ⟨m20, hm21⟩
        try dsimp only at hm21
        refine HKEEP (js := [0, 0, 0]) rfl (HALL [5] ?_ (by decide) ?_)
        · as_aux_lemma => kernel_rfl
        refine CALL 53 #[.slice a10 (((([]) ++ ho.parties) ++ ([pa])).length) c11, vi (k : Int)] (some 26) ?_ [] [] _ rfl (⟨{x : Int // True}, fun q => vi q.1, fun q => []⟩) (fun w hw => by have h10 := tiedIn_c w ((([]) ++ ho.parties) ++ ([pa])) a10 c11 (hw.rdO 2 rfl) (k : Int); exact h10) (by rintro _ ⟨⟩; exact Nat.le_of_ble_eq_true rfl) ?_
        · as_aux_lemma => kernel_rfl
        rintro ⟨m22, hm23⟩
        try dsimp only at hm23
        refine HKEEP (js := [0, 0, 0]) rfl (HPURE (js := [0, 0, 0]) 6 [(2, .e (some ⟨b16, 0, none⟩) 0 0), (5, .v (.slice a10 (((([]) ++ ho.parties) ++ ([pa])).length) c11)), (6, I (k : Int)), (27, I (wr (m20 + m22))), (33, I x18)] ?_ ?_ rfl ?_)
        · as_aux_lemma => kernel_rfl
        · as_aux_lemma => kernel_rfl
        refine HPURE (js := [0, 0, 0]) 13 [(2, .e (some ⟨b16, 0, none⟩) 0 0), (5, .v (.slice a10 (((([]) ++ ho.parties) ++ ([pa])).length) c11)), (6, I (k : Int)), (34, B (decide ((wr (m20 + m22)) > x18)))] ?_ ?_ rfl ?_
        · as_aux_lemma => kernel_rfl
        · as_aux_lemma => kernel_rfl
        refine HEND ?_ ?_
        · as_aux_lemma => kernel_rfl
        refine IMPORT (L0 := [(45, [.slice ho_rules_seats_a ho.rules.seats.length ho_rules_seats_c, vi ho.rules.tiers, vi ho.rules.room, vi ho.rules.size, vi ho.rules.period, vi ho.rules.window, vi ho.rules.rest, vi ho.rules.tries, vi ho.rules.crew, vi ho.now, vi ho.turn, .slice ho_parties_a ho.parties.length ho_parties_c, .slice ho_cabins_a ho.cabins.length ho_cabins_c, .slice ho_todo_a ho.todo.length ho_todo_c, .slice ho_jobs_a ho.jobs.length ho_jobs_c]), (62, [vi pa.id, vi pa.cabin, vi pa.from', vi pa.size, vi pa.tier, vi pa.since, vi pa.turn, vi pa.state, vi pa.until', vi pa.asked])]) (L1 := []) [b16, b17] rfl [0, 0] _ rfl [(2, .p 0 0), (5, .v (.slice a10 (((([]) ++ ho.parties) ++ ([pa])).length) c11)), (6, I (k : Int)), (34, B (decide ((wr (m20 + m22)) > x18)))] ?_ ?_ ?_
        · as_aux_lemma => kernel_rfl
        · as_aux_lemma => kernel_rfl
        refine NEXT (IF (decide ((wr (m20 + m22)) > x18)) ?_ (fun bh24 => ?_) (fun bh24 => ?_))
        · as_aux_lemma => kernel_rfl
        · -- decide ((wr (m20 + m22)) > x18) = true
          have h24 := bh24
          have h24 := of_decide_eq_true h24
          refine SEQ (REGION [0] rfl (RUN0 1 [] [(4, B false)] ?_ rfl ?_))
          · as_aux_lemma => kernel_rfl
          refine ENDOPS (NEXT (RET (OUTR (PASS trivial (PASS trivial (OUTR (PASS trivial (FIN (.bool false) ?_ ⟨false, trivial⟩ ?_ [] ?_))))))))
          · as_aux_lemma => kernel_rfl
          · rfl
          · rfl
        · -- decide ((wr (m20 + m22)) > x18) = false
          have h24 := bh24
          have h24 := of_decide_eq_false h24
          refine SKIP (OUTN (NEXT (REGION [0, 1, 2] rfl (RUN0 2 [2] [(2, .p 0 0), (5, .v (.slice a10 (((([]) ++ ho.parties) ++ ([pa])).length) c11)), (20, I (wr ((k : Int) + 1)))] ?_ rfl ?_))))
          · as_aux_lemma => kernel_rfl
          refine CAST (d := 20) (vi (wr ((k : Int) + 1))) (vi ((k + 1 : Nat) : Int)) ?_ (vi_cast (by omega) (by omega)) ?_
          · as_aux_lemma => kernel_rfl
          refine RUN0 1 [] [(2, .p 0 0), (5, .v (.slice a10 (((([]) ++ ho.parties) ++ ([pa])).length) c11)), (6, I ((k + 1 : Nat) : Int))] ?_ rfl ?_
          · as_aux_lemma => kernel_rfl
          refine ENDOPS (BACK (k + 1, ys15) [2, 5, 6] 2 [0] _ ⟨hl_y14, hd_y14⟩ (by simp) ?_ rfl rfl rfl)
          · as_aux_lemma => kernel_rfl
      · -- decide ((k : Int) < (ho.cabins.length : Int)) = false
        have h13 := bh13
        have h13 := of_decide_eq_false h13
        obtain rfl := drop_nil hk (by omega)
        refine EXIT (PASS trivial (PASS trivial (OUT (NEXT (SEQ (REGION [0] rfl (RUN0 1 [] [(4, B true)] ?_ rfl ?_)))))))
        · as_aux_lemma => kernel_rfl
        refine ENDOPS (NEXT (RET (FIN (.bool true) ?_ ⟨true, trivial⟩ ?_ [] ?_)))
        · as_aux_lemma => kernel_rfl
        · rfl
        · rfl
    · -- operation 5 next
      refine BUILDS 42 1 #[(0, .tmp 11)] 12 42 ?_ (Nat.le_of_ble_eq_true rfl) 62 [vi pa.id, vi pa.cabin, vi pa.from', vi pa.size, vi pa.tier, vi pa.since, vi pa.turn, vi pa.state, vi pa.until', vi pa.asked] ?_ partyL [pa] rfl (by simp only [maxLen]; omega) [] [] _ rfl (flatRep rfl) (fun a25 ha26 => ?_)
      · as_aux_lemma => kernel_rfl
      · as_aux_lemma => kernel_rfl
      refine HKEEP (js := [0, 0]) rfl (HALL [3] ?_ (by decide) ?_)
      · as_aux_lemma => kernel_rfl
      refine APPENDR 42 (.tmp 7) (.tmp 9) 10 42 ?_ (Nat.le_of_ble_eq_true rfl) (.slice a3 0 0) ho_parties_a ho.parties.length ho_parties_c ?_ ?_ 62 ?_ (.agg #[vi 0, vi 0, vi 0, vi 0, vi 0, vi 0, vi 0, vi 0, vi 0, vi 0]) 80 ?_ rfl (by decide) 2 ([]) ho.parties _ rfl rfl (fun w hw => (hho_parties.fr hw.fr)) (by first | omega | (simp only [List.length_append, List.length_cons, List.length_nil, List.length_take, List.length_drop] at *; omega)) (by simp only [maxLen]; first | omega | (simp only [List.length_append, List.length_cons, List.length_nil, List.length_take, List.length_drop] at *; omega)) (fun a27 c28 hn29 => ?_)
      · as_aux_lemma => kernel_rfl
      · as_aux_lemma => kernel_rfl
      · as_aux_lemma => kernel_rfl
      · as_aux_lemma => kernel_rfl
      · as_aux_lemma => kernel_rfl
      refine HKEEP (js := [0, 0]) rfl (HALL [6] ?_ (by decide) ?_)
      · as_aux_lemma => kernel_rfl
      refine APPENDO 42 (.tmp 10) (.tmp 12) 13 42 ?_ (Nat.le_of_ble_eq_true rfl) (.slice a27 ((([]) ++ ho.parties).length) c28) a25 1 1 ?_ ?_ ha26 62 ?_ partyL (.agg #[vi 0, vi 0, vi 0, vi 0, vi 0, vi 0, vi 0, vi 0, vi 0, vi 0]) 80 ?_ rfl (by decide) 3 2 (([]) ++ ho.parties) ([pa]) _ rfl rfl (by first | omega | (simp only [List.length_append, List.length_cons, List.length_nil, List.length_take, List.length_drop] at *; omega)) (by simp only [maxLen]; first | omega | (simp only [List.length_append, List.length_cons, List.length_nil, List.length_take, List.length_drop] at *; omega)) (fun a30 c31 hn32 => ?_)
      · as_aux_lemma => kernel_rfl
      · as_aux_lemma => kernel_rfl
      · as_aux_lemma => kernel_rfl
      · as_aux_lemma => kernel_rfl
      · as_aux_lemma => kernel_rfl
      refine HKEEP (js := [0, 0]) rfl (HPURE (js := [0, 0]) 7 [(2, .e (some ⟨b1, 0, none⟩) 0 0), (5, .v (.slice a30 (((([]) ++ ho.parties) ++ ([pa])).length) c31))] ?_ ?_ rfl ?_)
      · as_aux_lemma => kernel_rfl
      · as_aux_lemma => kernel_rfl
      refine HEND ?_ ?_
      · as_aux_lemma => kernel_rfl
      refine IMPORT (L0 := [(45, [.slice ho_rules_seats_a ho.rules.seats.length ho_rules_seats_c, vi ho.rules.tiers, vi ho.rules.room, vi ho.rules.size, vi ho.rules.period, vi ho.rules.window, vi ho.rules.rest, vi ho.rules.tries, vi ho.rules.crew, vi ho.now, vi ho.turn, .slice ho_parties_a ho.parties.length ho_parties_c, .slice ho_cabins_a ho.cabins.length ho_cabins_c, .slice ho_todo_a ho.todo.length ho_todo_c, .slice ho_jobs_a ho.jobs.length ho_jobs_c]), (62, [vi pa.id, vi pa.cabin, vi pa.from', vi pa.size, vi pa.tier, vi pa.since, vi pa.turn, vi pa.state, vi pa.until', vi pa.asked])]) (L1 := []) [b1, b2] rfl [0, 0] _ rfl [(2, .p 0 0), (5, .v (.slice a30 (((([]) ++ ho.parties) ++ ([pa])).length) c31))] ?_ ?_ ?_
      · as_aux_lemma => kernel_rfl
      · as_aux_lemma => kernel_rfl
      refine NEXT (SEQ (SEQ (REGION [0] rfl (RUN0 1 [] [(2, .p 0 0), (5, .v (.slice a30 (((([]) ++ ho.parties) ++ ([pa])).length) c31)), (6, I 0)] ?_ rfl ?_))))
      · as_aux_lemma => kernel_rfl
      refine ENDOPS (NEXT (BLOCK (LOOP (ι := Nat × (List Cabin)) (fun j => [(2, .p 0 0), (5, .v (.slice a30 (((([]) ++ ho.parties) ++ ([pa])).length) c31)), (6, I (j.1 : Int))]) (fun j => [(45, [.slice ho_rules_seats_a ho.rules.seats.length ho_rules_seats_c, vi ho.rules.tiers, vi ho.rules.room, vi ho.rules.size, vi ho.rules.period, vi ho.rules.window, vi ho.rules.rest, vi ho.rules.tries, vi ho.rules.crew, vi ho.now, vi ho.turn, .slice ho_parties_a ho.parties.length ho_parties_c, .slice ho_cabins_a ho.cabins.length ho_cabins_c, .slice ho_todo_a ho.todo.length ho_todo_c, .slice ho_jobs_a ho.jobs.length ho_jobs_c]), (62, [vi pa.id, vi pa.cabin, vi pa.from', vi pa.size, vi pa.tier, vi pa.since, vi pa.turn, vi pa.state, vi pa.until', vi pa.asked])]) (fun j => [slA 62 partyL (.slice a30 ((([]) ++ ho.parties) ++ ([pa])).length c31) ((([]) ++ ho.parties) ++ ([pa]))]) (fun j => j.1 + j.2.length = ho.cabins.length ∧ ho.cabins.drop j.1 = j.2) (fun j => j.2.length) (0, ho.cabins) [2, 5, 6] ⟨by simp, rfl⟩ ?_ rfl rfl ?_)))
      · as_aux_lemma => kernel_rfl
      rintro ⟨k, ys⟩ ⟨hk, hd⟩
      try dsimp only at hk hd
      refine SEQ (SEQ (REGION [0, 1, 2, 3, 4] rfl (RUN0 5 [] [(2, .p 0 0), (5, .v (.slice a30 (((([]) ++ ho.parties) ++ ([pa])).length) c31)), (6, I (k : Int)), (18, B (decide ((k : Int) < (ho.cabins.length : Int))))] ?_ rfl ?_)))
      · as_aux_lemma => kernel_rfl
      refine ENDOPS (NEXT (IF (decide ((k : Int) < (ho.cabins.length : Int))) ?_ (fun bh33 => ?_) (fun bh33 => ?_)))
      · as_aux_lemma => kernel_rfl
      · -- decide ((k : Int) < (ho.cabins.length : Int)) = true
        have h33 := bh33
        have h33 := of_decide_eq_true h33
        obtain ⟨y34, ys35, rfl, hx_y34, hd_y34, hl_y34⟩ := drop_cons hd hk (by omega)
        refine SKIP (NEXT (SEQ (BLOCK (SEQ (EXPORT (fun bs hbs => ?_))))))
        obtain ⟨b36, b37, rfl⟩ := len2 hbs
        refine REGIONH ?_ 14 rfl [ptC b36 45 [.slice ho_rules_seats_a ho.rules.seats.length ho_rules_seats_c, vi ho.rules.tiers, vi ho.rules.room, vi ho.rules.size, vi ho.rules.period, vi ho.rules.window, vi ho.rules.rest, vi ho.rules.tries, vi ho.rules.crew, vi ho.now, vi ho.turn, .slice ho_parties_a ho.parties.length ho_parties_c, .slice ho_cabins_a ho.cabins.length ho_cabins_c, .slice ho_todo_a ho.todo.length ho_todo_c, .slice ho_jobs_a ho.jobs.length ho_jobs_c], ptC b37 62 [vi pa.id, vi pa.cabin, vi pa.from', vi pa.size, vi pa.tier, vi pa.since, vi pa.turn, vi pa.state, vi pa.until', vi pa.asked], slA 62 partyL (.slice a30 ((([]) ++ ho.parties) ++ ([pa])).length c31) ((([]) ++ ho.parties) ++ ([pa]))] ?_
        · as_aux_lemma => kernel_rfl
        refine HPURE (js := [0, 0, 0]) 0 [(2, .e (some ⟨b36, 0, none⟩) 0 0), (5, .v (.slice a30 (((([]) ++ ho.parties) ++ ([pa])).length) c31)), (6, I (k : Int)), (21, .v (.slice a30 (((([]) ++ ho.parties) ++ ([pa])).length) c31))] ?_ ?_ rfl ?_
        · as_aux_lemma => kernel_rfl
        · as_aux_lemma => kernel_rfl
        refine HPURE (js := [0, 0, 0]) 1 [(2, .e (some ⟨b36, 0, none⟩) 0 0), (5, .v (.slice a30 (((([]) ++ ho.parties) ++ ([pa])).length) c31)), (6, I (k : Int)), (21, .v (.slice a30 (((([]) ++ ho.parties) ++ ([pa])).length) c31)), (22, I (k : Int))] ?_ ?_ rfl ?_
        · as_aux_lemma => kernel_rfl
        · as_aux_lemma => kernel_rfl
        refine HPURE (js := [0, 0, 0]) 3 [(2, .e (some ⟨b36, 0, none⟩) 0 0), (5, .v (.slice a30 (((([]) ++ ho.parties) ++ ([pa])).length) c31)), (6, I (k : Int)), (21, .v (.slice a30 (((([]) ++ ho.parties) ++ ([pa])).length) c31)), (22, I (k : Int)), (24, .v (.slice a30 (((([]) ++ ho.parties) ++ ([pa])).length) c31))] ?_ ?_ rfl ?_
        · as_aux_lemma => kernel_rfl
        · as_aux_lemma => kernel_rfl
        refine HPURE (js := [0, 0, 0]) 4 [(2, .e (some ⟨b36, 0, none⟩) 0 0), (5, .v (.slice a30 (((([]) ++ ho.parties) ++ ([pa])).length) c31)), (6, I (k : Int)), (21, .v (.slice a30 (((([]) ++ ho.parties) ++ ([pa])).length) c31)), (22, I (k : Int)), (24, .v (.slice a30 (((([]) ++ ho.parties) ++ ([pa])).length) c31)), (25, I (k : Int))] ?_ ?_ rfl ?_
        · as_aux_lemma => kernel_rfl
        · as_aux_lemma => kernel_rfl
        refine HPURE (js := [0, 0, 0]) 7 [(2, .e (some ⟨b36, 0, none⟩) 0 0), (5, .v (.slice a30 (((([]) ++ ho.parties) ++ ([pa])).length) c31)), (6, I (k : Int)), (21, .v (.slice a30 (((([]) ++ ho.parties) ++ ([pa])).length) c31)), (22, I (k : Int)), (24, .v (.slice a30 (((([]) ++ ho.parties) ++ ([pa])).length) c31)), (25, I (k : Int)), (28, .e (some ⟨b36, 0, none⟩) 0 0)] ?_ ?_ rfl ?_
        · as_aux_lemma => kernel_rfl
        · as_aux_lemma => kernel_rfl
        refine HPURE (js := [0, 0, 0]) 8 [(2, .e (some ⟨b36, 0, none⟩) 0 0), (5, .v (.slice a30 (((([]) ++ ho.parties) ++ ([pa])).length) c31)), (6, I (k : Int)), (21, .v (.slice a30 (((([]) ++ ho.parties) ++ ([pa])).length) c31)), (22, I (k : Int)), (24, .v (.slice a30 (((([]) ++ ho.parties) ++ ([pa])).length) c31)), (25, I (k : Int)), (29, .e (some ⟨b36, 0, none⟩) 0 0)] ?_ ?_ rfl ?_
        · as_aux_lemma => kernel_rfl
        · as_aux_lemma => kernel_rfl
        refine HLOADE (i := 9) (js := [0, 0, 0])  39 (.tmp 29) 30 39 ?_ (Nat.le_of_ble_eq_true rfl) (some ⟨b36, 0, none⟩) 0 0 [.slice ho_rules_seats_a ho.rules.seats.length ho_rules_seats_c, vi ho.rules.tiers, vi ho.rules.room, vi ho.rules.size, vi ho.rules.period, vi ho.rules.window, vi ho.rules.rest, vi ho.rules.tries, vi ho.rules.crew, vi ho.now, vi ho.turn, .slice ho_parties_a ho.parties.length ho_parties_c, .slice ho_cabins_a ho.cabins.length ho_cabins_c, .slice ho_todo_a ho.todo.length ho_todo_c, .slice ho_jobs_a ho.jobs.length ho_jobs_c] (.slice ho_rules_seats_a ho.rules.seats.length ho_rules_seats_c) ?_ (fun w hw => ptC_elem (hw.own 0 rfl)) ?_ ?_ rfl ?_
        · as_aux_lemma => kernel_rfl
        · as_aux_lemma => kernel_rfl
        · as_aux_lemma => kernel_rfl
        · as_aux_lemma => kernel_rfl
        refine HPURE (js := [0, 0, 0]) 10 [(2, .e (some ⟨b36, 0, none⟩) 0 0), (5, .v (.slice a30 (((([]) ++ ho.parties) ++ ([pa])).length) c31)), (6, I (k : Int)), (21, .v (.slice a30 (((([]) ++ ho.parties) ++ ([pa])).length) c31)), (22, I (k : Int)), (24, .v (.slice a30 (((([]) ++ ho.parties) ++ ([pa])).length) c31)), (25, I (k : Int)), (30, .v (.slice ho_rules_seats_a ho.rules.seats.length ho_rules_seats_c)), (31, I (k : Int))] ?_ ?_ rfl ?_
        · as_aux_lemma => kernel_rfl
        · as_aux_lemma => kernel_rfl
        obtain ⟨x38, hx39⟩ : ∃ y, ho.rules.seats[k]? = some y := ⟨_, List.getElem?_eq_getElem (by omega)⟩
        refine HINDEX (i := 11) (js := [0, 0, 0])  39 (.tmp 30) (.tmp 31) 32 0 ?_ (Nat.le_of_ble_eq_true rfl) ho_rules_seats_a ho.rules.seats.length ho_rules_seats_c .i64 (k : Int) 3 1 ?_ ?_ ?_ ?_ (Rd.some hho_rules_seats (by omega)) (by omega) (by omega) ?_ rfl ?_
        · as_aux_lemma => kernel_rfl
        · as_aux_lemma => kernel_rfl
        · as_aux_lemma => kernel_rfl
        · as_aux_lemma => kernel_rfl
        · as_aux_lemma => kernel_rfl
        · as_aux_lemma => kernel_rfl
        refine HLOADE (i := 12) (js := [0, 0, 0])  3 (.tmp 32) 33 3 ?_ (Nat.le_of_ble_eq_true rfl) ho_rules_seats_a (k * 1) 0 [vi x38] (vi x38) ?_ (fun w hw => (hho_rules_seats.fr hw.fr).flat hx39) ?_ ?_ rfl ?_
        · as_aux_lemma => kernel_rfl
        · as_aux_lemma => kernel_rfl
        · as_aux_lemma => kernel_rfl
        · as_aux_lemma => kernel_rfl
        refine HALL [2] ?_ (by decide) ?_
        · as_aux_lemma => kernel_rfl
        refine CALL 52 #[.slice a30 (((([]) ++ ho.parties) ++ ([pa])).length) c31, vi (k : Int)] (some 23) ?_ [] [] _ rfl (⟨{x : Int // True}, fun q => vi q.1, fun q => []⟩) (fun w hw => by have h10 := heldIn_c w ((([]) ++ ho.parties) ++ ([pa])) a30 c31 (hw.rdO 2 rfl) (k : Int); exact h10) (by rintro _ ⟨⟩; exact Nat.le_of_ble_eq_true rfl) ?_
        · as_aux_lemma => kernel_rfl
        rintro ⟨m40, hm41⟩
        try dsimp only at hm41
        refine HKEEP (js := [0, 0, 0]) rfl (HALL [5] ?_ (by decide) ?_)
        · as_aux_lemma => kernel_rfl
        refine CALL 53 #[.slice a30 (((([]) ++ ho.parties) ++ ([pa])).length) c31, vi (k : Int)] (some 26) ?_ [] [] _ rfl (⟨{x : Int // True}, fun q => vi q.1, fun q => []⟩) (fun w hw => by have h10 := tiedIn_c w ((([]) ++ ho.parties) ++ ([pa])) a30 c31 (hw.rdO 2 rfl) (k : Int); exact h10) (by rintro _ ⟨⟩; exact Nat.le_of_ble_eq_true rfl) ?_
        · as_aux_lemma => kernel_rfl
        rintro ⟨m42, hm43⟩
        try dsimp only at hm43
        refine HKEEP (js := [0, 0, 0]) rfl (HPURE (js := [0, 0, 0]) 6 [(2, .e (some ⟨b36, 0, none⟩) 0 0), (5, .v (.slice a30 (((([]) ++ ho.parties) ++ ([pa])).length) c31)), (6, I (k : Int)), (27, I (wr (m40 + m42))), (33, I x38)] ?_ ?_ rfl ?_)
        · as_aux_lemma => kernel_rfl
        · as_aux_lemma => kernel_rfl
        refine HPURE (js := [0, 0, 0]) 13 [(2, .e (some ⟨b36, 0, none⟩) 0 0), (5, .v (.slice a30 (((([]) ++ ho.parties) ++ ([pa])).length) c31)), (6, I (k : Int)), (34, B (decide ((wr (m40 + m42)) > x38)))] ?_ ?_ rfl ?_
        · as_aux_lemma => kernel_rfl
        · as_aux_lemma => kernel_rfl
        refine HEND ?_ ?_
        · as_aux_lemma => kernel_rfl
        refine IMPORT (L0 := [(45, [.slice ho_rules_seats_a ho.rules.seats.length ho_rules_seats_c, vi ho.rules.tiers, vi ho.rules.room, vi ho.rules.size, vi ho.rules.period, vi ho.rules.window, vi ho.rules.rest, vi ho.rules.tries, vi ho.rules.crew, vi ho.now, vi ho.turn, .slice ho_parties_a ho.parties.length ho_parties_c, .slice ho_cabins_a ho.cabins.length ho_cabins_c, .slice ho_todo_a ho.todo.length ho_todo_c, .slice ho_jobs_a ho.jobs.length ho_jobs_c]), (62, [vi pa.id, vi pa.cabin, vi pa.from', vi pa.size, vi pa.tier, vi pa.since, vi pa.turn, vi pa.state, vi pa.until', vi pa.asked])]) (L1 := []) [b36, b37] rfl [0, 0] _ rfl [(2, .p 0 0), (5, .v (.slice a30 (((([]) ++ ho.parties) ++ ([pa])).length) c31)), (6, I (k : Int)), (34, B (decide ((wr (m40 + m42)) > x38)))] ?_ ?_ ?_
        · as_aux_lemma => kernel_rfl
        · as_aux_lemma => kernel_rfl
        refine NEXT (IF (decide ((wr (m40 + m42)) > x38)) ?_ (fun bh44 => ?_) (fun bh44 => ?_))
        · as_aux_lemma => kernel_rfl
        · -- decide ((wr (m40 + m42)) > x38) = true
          have h44 := bh44
          have h44 := of_decide_eq_true h44
          refine SEQ (REGION [0] rfl (RUN0 1 [] [(4, B false)] ?_ rfl ?_))
          · as_aux_lemma => kernel_rfl
          refine ENDOPS (NEXT (RET (OUTR (PASS trivial (PASS trivial (OUTR (PASS trivial (FIN (.bool false) ?_ ⟨false, trivial⟩ ?_ [] ?_))))))))
          · as_aux_lemma => kernel_rfl
          · rfl
          · rfl
        · -- decide ((wr (m40 + m42)) > x38) = false
          have h44 := bh44
          have h44 := of_decide_eq_false h44
          refine SKIP (OUTN (NEXT (REGION [0, 1, 2] rfl (RUN0 2 [2] [(2, .p 0 0), (5, .v (.slice a30 (((([]) ++ ho.parties) ++ ([pa])).length) c31)), (20, I (wr ((k : Int) + 1)))] ?_ rfl ?_))))
          · as_aux_lemma => kernel_rfl
          refine CAST (d := 20) (vi (wr ((k : Int) + 1))) (vi ((k + 1 : Nat) : Int)) ?_ (vi_cast (by omega) (by omega)) ?_
          · as_aux_lemma => kernel_rfl
          refine RUN0 1 [] [(2, .p 0 0), (5, .v (.slice a30 (((([]) ++ ho.parties) ++ ([pa])).length) c31)), (6, I ((k + 1 : Nat) : Int))] ?_ rfl ?_
          · as_aux_lemma => kernel_rfl
          refine ENDOPS (BACK (k + 1, ys35) [2, 5, 6] 2 [0] _ ⟨hl_y34, hd_y34⟩ (by simp) ?_ rfl rfl rfl)
          · as_aux_lemma => kernel_rfl
      · -- decide ((k : Int) < (ho.cabins.length : Int)) = false
        have h33 := bh33
        have h33 := of_decide_eq_false h33
        obtain rfl := drop_nil hk (by omega)
        refine EXIT (PASS trivial (PASS trivial (OUT (NEXT (SEQ (REGION [0] rfl (RUN0 1 [] [(4, B true)] ?_ rfl ?_)))))))
        · as_aux_lemma => kernel_rfl
        refine ENDOPS (NEXT (RET (FIN (.bool true) ?_ ⟨true, trivial⟩ ?_ [] ?_)))
        · as_aux_lemma => kernel_rfl
        · rfl
        · rfl
  · -- operation 5 next
    refine BUILDS 42 1 #[(0, .tmp 11)] 12 42 ?_ (Nat.le_of_ble_eq_true rfl) 62 [vi pa.id, vi pa.cabin, vi pa.from', vi pa.size, vi pa.tier, vi pa.since, vi pa.turn, vi pa.state, vi pa.until', vi pa.asked] ?_ partyL [pa] rfl (by simp only [maxLen]; omega) [] [] _ rfl (flatRep rfl) (fun a45 ha46 => ?_)
    · as_aux_lemma => kernel_rfl
    · as_aux_lemma => kernel_rfl
    refine HKEEP (js := [0, 0]) rfl (HALL [0] ?_ (by decide) ?_)
    · as_aux_lemma => kernel_rfl
    refine BUILDS 42 0 #[] 7 42 ?_ (Nat.le_of_ble_eq_true rfl) 62 [] ?_ partyL [] rfl (by simp only [maxLen]; omega) [] [] _ rfl (flatRep rfl) (fun a47 ha48 => ?_)
    · as_aux_lemma => kernel_rfl
    · as_aux_lemma => kernel_rfl
    refine HKEEP (js := [0, 0]) rfl (HALL [3] ?_ (by decide) ?_)
    · as_aux_lemma => kernel_rfl
    refine APPENDR 42 (.tmp 7) (.tmp 9) 10 42 ?_ (Nat.le_of_ble_eq_true rfl) (.slice a47 0 0) ho_parties_a ho.parties.length ho_parties_c ?_ ?_ 62 ?_ (.agg #[vi 0, vi 0, vi 0, vi 0, vi 0, vi 0, vi 0, vi 0, vi 0, vi 0]) 80 ?_ rfl (by decide) 3 ([]) ho.parties _ rfl rfl (fun w hw => (hho_parties.fr hw.fr)) (by first | omega | (simp only [List.length_append, List.length_cons, List.length_nil, List.length_take, List.length_drop] at *; omega)) (by simp only [maxLen]; first | omega | (simp only [List.length_append, List.length_cons, List.length_nil, List.length_take, List.length_drop] at *; omega)) (fun a49 c50 hn51 => ?_)
    · as_aux_lemma => kernel_rfl
    · as_aux_lemma => kernel_rfl
    · as_aux_lemma => kernel_rfl
    · as_aux_lemma => kernel_rfl
    · as_aux_lemma => kernel_rfl
    refine HKEEP (js := [0, 0]) rfl (HALL [6] ?_ (by decide) ?_)
    · as_aux_lemma => kernel_rfl
    refine APPENDO 42 (.tmp 10) (.tmp 12) 13 42 ?_ (Nat.le_of_ble_eq_true rfl) (.slice a49 ((([]) ++ ho.parties).length) c50) a45 1 1 ?_ ?_ ha46 62 ?_ partyL (.agg #[vi 0, vi 0, vi 0, vi 0, vi 0, vi 0, vi 0, vi 0, vi 0, vi 0]) 80 ?_ rfl (by decide) 3 2 (([]) ++ ho.parties) ([pa]) _ rfl rfl (by first | omega | (simp only [List.length_append, List.length_cons, List.length_nil, List.length_take, List.length_drop] at *; omega)) (by simp only [maxLen]; first | omega | (simp only [List.length_append, List.length_cons, List.length_nil, List.length_take, List.length_drop] at *; omega)) (fun a52 c53 hn54 => ?_)
    · as_aux_lemma => kernel_rfl
    · as_aux_lemma => kernel_rfl
    · as_aux_lemma => kernel_rfl
    · as_aux_lemma => kernel_rfl
    · as_aux_lemma => kernel_rfl
    refine HKEEP (js := [0, 0]) rfl (HPURE (js := [0, 0]) 7 [(2, .e (some ⟨b1, 0, none⟩) 0 0), (5, .v (.slice a52 (((([]) ++ ho.parties) ++ ([pa])).length) c53))] ?_ ?_ rfl ?_)
    · as_aux_lemma => kernel_rfl
    · as_aux_lemma => kernel_rfl
    refine HEND ?_ ?_
    · as_aux_lemma => kernel_rfl
    refine IMPORT (L0 := [(45, [.slice ho_rules_seats_a ho.rules.seats.length ho_rules_seats_c, vi ho.rules.tiers, vi ho.rules.room, vi ho.rules.size, vi ho.rules.period, vi ho.rules.window, vi ho.rules.rest, vi ho.rules.tries, vi ho.rules.crew, vi ho.now, vi ho.turn, .slice ho_parties_a ho.parties.length ho_parties_c, .slice ho_cabins_a ho.cabins.length ho_cabins_c, .slice ho_todo_a ho.todo.length ho_todo_c, .slice ho_jobs_a ho.jobs.length ho_jobs_c]), (62, [vi pa.id, vi pa.cabin, vi pa.from', vi pa.size, vi pa.tier, vi pa.since, vi pa.turn, vi pa.state, vi pa.until', vi pa.asked])]) (L1 := []) [b1, b2] rfl [0, 0] _ rfl [(2, .p 0 0), (5, .v (.slice a52 (((([]) ++ ho.parties) ++ ([pa])).length) c53))] ?_ ?_ ?_
    · as_aux_lemma => kernel_rfl
    · as_aux_lemma => kernel_rfl
    refine NEXT (SEQ (SEQ (REGION [0] rfl (RUN0 1 [] [(2, .p 0 0), (5, .v (.slice a52 (((([]) ++ ho.parties) ++ ([pa])).length) c53)), (6, I 0)] ?_ rfl ?_))))
    · as_aux_lemma => kernel_rfl
    refine ENDOPS (NEXT (BLOCK (LOOP (ι := Nat × (List Cabin)) (fun j => [(2, .p 0 0), (5, .v (.slice a52 (((([]) ++ ho.parties) ++ ([pa])).length) c53)), (6, I (j.1 : Int))]) (fun j => [(45, [.slice ho_rules_seats_a ho.rules.seats.length ho_rules_seats_c, vi ho.rules.tiers, vi ho.rules.room, vi ho.rules.size, vi ho.rules.period, vi ho.rules.window, vi ho.rules.rest, vi ho.rules.tries, vi ho.rules.crew, vi ho.now, vi ho.turn, .slice ho_parties_a ho.parties.length ho_parties_c, .slice ho_cabins_a ho.cabins.length ho_cabins_c, .slice ho_todo_a ho.todo.length ho_todo_c, .slice ho_jobs_a ho.jobs.length ho_jobs_c]), (62, [vi pa.id, vi pa.cabin, vi pa.from', vi pa.size, vi pa.tier, vi pa.since, vi pa.turn, vi pa.state, vi pa.until', vi pa.asked])]) (fun j => [slA 62 partyL (.slice a52 ((([]) ++ ho.parties) ++ ([pa])).length c53) ((([]) ++ ho.parties) ++ ([pa]))]) (fun j => j.1 + j.2.length = ho.cabins.length ∧ ho.cabins.drop j.1 = j.2) (fun j => j.2.length) (0, ho.cabins) [2, 5, 6] ⟨by simp, rfl⟩ ?_ rfl rfl ?_)))
    · as_aux_lemma => kernel_rfl
    rintro ⟨k, ys⟩ ⟨hk, hd⟩
    try dsimp only at hk hd
    refine SEQ (SEQ (REGION [0, 1, 2, 3, 4] rfl (RUN0 5 [] [(2, .p 0 0), (5, .v (.slice a52 (((([]) ++ ho.parties) ++ ([pa])).length) c53)), (6, I (k : Int)), (18, B (decide ((k : Int) < (ho.cabins.length : Int))))] ?_ rfl ?_)))
    · as_aux_lemma => kernel_rfl
    refine ENDOPS (NEXT (IF (decide ((k : Int) < (ho.cabins.length : Int))) ?_ (fun bh55 => ?_) (fun bh55 => ?_)))
    · as_aux_lemma => kernel_rfl
    · -- decide ((k : Int) < (ho.cabins.length : Int)) = true
      have h55 := bh55
      have h55 := of_decide_eq_true h55
      obtain ⟨y56, ys57, rfl, hx_y56, hd_y56, hl_y56⟩ := drop_cons hd hk (by omega)
      refine SKIP (NEXT (SEQ (BLOCK (SEQ (EXPORT (fun bs hbs => ?_))))))
      obtain ⟨b58, b59, rfl⟩ := len2 hbs
      refine REGIONH ?_ 14 rfl [ptC b58 45 [.slice ho_rules_seats_a ho.rules.seats.length ho_rules_seats_c, vi ho.rules.tiers, vi ho.rules.room, vi ho.rules.size, vi ho.rules.period, vi ho.rules.window, vi ho.rules.rest, vi ho.rules.tries, vi ho.rules.crew, vi ho.now, vi ho.turn, .slice ho_parties_a ho.parties.length ho_parties_c, .slice ho_cabins_a ho.cabins.length ho_cabins_c, .slice ho_todo_a ho.todo.length ho_todo_c, .slice ho_jobs_a ho.jobs.length ho_jobs_c], ptC b59 62 [vi pa.id, vi pa.cabin, vi pa.from', vi pa.size, vi pa.tier, vi pa.since, vi pa.turn, vi pa.state, vi pa.until', vi pa.asked], slA 62 partyL (.slice a52 ((([]) ++ ho.parties) ++ ([pa])).length c53) ((([]) ++ ho.parties) ++ ([pa]))] ?_
      · as_aux_lemma => kernel_rfl
      refine HPURE (js := [0, 0, 0]) 0 [(2, .e (some ⟨b58, 0, none⟩) 0 0), (5, .v (.slice a52 (((([]) ++ ho.parties) ++ ([pa])).length) c53)), (6, I (k : Int)), (21, .v (.slice a52 (((([]) ++ ho.parties) ++ ([pa])).length) c53))] ?_ ?_ rfl ?_
      · as_aux_lemma => kernel_rfl
      · as_aux_lemma => kernel_rfl
      refine HPURE (js := [0, 0, 0]) 1 [(2, .e (some ⟨b58, 0, none⟩) 0 0), (5, .v (.slice a52 (((([]) ++ ho.parties) ++ ([pa])).length) c53)), (6, I (k : Int)), (21, .v (.slice a52 (((([]) ++ ho.parties) ++ ([pa])).length) c53)), (22, I (k : Int))] ?_ ?_ rfl ?_
      · as_aux_lemma => kernel_rfl
      · as_aux_lemma => kernel_rfl
      refine HPURE (js := [0, 0, 0]) 3 [(2, .e (some ⟨b58, 0, none⟩) 0 0), (5, .v (.slice a52 (((([]) ++ ho.parties) ++ ([pa])).length) c53)), (6, I (k : Int)), (21, .v (.slice a52 (((([]) ++ ho.parties) ++ ([pa])).length) c53)), (22, I (k : Int)), (24, .v (.slice a52 (((([]) ++ ho.parties) ++ ([pa])).length) c53))] ?_ ?_ rfl ?_
      · as_aux_lemma => kernel_rfl
      · as_aux_lemma => kernel_rfl
      refine HPURE (js := [0, 0, 0]) 4 [(2, .e (some ⟨b58, 0, none⟩) 0 0), (5, .v (.slice a52 (((([]) ++ ho.parties) ++ ([pa])).length) c53)), (6, I (k : Int)), (21, .v (.slice a52 (((([]) ++ ho.parties) ++ ([pa])).length) c53)), (22, I (k : Int)), (24, .v (.slice a52 (((([]) ++ ho.parties) ++ ([pa])).length) c53)), (25, I (k : Int))] ?_ ?_ rfl ?_
      · as_aux_lemma => kernel_rfl
      · as_aux_lemma => kernel_rfl
      refine HPURE (js := [0, 0, 0]) 7 [(2, .e (some ⟨b58, 0, none⟩) 0 0), (5, .v (.slice a52 (((([]) ++ ho.parties) ++ ([pa])).length) c53)), (6, I (k : Int)), (21, .v (.slice a52 (((([]) ++ ho.parties) ++ ([pa])).length) c53)), (22, I (k : Int)), (24, .v (.slice a52 (((([]) ++ ho.parties) ++ ([pa])).length) c53)), (25, I (k : Int)), (28, .e (some ⟨b58, 0, none⟩) 0 0)] ?_ ?_ rfl ?_
      · as_aux_lemma => kernel_rfl
      · as_aux_lemma => kernel_rfl
      refine HPURE (js := [0, 0, 0]) 8 [(2, .e (some ⟨b58, 0, none⟩) 0 0), (5, .v (.slice a52 (((([]) ++ ho.parties) ++ ([pa])).length) c53)), (6, I (k : Int)), (21, .v (.slice a52 (((([]) ++ ho.parties) ++ ([pa])).length) c53)), (22, I (k : Int)), (24, .v (.slice a52 (((([]) ++ ho.parties) ++ ([pa])).length) c53)), (25, I (k : Int)), (29, .e (some ⟨b58, 0, none⟩) 0 0)] ?_ ?_ rfl ?_
      · as_aux_lemma => kernel_rfl
      · as_aux_lemma => kernel_rfl
      refine HLOADE (i := 9) (js := [0, 0, 0])  39 (.tmp 29) 30 39 ?_ (Nat.le_of_ble_eq_true rfl) (some ⟨b58, 0, none⟩) 0 0 [.slice ho_rules_seats_a ho.rules.seats.length ho_rules_seats_c, vi ho.rules.tiers, vi ho.rules.room, vi ho.rules.size, vi ho.rules.period, vi ho.rules.window, vi ho.rules.rest, vi ho.rules.tries, vi ho.rules.crew, vi ho.now, vi ho.turn, .slice ho_parties_a ho.parties.length ho_parties_c, .slice ho_cabins_a ho.cabins.length ho_cabins_c, .slice ho_todo_a ho.todo.length ho_todo_c, .slice ho_jobs_a ho.jobs.length ho_jobs_c] (.slice ho_rules_seats_a ho.rules.seats.length ho_rules_seats_c) ?_ (fun w hw => ptC_elem (hw.own 0 rfl)) ?_ ?_ rfl ?_
      · as_aux_lemma => kernel_rfl
      · as_aux_lemma => kernel_rfl
      · as_aux_lemma => kernel_rfl
      · as_aux_lemma => kernel_rfl
      refine HPURE (js := [0, 0, 0]) 10 [(2, .e (some ⟨b58, 0, none⟩) 0 0), (5, .v (.slice a52 (((([]) ++ ho.parties) ++ ([pa])).length) c53)), (6, I (k : Int)), (21, .v (.slice a52 (((([]) ++ ho.parties) ++ ([pa])).length) c53)), (22, I (k : Int)), (24, .v (.slice a52 (((([]) ++ ho.parties) ++ ([pa])).length) c53)), (25, I (k : Int)), (30, .v (.slice ho_rules_seats_a ho.rules.seats.length ho_rules_seats_c)), (31, I (k : Int))] ?_ ?_ rfl ?_
      · as_aux_lemma => kernel_rfl
      · as_aux_lemma => kernel_rfl
      obtain ⟨x60, hx61⟩ : ∃ y, ho.rules.seats[k]? = some y := ⟨_, List.getElem?_eq_getElem (by omega)⟩
      refine HINDEX (i := 11) (js := [0, 0, 0])  39 (.tmp 30) (.tmp 31) 32 0 ?_ (Nat.le_of_ble_eq_true rfl) ho_rules_seats_a ho.rules.seats.length ho_rules_seats_c .i64 (k : Int) 3 1 ?_ ?_ ?_ ?_ (Rd.some hho_rules_seats (by omega)) (by omega) (by omega) ?_ rfl ?_
      · as_aux_lemma => kernel_rfl
      · as_aux_lemma => kernel_rfl
      · as_aux_lemma => kernel_rfl
      · as_aux_lemma => kernel_rfl
      · as_aux_lemma => kernel_rfl
      · as_aux_lemma => kernel_rfl
      refine HLOADE (i := 12) (js := [0, 0, 0])  3 (.tmp 32) 33 3 ?_ (Nat.le_of_ble_eq_true rfl) ho_rules_seats_a (k * 1) 0 [vi x60] (vi x60) ?_ (fun w hw => (hho_rules_seats.fr hw.fr).flat hx61) ?_ ?_ rfl ?_
      · as_aux_lemma => kernel_rfl
      · as_aux_lemma => kernel_rfl
      · as_aux_lemma => kernel_rfl
      · as_aux_lemma => kernel_rfl
      refine HALL [2] ?_ (by decide) ?_
      · as_aux_lemma => kernel_rfl
      refine CALL 52 #[.slice a52 (((([]) ++ ho.parties) ++ ([pa])).length) c53, vi (k : Int)] (some 23) ?_ [] [] _ rfl (⟨{x : Int // True}, fun q => vi q.1, fun q => []⟩) (fun w hw => by have h10 := heldIn_c w ((([]) ++ ho.parties) ++ ([pa])) a52 c53 (hw.rdO 2 rfl) (k : Int); exact h10) (by rintro _ ⟨⟩; exact Nat.le_of_ble_eq_true rfl) ?_
      · as_aux_lemma => kernel_rfl
      rintro ⟨m62, hm63⟩
      try dsimp only at hm63
      refine HKEEP (js := [0, 0, 0]) rfl (HALL [5] ?_ (by decide) ?_)
      · as_aux_lemma => kernel_rfl
      refine CALL 53 #[.slice a52 (((([]) ++ ho.parties) ++ ([pa])).length) c53, vi (k : Int)] (some 26) ?_ [] [] _ rfl (⟨{x : Int // True}, fun q => vi q.1, fun q => []⟩) (fun w hw => by have h10 := tiedIn_c w ((([]) ++ ho.parties) ++ ([pa])) a52 c53 (hw.rdO 2 rfl) (k : Int); exact h10) (by rintro _ ⟨⟩; exact Nat.le_of_ble_eq_true rfl) ?_
      · as_aux_lemma => kernel_rfl
      rintro ⟨m64, hm65⟩
      try dsimp only at hm65
      refine HKEEP (js := [0, 0, 0]) rfl (HPURE (js := [0, 0, 0]) 6 [(2, .e (some ⟨b58, 0, none⟩) 0 0), (5, .v (.slice a52 (((([]) ++ ho.parties) ++ ([pa])).length) c53)), (6, I (k : Int)), (27, I (wr (m62 + m64))), (33, I x60)] ?_ ?_ rfl ?_)
      · as_aux_lemma => kernel_rfl
      · as_aux_lemma => kernel_rfl
      refine HPURE (js := [0, 0, 0]) 13 [(2, .e (some ⟨b58, 0, none⟩) 0 0), (5, .v (.slice a52 (((([]) ++ ho.parties) ++ ([pa])).length) c53)), (6, I (k : Int)), (34, B (decide ((wr (m62 + m64)) > x60)))] ?_ ?_ rfl ?_
      · as_aux_lemma => kernel_rfl
      · as_aux_lemma => kernel_rfl
      refine HEND ?_ ?_
      · as_aux_lemma => kernel_rfl
      refine IMPORT (L0 := [(45, [.slice ho_rules_seats_a ho.rules.seats.length ho_rules_seats_c, vi ho.rules.tiers, vi ho.rules.room, vi ho.rules.size, vi ho.rules.period, vi ho.rules.window, vi ho.rules.rest, vi ho.rules.tries, vi ho.rules.crew, vi ho.now, vi ho.turn, .slice ho_parties_a ho.parties.length ho_parties_c, .slice ho_cabins_a ho.cabins.length ho_cabins_c, .slice ho_todo_a ho.todo.length ho_todo_c, .slice ho_jobs_a ho.jobs.length ho_jobs_c]), (62, [vi pa.id, vi pa.cabin, vi pa.from', vi pa.size, vi pa.tier, vi pa.since, vi pa.turn, vi pa.state, vi pa.until', vi pa.asked])]) (L1 := []) [b58, b59] rfl [0, 0] _ rfl [(2, .p 0 0), (5, .v (.slice a52 (((([]) ++ ho.parties) ++ ([pa])).length) c53)), (6, I (k : Int)), (34, B (decide ((wr (m62 + m64)) > x60)))] ?_ ?_ ?_
      · as_aux_lemma => kernel_rfl
      · as_aux_lemma => kernel_rfl
      refine NEXT (IF (decide ((wr (m62 + m64)) > x60)) ?_ (fun bh66 => ?_) (fun bh66 => ?_))
      · as_aux_lemma => kernel_rfl
      · -- decide ((wr (m62 + m64)) > x60) = true
        have h66 := bh66
        have h66 := of_decide_eq_true h66
        refine SEQ (REGION [0] rfl (RUN0 1 [] [(4, B false)] ?_ rfl ?_))
        · as_aux_lemma => kernel_rfl
        refine ENDOPS (NEXT (RET (OUTR (PASS trivial (PASS trivial (OUTR (PASS trivial (FIN (.bool false) ?_ ⟨false, trivial⟩ ?_ [] ?_))))))))
        · as_aux_lemma => kernel_rfl
        · rfl
        · rfl
      · -- decide ((wr (m62 + m64)) > x60) = false
        have h66 := bh66
        have h66 := of_decide_eq_false h66
        refine SKIP (OUTN (NEXT (REGION [0, 1, 2] rfl (RUN0 2 [2] [(2, .p 0 0), (5, .v (.slice a52 (((([]) ++ ho.parties) ++ ([pa])).length) c53)), (20, I (wr ((k : Int) + 1)))] ?_ rfl ?_))))
        · as_aux_lemma => kernel_rfl
        refine CAST (d := 20) (vi (wr ((k : Int) + 1))) (vi ((k + 1 : Nat) : Int)) ?_ (vi_cast (by omega) (by omega)) ?_
        · as_aux_lemma => kernel_rfl
        refine RUN0 1 [] [(2, .p 0 0), (5, .v (.slice a52 (((([]) ++ ho.parties) ++ ([pa])).length) c53)), (6, I ((k + 1 : Nat) : Int))] ?_ rfl ?_
        · as_aux_lemma => kernel_rfl
        refine ENDOPS (BACK (k + 1, ys57) [2, 5, 6] 2 [0] _ ⟨hl_y56, hd_y56⟩ (by simp) ?_ rfl rfl rfl)
        · as_aux_lemma => kernel_rfl
    · -- decide ((k : Int) < (ho.cabins.length : Int)) = false
      have h55 := bh55
      have h55 := of_decide_eq_false h55
      obtain rfl := drop_nil hk (by omega)
      refine EXIT (PASS trivial (PASS trivial (OUT (NEXT (SEQ (REGION [0] rfl (RUN0 1 [] [(4, B true)] ?_ rfl ?_)))))))
      · as_aux_lemma => kernel_rfl
      refine ENDOPS (NEXT (RET (FIN (.bool true) ?_ ⟨true, trivial⟩ ?_ [] ?_)))
      · as_aux_lemma => kernel_rfl
      · rfl
      · rfl

end SX
end Go.Proofs.Ytpdijcbgdalphaa
