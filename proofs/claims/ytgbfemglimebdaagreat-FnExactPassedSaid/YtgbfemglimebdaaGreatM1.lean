/- Walks, printed by program. -/
import Derived.Test.YtgbfemglimebdaaGreatI5
import Derived.Test.YtgbfemglimebdaaGreatMdlp
namespace Go.Proofs.YtgbfemglimebdaaGreat
namespace SX
open Go Go.RowKit
set_option linter.unusedVariables false
set_option linter.unusedSimpArgs false
set_option maxRecDepth 10000
set_option maxHeartbeats 400000
theorem iResting_c (W : World) (p : Party) (now : Int) : Spec Tryz.prog W [] 51 #[.agg #[vi p.id, vi p.cabin, vi p.from', vi p.size, vi p.tier, vi p.since, vi p.turn, vi p.state, vi p.until', vi p.asked], vi now] (RV (.bool (restingB p now))) := by
 refine ENTER0 (N := 14) (vs := [.agg #[vi p.id, vi p.cabin, vi p.from', vi p.size, vi p.tier, vi p.since, vi p.turn, vi p.state, vi p.until', vi p.asked], vi now]) Tryz.func51 rfl rfl (NL rfl) ?_
 refine SEQ (REGION [0, 1] rfl (RUL 2 [] [(2, .p 0 0)] [(54, partyE p)] (by kernel_rfl) rfl (ENDOPS (NEXT (SEQ (REGION [0, 1, 2, 3, 4, 5, 6, 7, 8, 9] rfl (RU 4 [4, 5, 6, 7, 8, 9] [(8, B (p.state == 1))] (by kernel_rfl) rfl (SPLIT (d := 8) (p.state == 1) (by kernel_rfl) (fun bh1 => ?_) (fun bh1 => ?_)))))))))
 ·
  have h1 := bh1
  have h1 := eq_of_beq h1
  refine RU 6 [] [(4, B (decide (p.until' > now)))] (by kernel_rfl) rfl (ENDOPS (NEXT (RET (FIN (.bool (decide (p.until' > now))) (by kernel_rfl) () ?_ [] ?_))))
  · (first | (simp [RV, restingB, *]; done) | (simp_all [RV, restingB]; done))
  · rfl
 ·
  have h1 := bh1
  have h1 := ne_of_beq_false h1
  refine RU 6 [] [(4, B false)] (by kernel_rfl) rfl (ENDOPS (NEXT (RET (FIN (.bool false) (by kernel_rfl) () ?_ [] ?_))))
  · (first | (simp [RV, restingB, *]; done) | (simp_all [RV, restingB]; done))
  · rfl

theorem iBefore_c (W : World) (r : Rules) (r_seats_a : Option Addr) (r_seats_c : Nat) (hr_seats : Rd intL W r_seats_a r.seats) (a : Party) (b : Party) (now : Int) : Spec Tryz.prog W [] 46 #[.agg #[.slice r_seats_a r.seats.length r_seats_c, vi r.tiers, vi r.room, vi r.size, vi r.period, vi r.window, vi r.rest, vi r.tries, vi r.crew], .agg #[vi a.id, vi a.cabin, vi a.from', vi a.size, vi a.tier, vi a.since, vi a.turn, vi a.state, vi a.until', vi a.asked], .agg #[vi b.id, vi b.cabin, vi b.from', vi b.size, vi b.tier, vi b.since, vi b.turn, vi b.state, vi b.until', vi b.asked], vi now] (RV (.bool (beforeB r a b now))) := by
 refine ENTER0 (N := 42) (vs := [.agg #[.slice r_seats_a r.seats.length r_seats_c, vi r.tiers, vi r.room, vi r.size, vi r.period, vi r.window, vi r.rest, vi r.tries, vi r.crew], .agg #[vi a.id, vi a.cabin, vi a.from', vi a.size, vi a.tier, vi a.since, vi a.turn, vi a.state, vi a.until', vi a.asked], .agg #[vi b.id, vi b.cabin, vi b.from', vi b.size, vi b.tier, vi b.since, vi b.turn, vi b.state, vi b.until', vi b.asked], vi now]) Tryz.func46 rfl rfl (NL rfl) ?_
 have hr_seats_len := hr_seats.len
 refine SEQ (REGION [0, 1, 2, 3] rfl (RUL 4 [] [(4, .p 0 0), (5, .p 1 0), (6, .p 2 0)] [(31, [.slice r_seats_a r.seats.length r_seats_c, vi r.tiers, vi r.room, vi r.size, vi r.period, vi r.window, vi r.rest, vi r.tries, vi r.crew]), (54, partyE a), (54, partyE b)] (by kernel_rfl) rfl (ENDOPS (NEXT (SEQ (REGIONQ (by kernel_rfl) (by kernel_rfl) (QRU 3 0 3 [(11, .v (.agg #[.slice r_seats_a r.seats.length r_seats_c, vi r.tiers, vi r.room, vi r.size, vi r.period, vi r.window, vi r.rest, vi r.tries, vi r.crew])), (12, .v (.agg (partyE a).toArray)), (13, I now)] (by kernel_rfl) rfl (QCALL 70 #[.agg #[.slice r_seats_a r.seats.length r_seats_c, vi r.tiers, vi r.room, vi r.size, vi r.period, vi r.window, vi r.rest, vi r.tries, vi r.crew], .agg #[vi a.id, vi a.cabin, vi a.from', vi a.size, vi a.tier, vi a.since, vi a.turn, vi a.state, vi a.until', vi a.asked], vi now] (some 14) (by kernel_rfl) (vi (levelOf r a now)) (fun w hw => iLevelOf_c w r r_seats_a r_seats_c (hr_seats.fr hw.fr) a now) (NO rfl) (QRU 3 4 7 [(15, .v (.agg #[.slice r_seats_a r.seats.length r_seats_c, vi r.tiers, vi r.room, vi r.size, vi r.period, vi r.window, vi r.rest, vi r.tries, vi r.crew])), (16, .v (.agg (partyE b).toArray)), (17, I now)] (by kernel_rfl) rfl (QCALL 70 #[.agg #[.slice r_seats_a r.seats.length r_seats_c, vi r.tiers, vi r.room, vi r.size, vi r.period, vi r.window, vi r.rest, vi r.tries, vi r.crew], .agg #[vi b.id, vi b.cabin, vi b.from', vi b.size, vi b.tier, vi b.since, vi b.turn, vi b.state, vi b.until', vi b.asked], vi now] (some 18) (by kernel_rfl) (vi (levelOf r b now)) (fun w hw => iLevelOf_c w r r_seats_a r_seats_c (hr_seats.fr hw.fr) b now) (NO rfl) ?_))))))))))
 refine QRU 2 8 10 [(9, I (levelOf r a now)), (10, I (levelOf r b now))] (by kernel_rfl) rfl (QEND rfl (NEXT (SEQ (REGION [0, 1, 2, 3, 4, 5, 6, 7, 8, 9, 10, 11, 12, 13, 14, 15, 16, 17, 18, 19, 20, 21, 22, 23] rfl (RU 3 [3, 4, 5, 6, 7, 8, 9, 10, 11, 12, 13, 14, 15, 16, 17, 18, 19, 20, 21, 22, 23] [(21, B (decide ((levelOf r a now) ≥ 0)))] (by kernel_rfl) rfl (SPLIT (d := 21) (decide ((levelOf r a now) ≥ 0)) (by kernel_rfl) (fun bh1 => ?_) (fun bh1 => ?_)))))))
 ·
  have h1 := bh1
  have h1 := of_decide_eq_true h1
  refine RU 4 [7, 8, 9, 10, 11, 12, 13, 14, 15, 16, 17, 18, 19, 20, 21, 22, 23] [(25, B (decide ((levelOf r b now) ≥ 0)))] (by kernel_rfl) rfl (SPLIT (d := 25) (decide ((levelOf r b now) ≥ 0)) (by kernel_rfl) (fun bh2 => ?_) (fun bh2 => ?_))
  ·
   have h2 := bh2
   have h2 := of_decide_eq_true h2
   refine RU 4 [11, 12, 13, 14, 15, 16, 17, 18, 19, 20, 21, 22, 23] [(29, B (decide ((levelOf r a now) < (levelOf r b now))))] (by kernel_rfl) rfl (SPLIT (d := 29) (decide ((levelOf r a now) < (levelOf r b now))) (by kernel_rfl) (fun bh3 => ?_) (fun bh3 => ?_))
   ·
    have h3 := bh3
    have h3 := of_decide_eq_true h3
    refine RU 13 [] [(8, B true)] (by kernel_rfl) rfl (ENDOPS (NEXT (RET (FIN (.bool true) (by kernel_rfl) () ?_ [] ?_))))
    · (first | (simp [RV, beforeB, *]; done) | (simp_all [RV, beforeB]; done))
    · rfl
   ·
    have h3 := bh3
    have h3 := of_decide_eq_false h3
    refine RU 4 [15, 16, 17, 18, 19, 20, 21, 22, 23] [(33, B ((levelOf r a now) == (levelOf r b now)))] (by kernel_rfl) rfl (SPLIT (d := 33) ((levelOf r a now) == (levelOf r b now)) (by kernel_rfl) (fun bh4 => ?_) (fun bh4 => ?_))
    ·
     have h4 := bh4
     have h4 := eq_of_beq h4
     refine RU 9 [] [(8, B (decide (a.turn < b.turn)))] (by kernel_rfl) rfl (ENDOPS (NEXT (RET (FIN (.bool (decide (a.turn < b.turn))) (by kernel_rfl) () ?_ [] ?_))))
     · (first | (simp [RV, beforeB, *]; done) | (simp_all [RV, beforeB]; done))
     · rfl
    ·
     have h4 := bh4
     have h4 := ne_of_beq_false h4
     refine RU 9 [] [(8, B false)] (by kernel_rfl) rfl (ENDOPS (NEXT (RET (FIN (.bool false) (by kernel_rfl) () ?_ [] ?_))))
     · (first | (simp [RV, beforeB, *]; done) | (simp_all [RV, beforeB]; done))
     · rfl
  ·
   have h2 := bh2
   have h2 := of_decide_eq_false h2
   refine RU 17 [] [(8, B false)] (by kernel_rfl) rfl (ENDOPS (NEXT (RET (FIN (.bool false) (by kernel_rfl) () ?_ [] ?_))))
   · (first | (simp [RV, beforeB, *]; done) | (simp_all [RV, beforeB]; done))
   · rfl
 ·
  have h1 := bh1
  have h1 := of_decide_eq_false h1
  refine RU 21 [] [(8, B false)] (by kernel_rfl) rfl (ENDOPS (NEXT (RET (FIN (.bool false) (by kernel_rfl) () ?_ [] ?_))))
  · (first | (simp [RV, beforeB, *]; done) | (simp_all [RV, beforeB]; done))
  · rfl

theorem iEligible_c (W : World) (ho : House) (ho_rules_seats_a : Option Addr) (ho_rules_seats_c : Nat) (hho_rules_seats : Rd intL W ho_rules_seats_a ho.rules.seats) (ho_parties_a : Option Addr) (ho_parties_c : Nat) (hho_parties : Rd partyL W ho_parties_a ho.parties) (ho_cabins_a : Option Addr) (ho_cabins_c : Nat) (hho_cabins : Rd (cabinLx 114 116 127) W ho_cabins_a ho.cabins) (ho_todo_a : Option Addr) (ho_todo_c : Nat) (hho_todo : Rd intL W ho_todo_a ho.todo) (ho_jobs_a : Option Addr) (ho_jobs_c : Nat) (hho_jobs : Rd intL W ho_jobs_a ho.jobs) (p : Party) (cabin : Int) (hc0 : 0 ≤ cabin) (hc1 : cabin < (ho.cabins.length : Int)) : Spec Tryz.prog W [] 45 #[.agg #[.slice ho_rules_seats_a ho.rules.seats.length ho_rules_seats_c, vi ho.rules.tiers, vi ho.rules.room, vi ho.rules.size, vi ho.rules.period, vi ho.rules.window, vi ho.rules.rest, vi ho.rules.tries, vi ho.rules.crew, vi ho.now, vi ho.turn, .slice ho_parties_a ho.parties.length ho_parties_c, .slice ho_cabins_a ho.cabins.length ho_cabins_c, .slice ho_todo_a ho.todo.length ho_todo_c, .slice ho_jobs_a ho.jobs.length ho_jobs_c], .agg #[vi p.id, vi p.cabin, vi p.from', vi p.size, vi p.tier, vi p.since, vi p.turn, vi p.state, vi p.until', vi p.asked], vi cabin] (RV (.bool (fitsB ho cabin p))) := by
 refine ENTER0 (N := 35) (vs := [.agg #[.slice ho_rules_seats_a ho.rules.seats.length ho_rules_seats_c, vi ho.rules.tiers, vi ho.rules.room, vi ho.rules.size, vi ho.rules.period, vi ho.rules.window, vi ho.rules.rest, vi ho.rules.tries, vi ho.rules.crew, vi ho.now, vi ho.turn, .slice ho_parties_a ho.parties.length ho_parties_c, .slice ho_cabins_a ho.cabins.length ho_cabins_c, .slice ho_todo_a ho.todo.length ho_todo_c, .slice ho_jobs_a ho.jobs.length ho_jobs_c], .agg #[vi p.id, vi p.cabin, vi p.from', vi p.size, vi p.tier, vi p.since, vi p.turn, vi p.state, vi p.until', vi p.asked], vi cabin]) Tryz.func45 rfl rfl (NL rfl) ?_
 have hho_rules_seats_len := hho_rules_seats.len
 have hho_parties_len := hho_parties.len
 have hho_cabins_len := hho_cabins.len
 have hho_todo_len := hho_todo.len
 have hho_jobs_len := hho_jobs.len
 refine SEQ (REGION [0, 1, 2] rfl (RUL 3 [] [(3, .p 0 0), (4, .p 1 0)] [(35, [.slice ho_rules_seats_a ho.rules.seats.length ho_rules_seats_c, vi ho.rules.tiers, vi ho.rules.room, vi ho.rules.size, vi ho.rules.period, vi ho.rules.window, vi ho.rules.rest, vi ho.rules.tries, vi ho.rules.crew, vi ho.now, vi ho.turn, .slice ho_parties_a ho.parties.length ho_parties_c, .slice ho_cabins_a ho.cabins.length ho_cabins_c, .slice ho_todo_a ho.todo.length ho_todo_c, .slice ho_jobs_a ho.jobs.length ho_jobs_c]), (54, partyE p)] (by kernel_rfl) rfl (ENDOPS (NEXT (SEQ (REGIONQ (by kernel_rfl) (by kernel_rfl) (QRU 5 0 5 [(11, B (p.cabin == cabin))] (by kernel_rfl) rfl (QSPLIT (d := 11) (p.cabin == cabin) (by kernel_rfl) (fun bh1 => ?_) (fun bh1 => ?_)))))))))
 ·
  have h1 := bh1
  have h1 := eq_of_beq h1
  refine QRU 5 5 10 [(16, B (p.state == 1))] (by kernel_rfl) rfl (QSPLIT (d := 16) (p.state == 1) (by kernel_rfl) (fun bh2 => ?_) (fun bh2 => ?_))
  ·
   have h2 := bh2
   have h2 := eq_of_beq h2
   refine QRU 3 10 13 [(17, .v (.agg (partyE p).toArray)), (19, I ho.now)] (by kernel_rfl) rfl (QCALL 51 #[.agg #[vi p.id, vi p.cabin, vi p.from', vi p.size, vi p.tier, vi p.since, vi p.turn, vi p.state, vi p.until', vi p.asked], vi ho.now] (some 20) (by kernel_rfl) (.bool (restingB p ho.now)) (fun w hw => iResting_c w p ho.now) (NO rfl) (QRU 3 14 17 [(23, B (!(restingB p ho.now)))] (by kernel_rfl) rfl (QSPLIT (d := 23) (!(restingB p ho.now)) (by kernel_rfl) (fun bh3 => ?_) (fun bh3 => ?_))))
   ·
    have h3 := bh3
    have h3 := notT h3
    refine QRU 5 17 22 [(25, I p.size), (27, .v (.slice ho_cabins_a ho.cabins.length ho_cabins_c)), (28, I cabin)] (by kernel_rfl) rfl ?_
    obtain ⟨x4, hx5⟩ : ∃ y, ho.cabins[cabin.toNat]? = some y := ⟨_, List.getElem?_eq_getElem (by omega)⟩
    obtain ⟨a6, c7, a9, c10, hel12, hi8, hi11, hi8_cap, hi11_cap⟩ := cabin_view hho_cabins hx5
    have hi8_len := hi8.len
    have hi11_len := hi11.len
    refine QINDEX 33 (.tmp 27) (.tmp 28) 29 0 (by kernel_rfl) (NL rfl) ho_cabins_a ho.cabins.length ho_cabins_c .i64 cabin 74 7 (by kernel_rfl) (by kernel_rfl) (by kernel_rfl) (by kernel_rfl) (Rd.some hho_cabins (by omega)) (by omega) (by omega) (QRU 2 23 25 [(31, .e ho_cabins_a (cabin.toNat * 7) 1)] (by kernel_rfl) rfl (QLOADE 3 (.tmp 31) 32 3 (by kernel_rfl) (NL rfl) ho_cabins_a (cabin.toNat * 7) 1 ([vi x4.seats.total, vi x4.seats.free, vi x4.seats.held, vi x4.seats.sold, vi x4.seats.tied, .slice a6 x4.row.length c7, .slice a9 x4.wheel.spoke.length c10]) (vi x4.seats.free) (by kernel_rfl) (fun w hw => hel12.fr hw.fr) (by kernel_rfl) (QRU 3 26 29 [(6, B (decide (p.size ≤ x4.seats.free)))] (by kernel_rfl) rfl (QEND rfl (NEXT (RET (FIN (.bool (decide (p.size ≤ x4.seats.free))) (by kernel_rfl) () ?_ [] ?_)))))))
    · (have hfr := freeAt_of hx5; first | (simp [RV, fitsB, *]; done) | (simp_all [RV, fitsB]; done))
    · rfl
   ·
    have h3 := bh3
    have h3 := notF h3
    refine QRU 12 17 29 [(6, B false)] (by kernel_rfl) rfl (QEND rfl (NEXT (RET (FIN (.bool false) (by kernel_rfl) () ?_ [] ?_))))
    · (first | (simp [RV, fitsB, *]; done) | (simp_all [RV, fitsB]; done))
    · rfl
  ·
   have h2 := bh2
   have h2 := ne_of_beq_false h2
   refine QRU 19 10 29 [(6, B false)] (by kernel_rfl) rfl (QEND rfl (NEXT (RET (FIN (.bool false) (by kernel_rfl) () ?_ [] ?_))))
   · (first | (simp [RV, fitsB, *]; done) | (simp_all [RV, fitsB]; done))
   · rfl
 ·
  have h1 := bh1
  have h1 := ne_of_beq_false h1
  refine QRU 24 5 29 [(6, B false)] (by kernel_rfl) rfl (QEND rfl (NEXT (RET (FIN (.bool false) (by kernel_rfl) () ?_ [] ?_))))
  · (first | (simp [RV, fitsB, *]; done) | (simp_all [RV, fitsB]; done))
  · rfl

theorem ipartyAt1_c (W : World) (p : Party) (pid_b : Nat) (pid : Int) (hpid : ElemAt W (some ⟨pid_b, 0, none⟩) 0 [vi pid]) : Spec Tryz.prog W [] 101 #[.agg #[vi p.id, vi p.cabin, vi p.from', vi p.size, vi p.tier, vi p.since, vi p.turn, vi p.state, vi p.until', vi p.asked], .pointer (some ⟨pid_b, 0, none⟩)] (RV (.bool ((p).id == pid))) := by
 refine ENTER0 (N := 8) (vs := [.agg #[vi p.id, vi p.cabin, vi p.from', vi p.size, vi p.tier, vi p.since, vi p.turn, vi p.state, vi p.until', vi p.asked], .pointer (some ⟨pid_b, 0, none⟩)]) Tryz.func101 rfl rfl (NL rfl) ?_
 refine ASE (d := 1) rfl (SEQ (REGION [0, 1] rfl (RUL 2 [] [(2, .p 0 0)] [(54, partyE p)] (by kernel_rfl) rfl (ENDOPS (NEXT (SEQ (REGION [0, 1, 2, 3, 4] rfl (RU 2 [2, 3, 4] [(5, I p.id)] (by kernel_rfl) rfl (OPC (LOADE 3 (.tmp 1) 6 3 (by kernel_rfl) (NL rfl) (some ⟨pid_b, 0, none⟩) 0 0 ([vi pid]) (vi pid) (by kernel_rfl) (fun w hw => (hpid.fr hw.fr)) (by kernel_rfl) (RU 2 [] [(3, B (p.id == pid))] (by kernel_rfl) rfl (ENDOPS (NEXT (RET (FIN (.bool (p.id == pid)) (by kernel_rfl) () ?_ [] ?_)))))))))))))))
 · simp [RV]
 · rfl

theorem ixPartyAt_c (W : World) (list : List Party) (list_a : Option Addr) (list_c : Nat) (hlist : Rd partyL W list_a list) (pid_b : Nat) (pid : Int) (hpid : ElemAt W (some ⟨pid_b, 0, none⟩) 0 [vi pid]) : Spec Tryz.prog W [] 62 #[.slice list_a list.length list_c, .func (.func 101) #[] #[.pointer (some ⟨pid_b, 0, none⟩)]] (RV (vi (idxF (fun e : Party => e.id == pid) list 0))) := by
 refine ENTER0 (N := 19) (vs := [.slice list_a list.length list_c, .func (.func 101) #[] #[.pointer (some ⟨pid_b, 0, none⟩)]]) Tryz.func62 rfl rfl (NL rfl) ?_
 have hlist_len := hlist.len
 refine SEQ (REGION [0] rfl (RU 1 [] [] (by kernel_rfl) rfl (ENDOPS (NEXT (SEQ (SEQ (REGION [0, 1, 2] rfl (RU 3 [] [(7, I (list.length : Int)), (8, I 0)] (by kernel_rfl) rfl (ENDOPS (NEXT (BLOCK (LOOP (ι := Nat × (List Party)) (fun j => [(0, .v (.slice list_a list.length list_c)), (1, .v (.func (.func 101) #[] #[.pointer (some ⟨pid_b, 0, none⟩)])), (7, I (list.length : Int)), (8, I (j.1 : Int))]) (fun j => []) (fun j => []) (fun j => j.1 + j.2.length = list.length ∧ list.drop j.1 = j.2 ∧ idxF (fun e : Party => e.id == pid) list 0 = idxF (fun e : Party => e.id == pid) j.2 j.1) (fun j => j.2.length) (0, list) [0, 1, 7, 8] ⟨by simp, rfl, rfl⟩ (by kernel_rfl) rfl rfl ?_))))))))))))
 rintro ⟨k, ys⟩ ⟨hk, hd, hv0⟩
 try dsimp only at hk hd hv0
 refine SEQ (REGION [0] rfl (RU 1 [] [(9, B (decide ((k : Int) < (list.length : Int))))] (by kernel_rfl) rfl (ENDOPS (NEXT (SEQ (IF (decide ((k : Int) < (list.length : Int))) (by kernel_rfl) (fun bh1 => ?_) (fun bh1 => ?_)))))))
 ·
  have h1 := bh1
  have h1 := of_decide_eq_true h1
  obtain ⟨y2, ys3, rfl, hx_y2, hd_y2, hl_y2⟩ := drop_cons hd hk (by omega)
  refine SKIP (NEXT (SEQ (BLOCK (SEQ (REGION [0, 1] rfl (RU 2 [] [(5, I (k : Int))] (by kernel_rfl) rfl (ENDOPS (NEXT (SEQ (REGION [0, 1, 2, 3, 4, 5] rfl (RU 3 [3, 4, 5] [(11, .v (.func (.func 101) #[] #[.pointer (some ⟨pid_b, 0, none⟩)])), (12, .v (.slice list_a list.length list_c)), (13, I (k : Int))] (by kernel_rfl) rfl (OPC (INDEX 32 (.tmp 12) (.tmp 13) 14 0 (by kernel_rfl) (NL rfl) list_a list.length list_c .i64 (k : Int) 54 10 (by kernel_rfl) (by kernel_rfl) (by kernel_rfl) (by kernel_rfl) (Rd.some hlist (by omega)) (by omega) (by omega) (OPC (LOADE 54 (.tmp 14) 15 54 (by kernel_rfl) (NL rfl) list_a (k * 10) 0 (partyE y2) (.agg (partyE y2).toArray) (by kernel_rfl) (fun w hw => (hlist.fr hw.fr).flat hx_y2) (by kernel_rfl) (OPC (CALL 101 #[.agg #[vi y2.id, vi y2.cabin, vi y2.from', vi y2.size, vi y2.tier, vi y2.since, vi y2.turn, vi y2.state, vi y2.until', vi y2.asked], .pointer (some ⟨pid_b, 0, none⟩)] (some 16) (by kernel_rfl) [] [] _ rfl (RV (.bool ((y2).id == pid))) (fun w hw => ipartyAt1_c w y2 pid_b pid (hpid.fr hw.fr)) (NO rfl) ?_)))))))))))))))))
  rintro ⟨⟩
  refine ENDOPS (NEXT (IF ((y2).id == pid) (by kernel_rfl) (fun bh4 => ?_) (fun bh4 => ?_)))
  ·
   have h4 := bh4
   have h4 := eq_of_beq h4
   refine SEQ (REGION [0, 1] rfl (RU 2 [] [(4, I (k : Int))] (by kernel_rfl) rfl (ENDOPS (NEXT (RET (OUTR (PASS trivial (PASS trivial (OUTR (PASS trivial (FIN (vi (k : Int)) (by kernel_rfl) () ?_ [] ?_)))))))))))
   · simp_all [RV, idxF]
   · rfl
  ·
   have h4 := bh4
   have h4 := ne_of_beq_false h4
   refine SKIP (OUTN (NEXT (REGION [0, 1] rfl (RU 1 [1] [(18, I (wr ((k : Int) + 1)))] (by kernel_rfl) rfl (CAST (d := 18) (vi (wr ((k : Int) + 1))) (vi ((k + 1 : Nat) : Int)) (by kernel_rfl) (vi_cast (by omega) (by omega)) (RU 1 [] [(8, I ((k + 1 : Nat) : Int))] (by kernel_rfl) rfl (ENDOPS (BACK (k + 1, ys3) [0, 1, 7, 8] 0 [] _ ⟨hl_y2, hd_y2, (hv0.trans (by simp_all [idxF]))⟩ (by simp) (by kernel_rfl) rfl rfl rfl))))))))
 ·
  have h1 := bh1
  have h1 := of_decide_eq_false h1
  obtain rfl := drop_nil hk (by omega)
  refine EXIT (PASS trivial (PASS trivial (OUT (NEXT (SEQ (REGION [0] rfl (RU 1 [] [(4, I (-1))] (by kernel_rfl) rfl (ENDOPS (NEXT (RET (FIN (vi (-1)) (by kernel_rfl) () ?_ [] ?_)))))))))))
  · simp_all [RV, idxF]
  · rfl

theorem ipartyAt_c (W : World) (list : List Party) (list_a : Option Addr) (list_c : Nat) (hlist : Rd partyL W list_a list) (id : Int) : Spec Tryz.prog W [] 69 #[.slice list_a list.length list_c, vi id] (RV (vi (atId list id))) := by
 refine ENTER0 (N := 8) (vs := [.slice list_a list.length list_c, vi id]) Tryz.func69 rfl rfl (NL rfl) ?_
 have hlist_len := hlist.len
 refine SEQ (REGION [0, 1] rfl (RUL 2 [] [(3, .p 0 0)] [(3, [vi id])] (by kernel_rfl) rfl (ENDOPS (NEXT (SEQ (REGION [0, 1, 2, 3] rfl (RU 1 [1, 2, 3] [(5, .v (.slice list_a list.length list_c))] (by kernel_rfl) rfl (EXPORT (fun bs hbs => ?_)))))))))
 obtain ⟨b1, rfl⟩ := len1 hbs
 refine ASV (d := 3) rfl (RU 1 [2, 3] [(6, .v (.func (.func 101) #[] #[.pointer (some ⟨b1, 0, none⟩)]))] (by kernel_rfl) rfl (OPC (CALL 62 #[.slice list_a list.length list_c, .func (.func 101) #[] #[.pointer (some ⟨b1, 0, none⟩)]] (some 7) (by kernel_rfl) [] [] _ rfl (RV (vi (idxF (fun e : Party => e.id == id) list 0))) (fun w hw => ixPartyAt_c w list list_a list_c (hlist.fr hw.fr) b1 id (ptC_elem (hw.own 0 rfl))) (NO rfl) ?_)))
 rintro ⟨⟩
 refine RU 1 [] [(4, I (idxF (fun e : Party => e.id == id) list 0))] (by kernel_rfl) rfl (ENDOPS (IMPORT (L0 := [(3, [vi id])]) (L1 := []) [b1] rfl [0] _ rfl [(4, I (idxF (fun e : Party => e.id == id) list 0))] (by kernel_rfl) (by kernel_rfl) (NEXT (RET (FIN (vi (idxF (fun e : Party => e.id == id) list 0)) (by kernel_rfl) () ?_ [] ?_)))))
 · rfl
 · rfl

theorem iPartyAt_c (W : World) (ho : House) (ho_rules_seats_a : Option Addr) (ho_rules_seats_c : Nat) (hho_rules_seats : Rd intL W ho_rules_seats_a ho.rules.seats) (ho_parties_a : Option Addr) (ho_parties_c : Nat) (hho_parties : Rd partyL W ho_parties_a ho.parties) (ho_cabins_a : Option Addr) (ho_cabins_c : Nat) (hho_cabins : Rd (cabinLx 114 116 127) W ho_cabins_a ho.cabins) (ho_todo_a : Option Addr) (ho_todo_c : Nat) (hho_todo : Rd intL W ho_todo_a ho.todo) (ho_jobs_a : Option Addr) (ho_jobs_c : Nat) (hho_jobs : Rd intL W ho_jobs_a ho.jobs) (id : Int) : Spec Tryz.prog W [] 44 #[.agg #[.slice ho_rules_seats_a ho.rules.seats.length ho_rules_seats_c, vi ho.rules.tiers, vi ho.rules.room, vi ho.rules.size, vi ho.rules.period, vi ho.rules.window, vi ho.rules.rest, vi ho.rules.tries, vi ho.rules.crew, vi ho.now, vi ho.turn, .slice ho_parties_a ho.parties.length ho_parties_c, .slice ho_cabins_a ho.cabins.length ho_cabins_c, .slice ho_todo_a ho.todo.length ho_todo_c, .slice ho_jobs_a ho.jobs.length ho_jobs_c], vi id] (RV (vi (atId ho.parties id))) := by
 refine ENTER0 (N := 9) (vs := [.agg #[.slice ho_rules_seats_a ho.rules.seats.length ho_rules_seats_c, vi ho.rules.tiers, vi ho.rules.room, vi ho.rules.size, vi ho.rules.period, vi ho.rules.window, vi ho.rules.rest, vi ho.rules.tries, vi ho.rules.crew, vi ho.now, vi ho.turn, .slice ho_parties_a ho.parties.length ho_parties_c, .slice ho_cabins_a ho.cabins.length ho_cabins_c, .slice ho_todo_a ho.todo.length ho_todo_c, .slice ho_jobs_a ho.jobs.length ho_jobs_c], vi id]) Tryz.func44 rfl rfl (NL rfl) ?_
 have hho_rules_seats_len := hho_rules_seats.len
 have hho_parties_len := hho_parties.len
 have hho_cabins_len := hho_cabins.len
 have hho_todo_len := hho_todo.len
 have hho_jobs_len := hho_jobs.len
 refine SEQ (REGION [0, 1] rfl (RUL 2 [] [(2, .p 0 0)] [(35, [.slice ho_rules_seats_a ho.rules.seats.length ho_rules_seats_c, vi ho.rules.tiers, vi ho.rules.room, vi ho.rules.size, vi ho.rules.period, vi ho.rules.window, vi ho.rules.rest, vi ho.rules.tries, vi ho.rules.crew, vi ho.now, vi ho.turn, .slice ho_parties_a ho.parties.length ho_parties_c, .slice ho_cabins_a ho.cabins.length ho_cabins_c, .slice ho_todo_a ho.todo.length ho_todo_c, .slice ho_jobs_a ho.jobs.length ho_jobs_c])] (by kernel_rfl) rfl (ENDOPS (NEXT (SEQ (REGION [0, 1, 2, 3, 4] rfl (RU 3 [3, 4] [(6, .v (.slice ho_parties_a ho.parties.length ho_parties_c)), (7, I id)] (by kernel_rfl) rfl (OPC (CALL 69 #[.slice ho_parties_a ho.parties.length ho_parties_c, vi id] (some 8) (by kernel_rfl) [] [] _ rfl (RV (vi (atId ho.parties id))) (fun w hw => ipartyAt_c w ho.parties ho_parties_a ho_parties_c (hho_parties.fr hw.fr) id) (NO rfl) ?_)))))))))
 rintro ⟨⟩
 refine RU 1 [] [(4, I (atId ho.parties id))] (by kernel_rfl) rfl (ENDOPS (NEXT (RET (FIN (vi (atId ho.parties id)) (by kernel_rfl) () ?_ [] ?_))))
 · rfl
 · rfl

theorem iPassed_c (W : World) (ho : House) (ho_rules_seats_a : Option Addr) (ho_rules_seats_c : Nat) (hho_rules_seats : Rd intL W ho_rules_seats_a ho.rules.seats) (ho_parties_a : Option Addr) (ho_parties_c : Nat) (hho_parties : Rd partyL W ho_parties_a ho.parties) (ho_cabins_a : Option Addr) (ho_cabins_c : Nat) (hho_cabins : Rd (cabinLx 114 116 127) W ho_cabins_a ho.cabins) (ho_todo_a : Option Addr) (ho_todo_c : Nat) (hho_todo : Rd intL W ho_todo_a ho.todo) (ho_jobs_a : Option Addr) (ho_jobs_c : Nat) (hho_jobs : Rd intL W ho_jobs_a ho.jobs) (cabin : Int) (id : Int) (hsz : HouseSz ho) (hcp : ho.parties.length ≤ ho_parties_c) (hct : ho.todo.length ≤ ho_todo_c) : Spec Tryz.prog W [] 17 #[.agg #[.slice ho_rules_seats_a ho.rules.seats.length ho_rules_seats_c, vi ho.rules.tiers, vi ho.rules.room, vi ho.rules.size, vi ho.rules.period, vi ho.rules.window, vi ho.rules.rest, vi ho.rules.tries, vi ho.rules.crew, vi ho.now, vi ho.turn, .slice ho_parties_a ho.parties.length ho_parties_c, .slice ho_cabins_a ho.cabins.length ho_cabins_c, .slice ho_todo_a ho.todo.length ho_todo_c, .slice ho_jobs_a ho.jobs.length ho_jobs_c], vi cabin, vi id] (⟨HH, fun p => .slice p.1 ((passed ho cabin id).length) p.2, fun p => [slA 3 intL (.slice p.1 (passed ho cabin id).length p.2) (passed ho cabin id)]⟩) := by
 refine ENTER0 (N := 63) (vs := [.agg #[.slice ho_rules_seats_a ho.rules.seats.length ho_rules_seats_c, vi ho.rules.tiers, vi ho.rules.room, vi ho.rules.size, vi ho.rules.period, vi ho.rules.window, vi ho.rules.rest, vi ho.rules.tries, vi ho.rules.crew, vi ho.now, vi ho.turn, .slice ho_parties_a ho.parties.length ho_parties_c, .slice ho_cabins_a ho.cabins.length ho_cabins_c, .slice ho_todo_a ho.todo.length ho_todo_c, .slice ho_jobs_a ho.jobs.length ho_jobs_c], vi cabin, vi id]) Tryz.func17 rfl rfl (NL rfl) ?_
 have hs9 := hsz.1; have hs8 := hsz.2.1; have hs7 := hsz.2.2.1; have hs6 := hsz.2.2.2.1; have hs5 := hsz.2.2.2.2.1; have hs4 := hsz.2.2.2.2.2
 have hho_rules_seats_len := hho_rules_seats.len
 have hho_parties_len := hho_parties.len
 have hho_cabins_len := hho_cabins.len
 have hho_todo_len := hho_todo.len
 have hho_jobs_len := hho_jobs.len
 refine SEQ (REGION [0, 1] rfl (RUL 2 [] [(3, .p 0 0)] [(35, [.slice ho_rules_seats_a ho.rules.seats.length ho_rules_seats_c, vi ho.rules.tiers, vi ho.rules.room, vi ho.rules.size, vi ho.rules.period, vi ho.rules.window, vi ho.rules.rest, vi ho.rules.tries, vi ho.rules.crew, vi ho.now, vi ho.turn, .slice ho_parties_a ho.parties.length ho_parties_c, .slice ho_cabins_a ho.cabins.length ho_cabins_c, .slice ho_todo_a ho.todo.length ho_todo_c, .slice ho_jobs_a ho.jobs.length ho_jobs_c])] (by kernel_rfl) rfl (ENDOPS (NEXT (SEQ (REGION [0, 1, 2, 3] rfl (RU 2 [2, 3] [(11, .v (.agg #[.slice ho_rules_seats_a ho.rules.seats.length ho_rules_seats_c, vi ho.rules.tiers, vi ho.rules.room, vi ho.rules.size, vi ho.rules.period, vi ho.rules.window, vi ho.rules.rest, vi ho.rules.tries, vi ho.rules.crew, vi ho.now, vi ho.turn, .slice ho_parties_a ho.parties.length ho_parties_c, .slice ho_cabins_a ho.cabins.length ho_cabins_c, .slice ho_todo_a ho.todo.length ho_todo_c, .slice ho_jobs_a ho.jobs.length ho_jobs_c])), (12, I id)] (by kernel_rfl) rfl (OPC (CALL 44 #[.agg #[.slice ho_rules_seats_a ho.rules.seats.length ho_rules_seats_c, vi ho.rules.tiers, vi ho.rules.room, vi ho.rules.size, vi ho.rules.period, vi ho.rules.window, vi ho.rules.rest, vi ho.rules.tries, vi ho.rules.crew, vi ho.now, vi ho.turn, .slice ho_parties_a ho.parties.length ho_parties_c, .slice ho_cabins_a ho.cabins.length ho_cabins_c, .slice ho_todo_a ho.todo.length ho_todo_c, .slice ho_jobs_a ho.jobs.length ho_jobs_c], vi id] (some 13) (by kernel_rfl) [] [] _ rfl (RV (vi (atId ho.parties id))) (fun w hw => iPartyAt_c w ho ho_rules_seats_a ho_rules_seats_c (hho_rules_seats.fr hw.fr) ho_parties_a ho_parties_c (hho_parties.fr hw.fr) ho_cabins_a ho_cabins_c (hho_cabins.fr hw.fr) ho_todo_a ho_todo_c (hho_todo.fr hw.fr) ho_jobs_a ho_jobs_c (hho_jobs.fr hw.fr) id) (NO rfl) ?_)))))))))
 rintro ⟨⟩
 have hr1 := atId_lt ho.parties id
 refine RU 1 [] [(7, I (atId ho.parties id))] (by kernel_rfl) rfl (ENDOPS (NEXT (SEQ (SEQ (REGION [0, 1, 2, 3, 4, 5, 6, 7, 8, 9, 10, 11, 12, 13, 14, 15, 16, 17] rfl (RU 2 [2, 3, 4, 5, 6, 7, 8, 9, 10, 11, 12, 13, 14, 15, 16, 17] [(14, .v (.agg #[.slice ho_rules_seats_a ho.rules.seats.length ho_rules_seats_c, vi ho.rules.tiers, vi ho.rules.room, vi ho.rules.size, vi ho.rules.period, vi ho.rules.window, vi ho.rules.rest, vi ho.rules.tries, vi ho.rules.crew, vi ho.now, vi ho.turn, .slice ho_parties_a ho.parties.length ho_parties_c, .slice ho_cabins_a ho.cabins.length ho_cabins_c, .slice ho_todo_a ho.todo.length ho_todo_c, .slice ho_jobs_a ho.jobs.length ho_jobs_c])), (15, I cabin)] (by kernel_rfl) rfl (OPC (CALL 32 #[.agg #[.slice ho_rules_seats_a ho.rules.seats.length ho_rules_seats_c, vi ho.rules.tiers, vi ho.rules.room, vi ho.rules.size, vi ho.rules.period, vi ho.rules.window, vi ho.rules.rest, vi ho.rules.tries, vi ho.rules.crew, vi ho.now, vi ho.turn, .slice ho_parties_a ho.parties.length ho_parties_c, .slice ho_cabins_a ho.cabins.length ho_cabins_c, .slice ho_todo_a ho.todo.length ho_todo_c, .slice ho_jobs_a ho.jobs.length ho_jobs_c], vi cabin] (some 16) (by kernel_rfl) [] [] _ rfl (RV (.bool (hasCab ho cabin))) (fun w hw => iHasCabin_c w ho ho_rules_seats_a ho_rules_seats_c (hho_rules_seats.fr hw.fr) ho_parties_a ho_parties_c (hho_parties.fr hw.fr) ho_cabins_a ho_cabins_c (hho_cabins.fr hw.fr) ho_todo_a ho_todo_c (hho_todo.fr hw.fr) ho_jobs_a ho_jobs_c (hho_jobs.fr hw.fr) cabin (by assumption) (by first | assumption | omega | (dsimp only; omega) | (simp only [List.length_append, List.length_cons, List.length_nil] at *; omega)) (by first | assumption | omega | (dsimp only; omega) | (simp only [List.length_append, List.length_cons, List.length_nil] at *; omega))) (NO rfl) ?_))))))))
 rintro ⟨⟩
 refine RU 2 [5, 6, 7, 8, 9, 10, 11, 12, 13, 14, 15, 16, 17] [(18, B (!(hasCab ho cabin)))] (by kernel_rfl) rfl (SPLIT (d := 18) (!(hasCab ho cabin)) (by kernel_rfl) (fun bh2 => ?_) (fun bh2 => ?_))
 ·
  have h2 := bh2
  have h2 := notT h2
  refine RU 13 [] [(31, B true)] (by kernel_rfl) rfl (ENDOPS (NEXT (IFT (by kernel_rfl) (SEQ (REGION [0] rfl (RU 1 [] [(6, .v (.slice none 0 0))] (by kernel_rfl) rfl (ENDOPS (NEXT (RET (PASS trivial (NIL 3 intL ?_)))))))))))
  have efin : passed ho cabin id = [] := by (first | exact passed_no (by assumption) | exact passed_neg (by assumption))
  refine FIN (.slice none 0 0) (by kernel_rfl) (none, 0) ?_ [0] ?_
  · (rw [efin] <;> rfl)
  · (rw [efin] <;> rfl)
 ·
  have h2 := bh2
  have h2 := notF h2
  have hcb := hasCab_in h2
  refine RU 4 [9, 10, 11, 12, 13, 14, 15, 16, 17] [(22, B (decide ((atId ho.parties id) < 0)))] (by kernel_rfl) rfl (SPLIT (d := 22) (decide ((atId ho.parties id) < 0)) (by kernel_rfl) (fun bh3 => ?_) (fun bh3 => ?_))
  ·
   have h3 := bh3
   have h3 := of_decide_eq_true h3
   refine RU 9 [] [(31, B true)] (by kernel_rfl) rfl (ENDOPS (NEXT (IFT (by kernel_rfl) (SEQ (REGION [0] rfl (RU 1 [] [(6, .v (.slice none 0 0))] (by kernel_rfl) rfl (ENDOPS (NEXT (RET (PASS trivial (NIL 3 intL ?_)))))))))))
   have efin : passed ho cabin id = [] := by (first | exact passed_no (by assumption) | exact passed_neg (by assumption))
   refine FIN (.slice none 0 0) (by kernel_rfl) (none, 0) ?_ [0] ?_
   · (rw [efin] <;> rfl)
   · (rw [efin] <;> rfl)
  ·
   have h3 := bh3
   have h3 := of_decide_eq_false h3
   refine RU 3 [12, 13, 14, 15, 16, 17] [(24, .v (.slice ho_parties_a ho.parties.length ho_parties_c)), (25, I (atId ho.parties id))] (by kernel_rfl) rfl ?_
   obtain ⟨x4, hx5⟩ : ∃ y, ho.parties[(atId ho.parties id).toNat]? = some y := ⟨_, List.getElem?_eq_getElem (by omega)⟩
   refine OPC (INDEX 32 (.tmp 24) (.tmp 25) 26 0 (by kernel_rfl) (NL rfl) ho_parties_a ho.parties.length ho_parties_c .i64 (atId ho.parties id) 54 10 (by kernel_rfl) (by kernel_rfl) (by kernel_rfl) (by kernel_rfl) (Rd.some hho_parties (by omega)) (by omega) (by omega) (RU 1 [14, 15, 16, 17] [(27, .e ho_parties_a ((atId ho.parties id).toNat * 10) 1)] (by kernel_rfl) rfl (OPC (LOADE 3 (.tmp 27) 28 3 (by kernel_rfl) (NL rfl) ho_parties_a ((atId ho.parties id).toNat * 10) 1 (partyE x4) (vi x4.cabin) (by kernel_rfl) (fun w hw => (hho_parties.fr hw.fr).flat hx5) (by kernel_rfl) (RU 3 [] [(31, B (x4.cabin != cabin))] (by kernel_rfl) rfl (ENDOPS (NEXT (IF (x4.cabin != cabin) (by kernel_rfl) (fun bh6 => ?_) (fun bh6 => ?_)))))))))
   ·
    have h6 := bh6
    have h6 := bne_iff_ne.1 h6
    refine SEQ (REGION [0] rfl (RU 1 [] [(6, .v (.slice none 0 0))] (by kernel_rfl) rfl (ENDOPS (NEXT (RET (PASS trivial (NIL 3 intL ?_)))))))
    have efin : passed ho cabin id = [] := by (first | exact passed_no (by assumption) | exact passed_neg (by assumption) | exact passed_ne hx5 (by assumption) | (rw [passed_of (by assumption) (by assumption) hx5 (by assumption), ← hv1]; simp [passGo]))
    refine FIN (.slice none 0 0) (by kernel_rfl) (none, 0) ?_ [0] ?_
    · (rw [efin] <;> rfl)
    · (rw [efin] <;> rfl)
   ·
    have h6 := bh6
    have h6 := bneF h6
    refine SKIP (NEXT (SEQ (REGION [0] rfl (RU 1 [] [(8, .v (.slice none 0 0))] (by kernel_rfl) rfl (ENDOPS (NEXT (SEQ (SEQ (REGION [0, 1, 2, 3] rfl (RU 4 [] [(33, .v (.slice ho_parties_a ho.parties.length ho_parties_c)), (34, I (ho.parties.length : Int)), (35, I 0)] (by kernel_rfl) rfl (ENDOPS (NEXT (BLOCK (NIL 3 intL (LOOP (ι := Nat × (List Party) × (Option Addr) × Nat × (List Int)) (fun j => [(1, I cabin), (3, .p 0 0), (7, I (atId ho.parties id)), (8, .v (.slice j.2.2.1 j.2.2.2.2.length j.2.2.2.1)), (33, .v (.slice ho_parties_a ho.parties.length ho_parties_c)), (34, I (ho.parties.length : Int)), (35, I (j.1 : Int))]) (fun j => [(35, [.slice ho_rules_seats_a ho.rules.seats.length ho_rules_seats_c, vi ho.rules.tiers, vi ho.rules.room, vi ho.rules.size, vi ho.rules.period, vi ho.rules.window, vi ho.rules.rest, vi ho.rules.tries, vi ho.rules.crew, vi ho.now, vi ho.turn, .slice ho_parties_a ho.parties.length ho_parties_c, .slice ho_cabins_a ho.cabins.length ho_cabins_c, .slice ho_todo_a ho.todo.length ho_todo_c, .slice ho_jobs_a ho.jobs.length ho_jobs_c])]) (fun j => [slA 3 intL (.slice j.2.2.1 j.2.2.2.2.length j.2.2.2.1) j.2.2.2.2]) (fun j => j.1 + j.2.1.length = ho.parties.length ∧ ho.parties.drop j.1 = j.2.1 ∧ j.2.2.2.2.length ≤ j.1 ∧ j.2.2.2.2 ++ passGo ho cabin x4 j.2.1 = passGo ho cabin x4 ho.parties) (fun j => j.2.1.length) (0, ho.parties, none, 0, []) [1, 3, 7, 8, 33, 34, 35] ⟨by simp, rfl, by simp, rfl⟩ (by kernel_rfl) rfl rfl ?_)))))))))))))))
    rintro ⟨k, ys, oa, oc, out⟩ ⟨hk, hd, hv0, hv1⟩
    try dsimp only at hk hd hv0 hv1
    refine SEQ (REGION [0] rfl (RU 1 [] [(36, B (decide ((k : Int) < (ho.parties.length : Int))))] (by kernel_rfl) rfl (ENDOPS (NEXT (SEQ (IF (decide ((k : Int) < (ho.parties.length : Int))) (by kernel_rfl) (fun bh7 => ?_) (fun bh7 => ?_)))))))
    ·
     have h7 := bh7
     have h7 := of_decide_eq_true h7
     obtain ⟨y8, ys9, rfl, hx_y8, hd_y8, hl_y8⟩ := drop_cons hd hk (by omega)
     refine SKIP (NEXT (SEQ (BLOCK (SEQ (REGION [0, 1, 2, 3] rfl (OPC (INDEX 32 (.tmp 33) (.tmp 35) 37 0 (by kernel_rfl) (NL rfl) ho_parties_a ho.parties.length ho_parties_c .i64 (k : Int) 54 10 (by kernel_rfl) (by kernel_rfl) (by kernel_rfl) (by kernel_rfl) (Rd.some hho_parties (by omega)) (by omega) (by omega) (OPC (LOADE 54 (.tmp 37) 38 54 (by kernel_rfl) (NL rfl) ho_parties_a (k * 10) 0 (partyE y8) (.agg (partyE y8).toArray) (by kernel_rfl) (fun w hw => (hho_parties.fr hw.fr).flat hx_y8) (by kernel_rfl) (RUL 2 [] [(10, .p 1 0)] [(35, [.slice ho_rules_seats_a ho.rules.seats.length ho_rules_seats_c, vi ho.rules.tiers, vi ho.rules.room, vi ho.rules.size, vi ho.rules.period, vi ho.rules.window, vi ho.rules.rest, vi ho.rules.tries, vi ho.rules.crew, vi ho.now, vi ho.turn, .slice ho_parties_a ho.parties.length ho_parties_c, .slice ho_cabins_a ho.cabins.length ho_cabins_c, .slice ho_todo_a ho.todo.length ho_todo_c, .slice ho_jobs_a ho.jobs.length ho_jobs_c]), (54, partyE y8)] (by kernel_rfl) rfl (ENDOPS (NEXT (SEQ (REGIONQ (by kernel_rfl) (by kernel_rfl) (QRU 3 0 3 [(39, .v (.agg #[.slice ho_rules_seats_a ho.rules.seats.length ho_rules_seats_c, vi ho.rules.tiers, vi ho.rules.room, vi ho.rules.size, vi ho.rules.period, vi ho.rules.window, vi ho.rules.rest, vi ho.rules.tries, vi ho.rules.crew, vi ho.now, vi ho.turn, .slice ho_parties_a ho.parties.length ho_parties_c, .slice ho_cabins_a ho.cabins.length ho_cabins_c, .slice ho_todo_a ho.todo.length ho_todo_c, .slice ho_jobs_a ho.jobs.length ho_jobs_c])), (40, .v (.agg (partyE y8).toArray)), (41, I cabin)] (by kernel_rfl) rfl ?_)))))))))))))))
     refine QCALL 45 #[.agg #[.slice ho_rules_seats_a ho.rules.seats.length ho_rules_seats_c, vi ho.rules.tiers, vi ho.rules.room, vi ho.rules.size, vi ho.rules.period, vi ho.rules.window, vi ho.rules.rest, vi ho.rules.tries, vi ho.rules.crew, vi ho.now, vi ho.turn, .slice ho_parties_a ho.parties.length ho_parties_c, .slice ho_cabins_a ho.cabins.length ho_cabins_c, .slice ho_todo_a ho.todo.length ho_todo_c, .slice ho_jobs_a ho.jobs.length ho_jobs_c], .agg #[vi y8.id, vi y8.cabin, vi y8.from', vi y8.size, vi y8.tier, vi y8.since, vi y8.turn, vi y8.state, vi y8.until', vi y8.asked], vi cabin] (some 42) (by kernel_rfl) (.bool (fitsB ho cabin y8)) (fun w hw => iEligible_c w ho ho_rules_seats_a ho_rules_seats_c (hho_rules_seats.fr hw.fr) ho_parties_a ho_parties_c (hho_parties.fr hw.fr) ho_cabins_a ho_cabins_c (hho_cabins.fr hw.fr) ho_todo_a ho_todo_c (hho_todo.fr hw.fr) ho_jobs_a ho_jobs_c (hho_jobs.fr hw.fr) y8 cabin (by first | assumption | omega | (dsimp only; omega) | (simp only [List.length_append, List.length_cons, List.length_nil] at *; omega)) (by first | assumption | omega | (dsimp only; omega) | (simp only [List.length_append, List.length_cons, List.length_nil] at *; omega))) (NO rfl) (QRU 1 4 5 [(43, B (fitsB ho cabin y8))] (by kernel_rfl) rfl (QSPLIT (d := 43) (fitsB ho cabin y8) (by kernel_rfl) (fun bh10 => ?_) (fun bh10 => ?_)))
     ·
      have h10 := bh10
      refine QRU 6 5 11 [(45, .v (.agg #[.slice ho_rules_seats_a ho.rules.seats.length ho_rules_seats_c, vi ho.rules.tiers, vi ho.rules.room, vi ho.rules.size, vi ho.rules.period, vi ho.rules.window, vi ho.rules.rest, vi ho.rules.tries, vi ho.rules.crew])), (46, .v (.agg (partyE y8).toArray)), (48, .v (.slice ho_parties_a ho.parties.length ho_parties_c)), (49, I (atId ho.parties id))] (by kernel_rfl) rfl (QINDEX 32 (.tmp 48) (.tmp 49) 50 0 (by kernel_rfl) (NL rfl) ho_parties_a ho.parties.length ho_parties_c .i64 (atId ho.parties id) 54 10 (by kernel_rfl) (by kernel_rfl) (by kernel_rfl) (by kernel_rfl) (Rd.some hho_parties (by omega)) (by omega) (by omega) (QLOADE 54 (.tmp 50) 51 54 (by kernel_rfl) (NL rfl) ho_parties_a ((atId ho.parties id).toNat * 10) 0 (partyE x4) (.agg (partyE x4).toArray) (by kernel_rfl) (fun w hw => (hho_parties.fr hw.fr).flat hx5) (by kernel_rfl) (QRU 2 13 15 [(53, I ho.now)] (by kernel_rfl) rfl (QCALL 46 #[.agg #[.slice ho_rules_seats_a ho.rules.seats.length ho_rules_seats_c, vi ho.rules.tiers, vi ho.rules.room, vi ho.rules.size, vi ho.rules.period, vi ho.rules.window, vi ho.rules.rest, vi ho.rules.tries, vi ho.rules.crew], .agg #[vi y8.id, vi y8.cabin, vi y8.from', vi y8.size, vi y8.tier, vi y8.since, vi y8.turn, vi y8.state, vi y8.until', vi y8.asked], .agg #[vi x4.id, vi x4.cabin, vi x4.from', vi x4.size, vi x4.tier, vi x4.since, vi x4.turn, vi x4.state, vi x4.until', vi x4.asked], vi ho.now] (some 54) (by kernel_rfl) (.bool (beforeB ho.rules y8 x4 ho.now)) (fun w hw => iBefore_c w ho.rules ho_rules_seats_a ho_rules_seats_c (hho_rules_seats.fr hw.fr) y8 x4 ho.now) (NO rfl) ?_))))
      refine QRU 1 16 17 [(55, B (beforeB ho.rules y8 x4 ho.now))] (by kernel_rfl) rfl (QEND rfl (NEXT (IF (beforeB ho.rules y8 x4 ho.now) (by kernel_rfl) (fun bh11 => ?_) (fun bh11 => ?_))))
      ·
       have h11 := bh11
       refine REGION [0, 1, 2, 3, 4, 5] rfl (RU 3 [3, 4, 5] [(56, .v (.slice oa out.length oc)), (58, I y8.id)] (by kernel_rfl) rfl (OPC (BUILDS 22 1 #[(0, .tmp 58)] 59 22 (by kernel_rfl) (NL rfl) 3 [vi y8.id] (by kernel_rfl) intL [y8.id] rfl (by simp only [maxLen]; omega) [] [] _ rfl (flatRep rfl) (fun a12 ha13 => (OPC (APPENDO 22 (.tmp 56) (.tmp 59) 60 22 (by kernel_rfl) (NL rfl) (.slice oa out.length oc) a12 1 1 (by kernel_rfl) (by kernel_rfl) ha13 3 (by kernel_rfl) intL (vi 0) 8 (by kernel_rfl) rfl (by decide) 0 0 out ([y8.id]) _ rfl rfl (by first | omega | (simp only [List.length_append, List.length_cons, List.length_nil, List.length_take, List.length_drop] at *; omega)) (by simp only [maxLen]; first | omega | (simp only [List.length_append, List.length_cons, List.length_nil, List.length_take, List.length_drop] at *; omega)) (fun a14 c15 hn16 => (RU 1 [] [(8, .v (.slice a14 ((out ++ ([y8.id])).length) c15))] (by kernel_rfl) rfl (ENDOPS (OUTN (NEXT (REGION [0, 1] rfl (RU 1 [1] [(61, I (wr ((k : Int) + 1)))] (by kernel_rfl) rfl (CAST (d := 61) (vi (wr ((k : Int) + 1))) (vi ((k + 1 : Nat) : Int)) (by kernel_rfl) (vi_cast (by omega) (by omega)) (RU 1 [] [(35, I ((k + 1 : Nat) : Int))] (by kernel_rfl) rfl (ENDOPS (BACK (k + 1, ys9, a14, c15, out ++ ([y8.id])) [1, 3, 7, 8, 33, 34, 35] 1 [0] _ ⟨hl_y8, hd_y8, (by first | (simp only [List.length_append, List.length_cons, List.length_nil]; omega) | omega | (dsimp only; omega)), (by simp_all [passGo])⟩ (by simp) (by kernel_rfl) rfl rfl rfl)))))))))))))))))
      ·
       have h11 := bh11
       refine SKIP (OUTN (NEXT (REGION [0, 1] rfl (RU 1 [1] [(61, I (wr ((k : Int) + 1)))] (by kernel_rfl) rfl (CAST (d := 61) (vi (wr ((k : Int) + 1))) (vi ((k + 1 : Nat) : Int)) (by kernel_rfl) (vi_cast (by omega) (by omega)) (RU 1 [] [(35, I ((k + 1 : Nat) : Int))] (by kernel_rfl) rfl (ENDOPS (BACK (k + 1, ys9, oa, oc, out) [1, 3, 7, 8, 33, 34, 35] 1 [0] _ ⟨hl_y8, hd_y8, (by first | (simp only [List.length_append, List.length_cons, List.length_nil]; omega) | omega | (dsimp only; omega)), (by simp_all [passGo])⟩ (by simp) (by kernel_rfl) rfl rfl rfl))))))))
     ·
      have h10 := bh10
      refine QRU 12 5 17 [(55, B false)] (by kernel_rfl) rfl (QEND rfl (NEXT (IFF (by kernel_rfl) (SKIP (OUTN (NEXT (REGION [0, 1] rfl (RU 1 [1] [(61, I (wr ((k : Int) + 1)))] (by kernel_rfl) rfl (CAST (d := 61) (vi (wr ((k : Int) + 1))) (vi ((k + 1 : Nat) : Int)) (by kernel_rfl) (vi_cast (by omega) (by omega)) (RU 1 [] [(35, I ((k + 1 : Nat) : Int))] (by kernel_rfl) rfl (ENDOPS (BACK (k + 1, ys9, oa, oc, out) [1, 3, 7, 8, 33, 34, 35] 1 [0] _ ⟨hl_y8, hd_y8, (by first | (simp only [List.length_append, List.length_cons, List.length_nil]; omega) | omega | (dsimp only; omega)), (by simp_all [passGo])⟩ (by simp) (by kernel_rfl) rfl rfl rfl))))))))))))
    ·
     have h7 := bh7
     have h7 := of_decide_eq_false h7
     obtain rfl := drop_nil hk (by omega)
     refine EXIT (PASS trivial (PASS trivial (OUT (NEXT (SEQ (REGION [0, 1] rfl (RU 2 [] [(6, .v (.slice oa out.length oc))] (by kernel_rfl) rfl (ENDOPS (NEXT (RET ?_))))))))))
     have efin : passed ho cabin id = out := by (first | exact passed_no (by assumption) | exact passed_neg (by assumption) | exact passed_ne hx5 (by assumption) | (rw [passed_of (by assumption) (by assumption) hx5 (by assumption), ← hv1]; simp [passGo]))
     refine FIN (.slice oa out.length oc) (by kernel_rfl) (oa, oc) ?_ [0] ?_
     · (rw [efin] <;> rfl)
     · (rw [efin] <;> rfl)

end SX
end Go.Proofs.YtgbfemglimebdaaGreat
