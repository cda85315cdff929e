/- Walks, printed by program. -/
import Derived.Test.YtcbpmjfjdjpalaaGreatMdlu
import Derived.Test.YtcbpmjfjdjpalaaGreatI5
import Derived.Test.YtcbpmjfjdjpalaaGreatMdlp
namespace Go.Proofs.YtcbpmjfjdjpalaaGreat
namespace SX
open Go Go.RowKit
set_option linter.unusedVariables false
set_option linter.unusedSimpArgs false
set_option maxRecDepth 10000
set_option maxHeartbeats 400000
theorem iResting_c (W : World) (p : Party) (now : Int) : Spec Tryz.prog W [] 30 #[.agg #[vi p.id, vi p.cabin, vi p.from', vi p.size, vi p.tier, vi p.since, vi p.turn, vi p.state, vi p.until', vi p.asked], vi now] (RV (.bool (restingB p now))) := by
 refine ENTER0 (N := 14) (vs := [.agg #[vi p.id, vi p.cabin, vi p.from', vi p.size, vi p.tier, vi p.since, vi p.turn, vi p.state, vi p.until', vi p.asked], vi now]) Tryz.func30 rfl rfl (NL rfl) ?_
 refine SEQ (RG (UL 2 [(2, .p 0 0)] [(46, partyE p)] (NR (UU 4 [(8, B (p.state == 1))] (SP 8 (p.state == 1) (fun bh1 => ?_) (fun bh1 => ?_))))))
 ·
  have h1 := eq_of_beq bh1
  refine UU 6 [(4, B (decide (p.until' > now)))] (ENDOPS (NEXT (RF rfl (.bool (decide (p.until' > now))) () [] ?_ ?_)))
  · (first | (simp [RV, restingB, *]; done) | (simp_all [RV, restingB]; done))
  · rfl
 ·
  have h1 := ne_of_beq_false bh1
  refine UU 6 [(4, B false)] (ENDOPS (NEXT (RF rfl (.bool false) () [] ?_ ?_)))
  · (first | (simp [RV, restingB, *]; done) | (simp_all [RV, restingB]; done))
  · rfl

theorem iBefore_c (W : World) (r : Rules) (r_seats_a : Option Addr) (r_seats_c : Nat) (hr_seats : Rd intL W r_seats_a r.seats) (a : Party) (b : Party) (now : Int) : Spec Tryz.prog W [] 25 #[.agg #[.slice r_seats_a r.seats.length r_seats_c, vi r.tiers, vi r.room, vi r.size, vi r.period, vi r.window, vi r.rest, vi r.tries, vi r.crew], .agg #[vi a.id, vi a.cabin, vi a.from', vi a.size, vi a.tier, vi a.since, vi a.turn, vi a.state, vi a.until', vi a.asked], .agg #[vi b.id, vi b.cabin, vi b.from', vi b.size, vi b.tier, vi b.since, vi b.turn, vi b.state, vi b.until', vi b.asked], vi now] (RV (.bool (beforeB r a b now))) := by
 refine ENTER0 (N := 42) (vs := [.agg #[.slice r_seats_a r.seats.length r_seats_c, vi r.tiers, vi r.room, vi r.size, vi r.period, vi r.window, vi r.rest, vi r.tries, vi r.crew], .agg #[vi a.id, vi a.cabin, vi a.from', vi a.size, vi a.tier, vi a.since, vi a.turn, vi a.state, vi a.until', vi a.asked], .agg #[vi b.id, vi b.cabin, vi b.from', vi b.size, vi b.tier, vi b.since, vi b.turn, vi b.state, vi b.until', vi b.asked], vi now]) Tryz.func25 rfl rfl (NL rfl) ?_
 have hr_seats_len := hr_seats.len
 refine SEQ (RG (UL 4 [(4, .p 0 0), (5, .p 1 0), (6, .p 2 0)] [(26, [.slice r_seats_a r.seats.length r_seats_c, vi r.tiers, vi r.room, vi r.size, vi r.period, vi r.window, vi r.rest, vi r.tries, vi r.crew]), (46, partyE a), (46, partyE b)] (ENDOPS (NEXT (SEQ (REGIONQ (by kernel_rfl) (by kernel_rfl) (QU 3 [(11, .v (.agg #[.slice r_seats_a r.seats.length r_seats_c, vi r.tiers, vi r.room, vi r.size, vi r.period, vi r.window, vi r.rest, vi r.tries, vi r.crew])), (12, .v (.agg (partyE a).toArray)), (13, I now)] (QCA 58 #[.agg #[.slice r_seats_a r.seats.length r_seats_c, vi r.tiers, vi r.room, vi r.size, vi r.period, vi r.window, vi r.rest, vi r.tries, vi r.crew], .agg #[vi a.id, vi a.cabin, vi a.from', vi a.size, vi a.tier, vi a.since, vi a.turn, vi a.state, vi a.until', vi a.asked], vi now] (some 14) (vi (levelOf r a now)) (fun w hw => iLevelOf_c w r r_seats_a r_seats_c (hr_seats.fr hw.fr) a now) (QU 3 [(15, .v (.agg #[.slice r_seats_a r.seats.length r_seats_c, vi r.tiers, vi r.room, vi r.size, vi r.period, vi r.window, vi r.rest, vi r.tries, vi r.crew])), (16, .v (.agg (partyE b).toArray)), (17, I now)] (QCA 58 #[.agg #[.slice r_seats_a r.seats.length r_seats_c, vi r.tiers, vi r.room, vi r.size, vi r.period, vi r.window, vi r.rest, vi r.tries, vi r.crew], .agg #[vi b.id, vi b.cabin, vi b.from', vi b.size, vi b.tier, vi b.since, vi b.turn, vi b.state, vi b.until', vi b.asked], vi now] (some 18) (vi (levelOf r b now)) (fun w hw => iLevelOf_c w r r_seats_a r_seats_c (hr_seats.fr hw.fr) b now) ?_))))))))))
 refine QU 2 [(9, I (levelOf r a now)), (10, I (levelOf r b now))] (QEND rfl (NEXT (SEQ (RG (UU 3 [(21, B (decide ((levelOf r a now) ≥ 0)))] (SP 21 (decide ((levelOf r a now) ≥ 0)) (fun bh1 => ?_) (fun bh1 => ?_)))))))
 ·
  have h1 := of_decide_eq_true bh1
  refine UU 4 [(25, B (decide ((levelOf r b now) ≥ 0)))] (SP 25 (decide ((levelOf r b now) ≥ 0)) (fun bh2 => ?_) (fun bh2 => ?_))
  ·
   have h2 := of_decide_eq_true bh2
   refine UU 4 [(29, B (decide ((levelOf r a now) < (levelOf r b now))))] (SP 29 (decide ((levelOf r a now) < (levelOf r b now))) (fun bh3 => ?_) (fun bh3 => ?_))
   ·
    have h3 := of_decide_eq_true bh3
    refine UU 13 [(8, B true)] (ENDOPS (NEXT (RF rfl (.bool true) () [] ?_ ?_)))
    · (first | (simp [RV, beforeB, *]; done) | (simp_all [RV, beforeB]; done))
    · rfl
   ·
    have h3 := of_decide_eq_false bh3
    refine UU 4 [(33, B ((levelOf r a now) == (levelOf r b now)))] (SP 33 ((levelOf r a now) == (levelOf r b now)) (fun bh4 => ?_) (fun bh4 => ?_))
    ·
     have h4 := eq_of_beq bh4
     refine UU 9 [(8, B (decide (a.turn < b.turn)))] (ENDOPS (NEXT (RF rfl (.bool (decide (a.turn < b.turn))) () [] ?_ ?_)))
     · (first | (simp [RV, beforeB, *]; done) | (simp_all [RV, beforeB]; done))
     · rfl
    ·
     have h4 := ne_of_beq_false bh4
     refine UU 9 [(8, B false)] (ENDOPS (NEXT (RF rfl (.bool false) () [] ?_ ?_)))
     · (first | (simp [RV, beforeB, *]; done) | (simp_all [RV, beforeB]; done))
     · rfl
  ·
   have h2 := of_decide_eq_false bh2
   refine UU 17 [(8, B false)] (ENDOPS (NEXT (RF rfl (.bool false) () [] ?_ ?_)))
   · (first | (simp [RV, beforeB, *]; done) | (simp_all [RV, beforeB]; done))
   · rfl
 ·
  have h1 := of_decide_eq_false bh1
  refine UU 21 [(8, B false)] (ENDOPS (NEXT (RF rfl (.bool false) () [] ?_ ?_)))
  · (first | (simp [RV, beforeB, *]; done) | (simp_all [RV, beforeB]; done))
  · rfl

theorem iEligible_c (W : World) (ho : House) (ho_rules_seats_a : Option Addr) (ho_rules_seats_c : Nat) (hho_rules_seats : Rd intL W ho_rules_seats_a ho.rules.seats) (ho_parties_a : Option Addr) (ho_parties_c : Nat) (hho_parties : Rd partyL W ho_parties_a ho.parties) (ho_cabins_a : Option Addr) (ho_cabins_c : Nat) (hho_cabins : Rd (cabinLx 63 99 114) W ho_cabins_a ho.cabins) (ho_todo_a : Option Addr) (ho_todo_c : Nat) (hho_todo : Rd intL W ho_todo_a ho.todo) (ho_jobs_a : Option Addr) (ho_jobs_c : Nat) (hho_jobs : Rd intL W ho_jobs_a ho.jobs) (p : Party) (cabin : Int) (hc0 : 0 ≤ cabin) (hc1 : cabin < (ho.cabins.length : Int)) : Spec Tryz.prog W [] 24 #[.agg (hC ho ho_rules_seats_a ho_rules_seats_c ho_parties_a ho_parties_c ho_cabins_a ho_cabins_c ho_todo_a ho_todo_c ho_jobs_a ho_jobs_c).toArray, .agg #[vi p.id, vi p.cabin, vi p.from', vi p.size, vi p.tier, vi p.since, vi p.turn, vi p.state, vi p.until', vi p.asked], vi cabin] (RV (.bool (fitsB ho cabin p))) := by
 refine ENTER0 (N := 35) (vs := [.agg (hC ho ho_rules_seats_a ho_rules_seats_c ho_parties_a ho_parties_c ho_cabins_a ho_cabins_c ho_todo_a ho_todo_c ho_jobs_a ho_jobs_c).toArray, .agg #[vi p.id, vi p.cabin, vi p.from', vi p.size, vi p.tier, vi p.since, vi p.turn, vi p.state, vi p.until', vi p.asked], vi cabin]) Tryz.func24 rfl rfl (NL rfl) ?_
 have hho_rules_seats_len := hho_rules_seats.len
 have hho_parties_len := hho_parties.len
 have hho_cabins_len := hho_cabins.len
 have hho_todo_len := hho_todo.len
 have hho_jobs_len := hho_jobs.len
 refine SEQ (RG (UL 3 [(3, .p 0 0), (4, .p 1 0)] [(30, (hC ho ho_rules_seats_a ho_rules_seats_c ho_parties_a ho_parties_c ho_cabins_a ho_cabins_c ho_todo_a ho_todo_c ho_jobs_a ho_jobs_c)), (46, partyE p)] (ENDOPS (NEXT (SEQ (REGIONQ (by kernel_rfl) (by kernel_rfl) (QU 5 [(11, B (p.cabin == cabin))] (QSP 11 (p.cabin == cabin) (fun bh1 => ?_) (fun bh1 => ?_)))))))))
 ·
  have h1 := eq_of_beq bh1
  refine QU 5 [(16, B (p.state == 1))] (QSP 16 (p.state == 1) (fun bh2 => ?_) (fun bh2 => ?_))
  ·
   have h2 := eq_of_beq bh2
   refine QU 3 [(17, .v (.agg (partyE p).toArray)), (19, I ho.now)] (QCA 30 #[.agg #[vi p.id, vi p.cabin, vi p.from', vi p.size, vi p.tier, vi p.since, vi p.turn, vi p.state, vi p.until', vi p.asked], vi ho.now] (some 20) (.bool (restingB p ho.now)) (fun w hw => iResting_c w p ho.now) (QU 3 [(23, B (!(restingB p ho.now)))] (QSP 23 (!(restingB p ho.now)) (fun bh3 => ?_) (fun bh3 => ?_))))
   ·
    have h3 := notT bh3
    refine QU 5 [(25, I p.size), (27, .v (.slice ho_cabins_a ho.cabins.length ho_cabins_c)), (28, I cabin)] ?_
    obtain ⟨x4, hx5⟩ : ∃ y, ho.cabins[cabin.toNat]? = some y := ⟨_, List.getElem?_eq_getElem (by omega)⟩
    obtain ⟨a6, c7, a9, c10, hel12, hi8, hi11, hi8_cap, hi11_cap⟩ := cabin_view hho_cabins hx5
    have hi8_len := hi8.len
    have hi11_len := hi11.len
    refine QIX 28 (.tmp 27) (.tmp 28) 29 0 ho_cabins_a ho.cabins.length ho_cabins_c .i64 cabin 60 7 (Rd.some hho_cabins (by omega)) (by omega) (by omega) (QU 2 [(31, .e ho_cabins_a (cabin.toNat * 7) 1)] (QLE 3 (.tmp 31) 32 3 ho_cabins_a (cabin.toNat * 7) 1 ([vi x4.seats.total, vi x4.seats.free, vi x4.seats.held, vi x4.seats.sold, vi x4.seats.tied, .slice a6 x4.row.length c7, .slice a9 x4.wheel.spoke.length c10]) (vi x4.seats.free) (fun w hw => hel12.fr hw.fr) (QU 3 [(6, B (decide (p.size ≤ x4.seats.free)))] (QEND rfl (NEXT (RF rfl (.bool (decide (p.size ≤ x4.seats.free))) () [] ?_ ?_))))))
    · (have hfr := freeAt_of hx5; first | (simp [RV, fitsB, *]; done) | (simp_all [RV, fitsB]; done))
    · rfl
   ·
    have h3 := notF bh3
    refine QU 12 [(6, B false)] (QEND rfl (NEXT (RF rfl (.bool false) () [] ?_ ?_)))
    · (first | (simp [RV, fitsB, *]; done) | (simp_all [RV, fitsB]; done))
    · rfl
  ·
   have h2 := ne_of_beq_false bh2
   refine QU 19 [(6, B false)] (QEND rfl (NEXT (RF rfl (.bool false) () [] ?_ ?_)))
   · (first | (simp [RV, fitsB, *]; done) | (simp_all [RV, fitsB]; done))
   · rfl
 ·
  have h1 := ne_of_beq_false bh1
  refine QU 24 [(6, B false)] (QEND rfl (NEXT (RF rfl (.bool false) () [] ?_ ?_)))
  · (first | (simp [RV, fitsB, *]; done) | (simp_all [RV, fitsB]; done))
  · rfl

theorem ipartyAt1_c (W : World) (p : Party) (pid_b : Nat) (pid : Int) (hpid : ElemAt W (some ⟨pid_b, 0, none⟩) 0 [vi pid]) : Spec Tryz.prog W [] 89 #[.agg #[vi p.id, vi p.cabin, vi p.from', vi p.size, vi p.tier, vi p.since, vi p.turn, vi p.state, vi p.until', vi p.asked], .pointer (some ⟨pid_b, 0, none⟩)] (RV (.bool ((p).id == pid))) := by
 refine ENTER0 (N := 8) (vs := [.agg #[vi p.id, vi p.cabin, vi p.from', vi p.size, vi p.tier, vi p.since, vi p.turn, vi p.state, vi p.until', vi p.asked], .pointer (some ⟨pid_b, 0, none⟩)]) Tryz.func89 rfl rfl (NL rfl) ?_
 refine ASE (d := 1) rfl (SEQ (RG (UL 2 [(2, .p 0 0)] [(46, partyE p)] (NR (UU 2 [(5, I p.id)] (OPC (LE 3 (.tmp 1) 6 3 (some ⟨pid_b, 0, none⟩) 0 0 ([vi pid]) (vi pid) (fun w hw => (hpid.fr hw.fr)) (UU 2 [(3, B (p.id == pid))] (ENDOPS (NEXT (RF rfl (.bool (p.id == pid)) () [] ?_ ?_)))))))))))
 · simp [RV]
 · rfl

theorem ixPartyAt_c (W : World) (list : List Party) (list_a : Option Addr) (list_c : Nat) (hlist : Rd partyL W list_a list) (pid_b : Nat) (pid : Int) (hpid : ElemAt W (some ⟨pid_b, 0, none⟩) 0 [vi pid]) : Spec Tryz.prog W [] 88 #[.slice list_a list.length list_c, .func (.func 89) #[] #[.pointer (some ⟨pid_b, 0, none⟩)]] (RV (vi (idxF (fun e : Party => e.id == pid) list 0))) := by
 refine ENTER0 (N := 19) (vs := [.slice list_a list.length list_c, .func (.func 89) #[] #[.pointer (some ⟨pid_b, 0, none⟩)]]) Tryz.func88 rfl rfl (NL rfl) ?_
 have hlist_len := hlist.len
 refine SEQ (RG (UU 1 [] (ENDOPS (NEXT (SEQ (SEQ (RG (UU 3 [(7, I (list.length : Int)), (8, I 0)] (ENDOPS (NEXT (BLOCK (LOOP (ι := Nat × (List Party)) (fun j => [(0, .v (.slice list_a list.length list_c)), (1, .v (.func (.func 89) #[] #[.pointer (some ⟨pid_b, 0, none⟩)])), (7, I (list.length : Int)), (8, I (j.1 : Int))]) (fun j => []) (fun j => []) (fun j => j.1 + j.2.length = list.length ∧ list.drop j.1 = j.2 ∧ idxF (fun e : Party => e.id == pid) list 0 = idxF (fun e : Party => e.id == pid) j.2 j.1) (fun j => j.2.length) (0, list) [0, 1, 7, 8] ⟨by simp, rfl, rfl⟩ (by kernel_rfl) rfl rfl ?_))))))))))))
 rintro ⟨k, ys⟩ ⟨hk, hd, hv0⟩
 try dsimp only at hk hd hv0
 refine SEQ (RG (UU 1 [(9, B (decide ((k : Int) < (list.length : Int))))] (ENDOPS (NEXT (SEQ (IFK (decide ((k : Int) < (list.length : Int))) (fun bh1 => ?_) (fun bh1 => ?_)))))))
 ·
  have h1 := of_decide_eq_true bh1
  obtain ⟨y2, ys3, rfl, hx_y2, hd_y2, hl_y2⟩ := drop_cons hd hk (by omega)
  refine SKIP (NEXT (SEQ (BLOCK (SEQ (RG (UU 2 [(5, I (k : Int))] (NR (UU 3 [(11, .v (.func (.func 89) #[] #[.pointer (some ⟨pid_b, 0, none⟩)])), (12, .v (.slice list_a list.length list_c)), (13, I (k : Int))] (OPC (IX 27 (.tmp 12) (.tmp 13) 14 0 list_a list.length list_c .i64 (k : Int) 46 10 (Rd.some hlist (by omega)) (by omega) (by omega) (OPC (LE 46 (.tmp 14) 15 46 list_a (k * 10) 0 (partyE y2) (.agg (partyE y2).toArray) (fun w hw => (hlist.fr hw.fr).flat hx_y2) (OPC (CA 89 #[.agg #[vi y2.id, vi y2.cabin, vi y2.from', vi y2.size, vi y2.tier, vi y2.since, vi y2.turn, vi y2.state, vi y2.until', vi y2.asked], .pointer (some ⟨pid_b, 0, none⟩)] (some 16) (RV (.bool ((y2).id == pid))) (fun w hw => ipartyAt1_c w y2 pid_b pid (hpid.fr hw.fr)) ?_))))))))))))))
  rintro ⟨⟩
  refine NI ((y2).id == pid) (fun bh4 => ?_) (fun bh4 => ?_)
  ·
   have h4 := eq_of_beq bh4
   refine SEQ (RG (UU 2 [(4, I (k : Int))] (ENDOPS (NEXT (RF rfl (vi (k : Int)) () [] ?_ ?_)))))
   · simp_all [RV, idxF]
   · rfl
  ·
   have h4 := ne_of_beq_false bh4
   refine SKIP (OUTN (NEXT (RG (UU 1 [(18, I (wr ((k : Int) + 1)))] (CS 18 (vi (wr ((k : Int) + 1))) (vi ((k + 1 : Nat) : Int)) (vi_cast (by omega) (by omega)) (UU 1 [(8, I ((k + 1 : Nat) : Int))] (ENDOPS (BK (k + 1, ys3) [0, 1, 7, 8] 0 [] ⟨hl_y2, hd_y2, (hv0.trans (by simp_all [idxF]))⟩ (by simp)))))))))
 ·
  have h1 := of_decide_eq_false bh1
  obtain rfl := drop_nil hk (by omega)
  refine EXIT (PASS trivial (PASS trivial (OUT (NEXT (SEQ (RG (UU 1 [(4, I (-1))] (ENDOPS (NEXT (RF rfl (vi (-1)) () [] ?_ ?_))))))))))
  · simp_all [RV, idxF]
  · rfl

theorem ipartyAt_c (W : World) (list : List Party) (list_a : Option Addr) (list_c : Nat) (hlist : Rd partyL W list_a list) (id : Int) : Spec Tryz.prog W [] 55 #[.slice list_a list.length list_c, vi id] (RV (vi (atId list id))) := by
 refine ENTER0 (N := 8) (vs := [.slice list_a list.length list_c, vi id]) Tryz.func55 rfl rfl (NL rfl) ?_
 have hlist_len := hlist.len
 refine SEQ (RG (UL 2 [(3, .p 0 0)] [(3, [vi id])] (NR (UU 1 [(5, .v (.slice list_a list.length list_c))] (EXPORT (fun bs hbs => ?_))))))
 obtain ⟨b1, rfl⟩ := len1 hbs
 refine ASV (d := 3) rfl (RU 1 [2, 3] [(6, .v (.func (.func 89) #[] #[.pointer (some ⟨b1, 0, none⟩)]))] (by kernel_rfl) rfl (OPC (CA 88 #[.slice list_a list.length list_c, .func (.func 89) #[] #[.pointer (some ⟨b1, 0, none⟩)]] (some 7) (RV (vi (idxF (fun e : Party => e.id == id) list 0))) (fun w hw => ixPartyAt_c w list list_a list_c (hlist.fr hw.fr) b1 id (ptC_elem (hw.own 0 rfl))) ?_)))
 rintro ⟨⟩
 refine UU 1 [(4, I (idxF (fun e : Party => e.id == id) list 0))] (ENDOPS (IMPORT (L0 := [(3, [vi id])]) (L1 := []) [b1] rfl [0] _ rfl [(4, I (idxF (fun e : Party => e.id == id) list 0))] (by kernel_rfl) (by kernel_rfl) (NEXT (RF rfl (vi (idxF (fun e : Party => e.id == id) list 0)) () [] ?_ ?_))))
 · rfl
 · rfl

theorem iPartyAt_c (W : World) (ho : House) (ho_rules_seats_a : Option Addr) (ho_rules_seats_c : Nat) (hho_rules_seats : Rd intL W ho_rules_seats_a ho.rules.seats) (ho_parties_a : Option Addr) (ho_parties_c : Nat) (hho_parties : Rd partyL W ho_parties_a ho.parties) (ho_cabins_a : Option Addr) (ho_cabins_c : Nat) (hho_cabins : Rd (cabinLx 63 99 114) W ho_cabins_a ho.cabins) (ho_todo_a : Option Addr) (ho_todo_c : Nat) (hho_todo : Rd intL W ho_todo_a ho.todo) (ho_jobs_a : Option Addr) (ho_jobs_c : Nat) (hho_jobs : Rd intL W ho_jobs_a ho.jobs) (id : Int) : Spec Tryz.prog W [] 22 #[.agg (hC ho ho_rules_seats_a ho_rules_seats_c ho_parties_a ho_parties_c ho_cabins_a ho_cabins_c ho_todo_a ho_todo_c ho_jobs_a ho_jobs_c).toArray, vi id] (RV (vi (atId ho.parties id))) := by
 refine ENTER0 (N := 9) (vs := [.agg (hC ho ho_rules_seats_a ho_rules_seats_c ho_parties_a ho_parties_c ho_cabins_a ho_cabins_c ho_todo_a ho_todo_c ho_jobs_a ho_jobs_c).toArray, vi id]) Tryz.func22 rfl rfl (NL rfl) ?_
 have hho_rules_seats_len := hho_rules_seats.len
 have hho_parties_len := hho_parties.len
 have hho_cabins_len := hho_cabins.len
 have hho_todo_len := hho_todo.len
 have hho_jobs_len := hho_jobs.len
 refine SEQ (RG (UL 2 [(2, .p 0 0)] [(30, (hC ho ho_rules_seats_a ho_rules_seats_c ho_parties_a ho_parties_c ho_cabins_a ho_cabins_c ho_todo_a ho_todo_c ho_jobs_a ho_jobs_c))] (NR (UU 3 [(6, .v (.slice ho_parties_a ho.parties.length ho_parties_c)), (7, I id)] (OPC (CA 55 #[.slice ho_parties_a ho.parties.length ho_parties_c, vi id] (some 8) (RV (vi (atId ho.parties id))) (fun w hw => ipartyAt_c w ho.parties ho_parties_a ho_parties_c (hho_parties.fr hw.fr) id) ?_))))))
 rintro ⟨⟩
 refine UU 1 [(4, I (atId ho.parties id))] (ENDOPS (NEXT (RF rfl (vi (atId ho.parties id)) () [] ?_ ?_)))
 · rfl
 · rfl

theorem iPassed_c (W : World) (ho : House) (ho_rules_seats_a : Option Addr) (ho_rules_seats_c : Nat) (hho_rules_seats : Rd intL W ho_rules_seats_a ho.rules.seats) (ho_parties_a : Option Addr) (ho_parties_c : Nat) (hho_parties : Rd partyL W ho_parties_a ho.parties) (ho_cabins_a : Option Addr) (ho_cabins_c : Nat) (hho_cabins : Rd (cabinLx 63 99 114) W ho_cabins_a ho.cabins) (ho_todo_a : Option Addr) (ho_todo_c : Nat) (hho_todo : Rd intL W ho_todo_a ho.todo) (ho_jobs_a : Option Addr) (ho_jobs_c : Nat) (hho_jobs : Rd intL W ho_jobs_a ho.jobs) (cabin : Int) (id : Int) (hsz : HouseSz ho) (hcp : ho.parties.length ≤ ho_parties_c) (hct : ho.todo.length ≤ ho_todo_c) : Spec Tryz.prog W [] 7 #[.agg (hC ho ho_rules_seats_a ho_rules_seats_c ho_parties_a ho_parties_c ho_cabins_a ho_cabins_c ho_todo_a ho_todo_c ho_jobs_a ho_jobs_c).toArray, vi cabin, vi id] (⟨HH, fun p => .slice p.1 ((passed ho cabin id).length) p.2, fun p => [slA 3 intL (.slice p.1 (passed ho cabin id).length p.2) (passed ho cabin id)]⟩) := by
 refine ENTER0 (N := 63) (vs := [.agg (hC ho ho_rules_seats_a ho_rules_seats_c ho_parties_a ho_parties_c ho_cabins_a ho_cabins_c ho_todo_a ho_todo_c ho_jobs_a ho_jobs_c).toArray, vi cabin, vi id]) Tryz.func7 rfl rfl (NL rfl) ?_
 have hs9 := hsz.1; have hs8 := hsz.2.1; have hs7 := hsz.2.2.1; have hs6 := hsz.2.2.2.1; have hs5 := hsz.2.2.2.2.1; have hs4 := hsz.2.2.2.2.2
 have hho_rules_seats_len := hho_rules_seats.len
 have hho_parties_len := hho_parties.len
 have hho_cabins_len := hho_cabins.len
 have hho_todo_len := hho_todo.len
 have hho_jobs_len := hho_jobs.len
 refine SEQ (RG (UL 2 [(3, .p 0 0)] [(30, (hC ho ho_rules_seats_a ho_rules_seats_c ho_parties_a ho_parties_c ho_cabins_a ho_cabins_c ho_todo_a ho_todo_c ho_jobs_a ho_jobs_c))] (NR (UU 2 [(11, .v (.agg (hC ho ho_rules_seats_a ho_rules_seats_c ho_parties_a ho_parties_c ho_cabins_a ho_cabins_c ho_todo_a ho_todo_c ho_jobs_a ho_jobs_c).toArray)), (12, I id)] (OPC (CA 22 #[.agg (hC ho ho_rules_seats_a ho_rules_seats_c ho_parties_a ho_parties_c ho_cabins_a ho_cabins_c ho_todo_a ho_todo_c ho_jobs_a ho_jobs_c).toArray, vi id] (some 13) (RV (vi (atId ho.parties id))) (fun w hw => iPartyAt_c w ho ho_rules_seats_a ho_rules_seats_c (hho_rules_seats.fr hw.fr) ho_parties_a ho_parties_c (hho_parties.fr hw.fr) ho_cabins_a ho_cabins_c (hho_cabins.fr hw.fr) ho_todo_a ho_todo_c (hho_todo.fr hw.fr) ho_jobs_a ho_jobs_c (hho_jobs.fr hw.fr) id) ?_))))))
 rintro ⟨⟩
 have hr1 := atId_lt ho.parties id
 refine UU 1 [(7, I (atId ho.parties id))] (ENDOPS (NEXT (SEQ (SEQ (RG (UU 2 [(14, .v (.agg (hC ho ho_rules_seats_a ho_rules_seats_c ho_parties_a ho_parties_c ho_cabins_a ho_cabins_c ho_todo_a ho_todo_c ho_jobs_a ho_jobs_c).toArray)), (15, I cabin)] (OPC (CA 23 #[.agg (hC ho ho_rules_seats_a ho_rules_seats_c ho_parties_a ho_parties_c ho_cabins_a ho_cabins_c ho_todo_a ho_todo_c ho_jobs_a ho_jobs_c).toArray, vi cabin] (some 16) (RV (.bool (hasCab ho cabin))) (fun w hw => iHasCabin_c w ho ho_rules_seats_a ho_rules_seats_c (hho_rules_seats.fr hw.fr) ho_parties_a ho_parties_c (hho_parties.fr hw.fr) ho_cabins_a ho_cabins_c (hho_cabins.fr hw.fr) ho_todo_a ho_todo_c (hho_todo.fr hw.fr) ho_jobs_a ho_jobs_c (hho_jobs.fr hw.fr) cabin (by assumption) (by first | assumption | omega | (dsimp only; omega) | (simp only [List.length_append, List.length_cons, List.length_nil] at *; omega)) (by first | assumption | omega | (dsimp only; omega) | (simp only [List.length_append, List.length_cons, List.length_nil] at *; omega))) ?_))))))))
 rintro ⟨⟩
 refine UU 2 [(18, B (!(hasCab ho cabin)))] (SP 18 (!(hasCab ho cabin)) (fun bh2 => ?_) (fun bh2 => ?_))
 ·
  have h2 := notT bh2
  refine UU 13 [(31, B true)] (ENDOPS (NEXT (IFT (by kernel_rfl) (SEQ (RG (UU 1 [(6, .v (.slice none 0 0))] (ENDOPS (NEXT (RET (PASS trivial (NIL 3 intL ?_)))))))))))
  have efin : passed ho cabin id = [] := by (first | exact passed_no (by assumption) | exact passed_neg (by assumption))
  refine FIN (.slice none 0 0) (by kernel_rfl) (none, 0) ?_ [0] ?_
  · (rw [efin] <;> rfl)
  · (rw [efin] <;> rfl)
 ·
  have h2 := notF bh2
  have hcb := hasCab_in h2
  refine UU 4 [(22, B (decide ((atId ho.parties id) < 0)))] (SP 22 (decide ((atId ho.parties id) < 0)) (fun bh3 => ?_) (fun bh3 => ?_))
  ·
   have h3 := of_decide_eq_true bh3
   refine UU 9 [(31, B true)] (ENDOPS (NEXT (IFT (by kernel_rfl) (SEQ (RG (UU 1 [(6, .v (.slice none 0 0))] (ENDOPS (NEXT (RET (PASS trivial (NIL 3 intL ?_)))))))))))
   have efin : passed ho cabin id = [] := by (first | exact passed_no (by assumption) | exact passed_neg (by assumption))
   refine FIN (.slice none 0 0) (by kernel_rfl) (none, 0) ?_ [0] ?_
   · (rw [efin] <;> rfl)
   · (rw [efin] <;> rfl)
  ·
   have h3 := of_decide_eq_false bh3
   refine UU 3 [(24, .v (.slice ho_parties_a ho.parties.length ho_parties_c)), (25, I (atId ho.parties id))] ?_
   obtain ⟨x4, hx5⟩ : ∃ y, ho.parties[(atId ho.parties id).toNat]? = some y := ⟨_, List.getElem?_eq_getElem (by omega)⟩
   refine OPC (IX 27 (.tmp 24) (.tmp 25) 26 0 ho_parties_a ho.parties.length ho_parties_c .i64 (atId ho.parties id) 46 10 (Rd.some hho_parties (by omega)) (by omega) (by omega) (UU 1 [(27, .e ho_parties_a ((atId ho.parties id).toNat * 10) 1)] (OPC (LE 3 (.tmp 27) 28 3 ho_parties_a ((atId ho.parties id).toNat * 10) 1 (partyE x4) (vi x4.cabin) (fun w hw => (hho_parties.fr hw.fr).flat hx5) (UU 3 [(31, B (x4.cabin != cabin))] (NI (x4.cabin != cabin) (fun bh6 => ?_) (fun bh6 => ?_)))))))
   ·
    have h6 := bne_iff_ne.1 bh6
    refine SEQ (RG (UU 1 [(6, .v (.slice none 0 0))] (ENDOPS (NEXT (RET (PASS trivial (NIL 3 intL ?_)))))))
    have efin : passed ho cabin id = [] := by (first | exact passed_no (by assumption) | exact passed_neg (by assumption) | exact passed_ne hx5 (by assumption) | (rw [passed_of (by assumption) (by assumption) hx5 (by assumption), ← hv1]; simp [passGo]))
    refine FIN (.slice none 0 0) (by kernel_rfl) (none, 0) ?_ [0] ?_
    · (rw [efin] <;> rfl)
    · (rw [efin] <;> rfl)
   ·
    have h6 := bneF bh6
    refine SKIP (NEXT (SEQ (RG (UU 1 [(8, .v (.slice none 0 0))] (ENDOPS (NEXT (SEQ (SEQ (RG (UU 4 [(33, .v (.slice ho_parties_a ho.parties.length ho_parties_c)), (34, I (ho.parties.length : Int)), (35, I 0)] (ENDOPS (NEXT (BLOCK (NIL 3 intL (LOOP (ι := Nat × (List Party) × (Option Addr) × Nat × (List Int)) (fun j => [(1, I cabin), (3, .p 0 0), (7, I (atId ho.parties id)), (8, .v (.slice j.2.2.1 j.2.2.2.2.length j.2.2.2.1)), (33, .v (.slice ho_parties_a ho.parties.length ho_parties_c)), (34, I (ho.parties.length : Int)), (35, I (j.1 : Int))]) (fun j => [(30, (hC ho ho_rules_seats_a ho_rules_seats_c ho_parties_a ho_parties_c ho_cabins_a ho_cabins_c ho_todo_a ho_todo_c ho_jobs_a ho_jobs_c))]) (fun j => [slA 3 intL (.slice j.2.2.1 j.2.2.2.2.length j.2.2.2.1) j.2.2.2.2]) (fun j => j.1 + j.2.1.length = ho.parties.length ∧ ho.parties.drop j.1 = j.2.1 ∧ j.2.2.2.2.length ≤ j.1 ∧ j.2.2.2.2 ++ passGo ho cabin x4 j.2.1 = passGo ho cabin x4 ho.parties) (fun j => j.2.1.length) (0, ho.parties, none, 0, []) [1, 3, 7, 8, 33, 34, 35] ⟨by simp, rfl, by simp, rfl⟩ (by kernel_rfl) rfl rfl ?_)))))))))))))))
    rintro ⟨k, ys, oa, oc, out⟩ ⟨hk, hd, hv0, hv1⟩
    try dsimp only at hk hd hv0 hv1
    refine SEQ (RG (UU 1 [(36, B (decide ((k : Int) < (ho.parties.length : Int))))] (ENDOPS (NEXT (SEQ (IFK (decide ((k : Int) < (ho.parties.length : Int))) (fun bh7 => ?_) (fun bh7 => ?_)))))))
    ·
     have h7 := of_decide_eq_true bh7
     obtain ⟨y8, ys9, rfl, hx_y8, hd_y8, hl_y8⟩ := drop_cons hd hk (by omega)
     refine SKIP (NEXT (SEQ (BLOCK (SEQ (RG (OPC (IX 27 (.tmp 33) (.tmp 35) 37 0 ho_parties_a ho.parties.length ho_parties_c .i64 (k : Int) 46 10 (Rd.some hho_parties (by omega)) (by omega) (by omega) (OPC (LE 46 (.tmp 37) 38 46 ho_parties_a (k * 10) 0 (partyE y8) (.agg (partyE y8).toArray) (fun w hw => (hho_parties.fr hw.fr).flat hx_y8) (UL 2 [(10, .p 1 0)] [(30, (hC ho ho_rules_seats_a ho_rules_seats_c ho_parties_a ho_parties_c ho_cabins_a ho_cabins_c ho_todo_a ho_todo_c ho_jobs_a ho_jobs_c)), (46, partyE y8)] (ENDOPS (NEXT (SEQ (REGIONQ (by kernel_rfl) (by kernel_rfl) (QU 3 [(39, .v (.agg (hC ho ho_rules_seats_a ho_rules_seats_c ho_parties_a ho_parties_c ho_cabins_a ho_cabins_c ho_todo_a ho_todo_c ho_jobs_a ho_jobs_c).toArray)), (40, .v (.agg (partyE y8).toArray)), (41, I cabin)] (QCA 24 #[.agg (hC ho ho_rules_seats_a ho_rules_seats_c ho_parties_a ho_parties_c ho_cabins_a ho_cabins_c ho_todo_a ho_todo_c ho_jobs_a ho_jobs_c).toArray, .agg #[vi y8.id, vi y8.cabin, vi y8.from', vi y8.size, vi y8.tier, vi y8.since, vi y8.turn, vi y8.state, vi y8.until', vi y8.asked], vi cabin] (some 42) (.bool (fitsB ho cabin y8)) (fun w hw => iEligible_c w ho ho_rules_seats_a ho_rules_seats_c (hho_rules_seats.fr hw.fr) ho_parties_a ho_parties_c (hho_parties.fr hw.fr) ho_cabins_a ho_cabins_c (hho_cabins.fr hw.fr) ho_todo_a ho_todo_c (hho_todo.fr hw.fr) ho_jobs_a ho_jobs_c (hho_jobs.fr hw.fr) y8 cabin (by first | assumption | omega | (dsimp only; omega) | (simp only [List.length_append, List.length_cons, List.length_nil] at *; omega)) (by first | assumption | omega | (dsimp only; omega) | (simp only [List.length_append, List.length_cons, List.length_nil] at *; omega))) ?_))))))))))))))))
     refine QU 1 [(43, B (fitsB ho cabin y8))] (QSP 43 (fitsB ho cabin y8) (fun bh10 => ?_) (fun bh10 => ?_))
     ·
      have h10 := bh10
      refine QU 6 [(45, .v (.agg #[.slice ho_rules_seats_a ho.rules.seats.length ho_rules_seats_c, vi ho.rules.tiers, vi ho.rules.room, vi ho.rules.size, vi ho.rules.period, vi ho.rules.window, vi ho.rules.rest, vi ho.rules.tries, vi ho.rules.crew])), (46, .v (.agg (partyE y8).toArray)), (48, .v (.slice ho_parties_a ho.parties.length ho_parties_c)), (49, I (atId ho.parties id))] (QIX 27 (.tmp 48) (.tmp 49) 50 0 ho_parties_a ho.parties.length ho_parties_c .i64 (atId ho.parties id) 46 10 (Rd.some hho_parties (by omega)) (by omega) (by omega) (QLE 46 (.tmp 50) 51 46 ho_parties_a ((atId ho.parties id).toNat * 10) 0 (partyE x4) (.agg (partyE x4).toArray) (fun w hw => (hho_parties.fr hw.fr).flat hx5) (QU 2 [(53, I ho.now)] (QCA 25 #[.agg #[.slice ho_rules_seats_a ho.rules.seats.length ho_rules_seats_c, vi ho.rules.tiers, vi ho.rules.room, vi ho.rules.size, vi ho.rules.period, vi ho.rules.window, vi ho.rules.rest, vi ho.rules.tries, vi ho.rules.crew], .agg #[vi y8.id, vi y8.cabin, vi y8.from', vi y8.size, vi y8.tier, vi y8.since, vi y8.turn, vi y8.state, vi y8.until', vi y8.asked], .agg #[vi x4.id, vi x4.cabin, vi x4.from', vi x4.size, vi x4.tier, vi x4.since, vi x4.turn, vi x4.state, vi x4.until', vi x4.asked], vi ho.now] (some 54) (.bool (beforeB ho.rules y8 x4 ho.now)) (fun w hw => iBefore_c w ho.rules ho_rules_seats_a ho_rules_seats_c (hho_rules_seats.fr hw.fr) y8 x4 ho.now) (QU 1 [(55, B (beforeB ho.rules y8 x4 ho.now))] (QEND rfl (NEXT (IFK (beforeB ho.rules y8 x4 ho.now) (fun bh11 => ?_) (fun bh11 => ?_)))))))))
      ·
       have h11 := bh11
       refine RG (UU 3 [(56, .v (.slice oa out.length oc)), (58, I y8.id)] (OPC (BUILDS 24 1 #[(0, .tmp 58)] 59 24 (by kernel_rfl) (NL rfl) 3 [vi y8.id] (by kernel_rfl) intL [y8.id] rfl (by simp only [maxLen]; omega) [] [] _ rfl (flatRep rfl) (fun a12 ha13 => (OPC (APPENDO 24 (.tmp 56) (.tmp 59) 60 24 (by kernel_rfl) (NL rfl) (.slice oa out.length oc) a12 1 1 (by kernel_rfl) (by kernel_rfl) ha13 3 (by kernel_rfl) intL (vi 0) 8 (by kernel_rfl) rfl (by decide) 0 0 out ([y8.id]) _ rfl rfl (by first | omega | (simp only [List.length_append, List.length_cons, List.length_nil, List.length_take, List.length_drop] at *; omega)) (by simp only [maxLen]; first | omega | (simp only [List.length_append, List.length_cons, List.length_nil, List.length_take, List.length_drop] at *; omega)) (fun a14 c15 hn16 => (UU 1 [(8, .v (.slice a14 ((out ++ ([y8.id])).length) c15))] (ENDOPS (OUTN (NEXT (RG (UU 1 [(61, I (wr ((k : Int) + 1)))] (CS 61 (vi (wr ((k : Int) + 1))) (vi ((k + 1 : Nat) : Int)) (vi_cast (by omega) (by omega)) (UU 1 [(35, I ((k + 1 : Nat) : Int))] (ENDOPS (BK (k + 1, ys9, a14, c15, out ++ ([y8.id])) [1, 3, 7, 8, 33, 34, 35] 1 [0] ⟨hl_y8, hd_y8, (by first | (simp only [List.length_append, List.length_cons, List.length_nil]; omega) | omega | (dsimp only; omega)), (by simp_all [passGo])⟩ (by simp))))))))))))))))))
      ·
       have h11 := bh11
       refine SKIP (OUTN (NEXT (RG (UU 1 [(61, I (wr ((k : Int) + 1)))] (CS 61 (vi (wr ((k : Int) + 1))) (vi ((k + 1 : Nat) : Int)) (vi_cast (by omega) (by omega)) (UU 1 [(35, I ((k + 1 : Nat) : Int))] (ENDOPS (BK (k + 1, ys9, oa, oc, out) [1, 3, 7, 8, 33, 34, 35] 1 [0] ⟨hl_y8, hd_y8, (by first | (simp only [List.length_append, List.length_cons, List.length_nil]; omega) | omega | (dsimp only; omega)), (by simp_all [passGo])⟩ (by simp)))))))))
     ·
      have h10 := bh10
      refine QU 12 [(55, B false)] (QEND rfl (NEXT (IFF (by kernel_rfl) (SKIP (OUTN (NEXT (RG (UU 1 [(61, I (wr ((k : Int) + 1)))] (CS 61 (vi (wr ((k : Int) + 1))) (vi ((k + 1 : Nat) : Int)) (vi_cast (by omega) (by omega)) (UU 1 [(35, I ((k + 1 : Nat) : Int))] (ENDOPS (BK (k + 1, ys9, oa, oc, out) [1, 3, 7, 8, 33, 34, 35] 1 [0] ⟨hl_y8, hd_y8, (by first | (simp only [List.length_append, List.length_cons, List.length_nil]; omega) | omega | (dsimp only; omega)), (by simp_all [passGo])⟩ (by simp)))))))))))))
    ·
     have h7 := of_decide_eq_false bh7
     obtain rfl := drop_nil hk (by omega)
     refine EXIT (PASS trivial (PASS trivial (OUT (NEXT (SEQ (RG (UU 2 [(6, .v (.slice oa out.length oc))] (ENDOPS (NEXT (RET ?_))))))))))
     have efin : passed ho cabin id = out := by (first | exact passed_no (by assumption) | exact passed_neg (by assumption) | exact passed_ne hx5 (by assumption) | (rw [passed_of (by assumption) (by assumption) hx5 (by assumption), ← hv1]; simp [passGo]))
     refine FIN (.slice oa out.length oc) (by kernel_rfl) (oa, oc) ?_ [0] ?_
     · (rw [efin] <;> rfl)
     · (rw [efin] <;> rfl)

end SX
end Go.Proofs.YtcbpmjfjdjpalaaGreat
