/- Walks, printed by program. -/
import Derived.Test.YtcbpmjfjdjpalaaGreatMdlu
import Derived.Test.YtcbpmjfjdjpalaaGreatJ4
import Derived.Test.YtcbpmjfjdjpalaaGreatMdlp
namespace Go.Proofs.YtcbpmjfjdjpalaaGreat
namespace SX
open Go Go.RowKit
set_option linter.unusedVariables false
set_option linter.unusedSimpArgs false
set_option maxRecDepth 10000
set_option maxHeartbeats 400000
theorem sResting_c (W : World) (p : Party) (now : Int) : Spec Tryz.prog W [] 60 #[.agg #[vi p.id, vi p.cabin, vi p.from', vi p.size, vi p.tier, vi p.since, vi p.turn, vi p.state, vi p.until', vi p.asked], vi now] (RV (.bool (restingB p now))) := by
 refine ENTER0 (N := 14) (vs := [.agg #[vi p.id, vi p.cabin, vi p.from', vi p.size, vi p.tier, vi p.since, vi p.turn, vi p.state, vi p.until', vi p.asked], vi now]) Tryz.func60 rfl rfl (NL rfl) ?_
 refine SEQ (RG (UL 2 [(2, .p 0 0)] [(46, partyE p)] (NR (UU 4 [(8, B (p.state == 1))] (SP 8 (p.state == 1) (fun bh1 => ?_) (fun bh1 => ?_))))))
 ·
  have h1 := eq_of_beq bh1
  refine UU 6 [(4, B (decide (p.until' > now)))] (ENDOPS (NEXT (RF rfl (.bool (decide (p.until' > now))) () [] ?_ ?_)))
  · (first | (simp [RV, restingB, *]; done) | (simp_all [RV, restingB]; done))
  · rfl
 ·
  have h1 := ne_of_beq_false bh1
  refine UU 6 [(4, B false)] (ENDOPS (NEXT (RF rfl (.bool false) () [] ?_ ?_)))
  · (first | (simp [RV, restingB, *]; done) | (simp_all [RV, restingB]; done))
  · rfl

theorem sBefore_c (W : World) (r : Rules) (r_seats_a : Option Addr) (r_seats_c : Nat) (hr_seats : Rd intL W r_seats_a r.seats) (a : Party) (b : Party) (now : Int) : Spec Tryz.prog W [] 29 #[.agg #[.slice r_seats_a r.seats.length r_seats_c, vi r.tiers, vi r.room, vi r.size, vi r.period, vi r.window, vi r.rest, vi r.tries, vi r.crew], .agg #[vi a.id, vi a.cabin, vi a.from', vi a.size, vi a.tier, vi a.since, vi a.turn, vi a.state, vi a.until', vi a.asked], .agg #[vi b.id, vi b.cabin, vi b.from', vi b.size, vi b.tier, vi b.since, vi b.turn, vi b.state, vi b.until', vi b.asked], vi now] (RV (.bool (beforeB r a b now))) := by
 refine ENTER0 (N := 42) (vs := [.agg #[.slice r_seats_a r.seats.length r_seats_c, vi r.tiers, vi r.room, vi r.size, vi r.period, vi r.window, vi r.rest, vi r.tries, vi r.crew], .agg #[vi a.id, vi a.cabin, vi a.from', vi a.size, vi a.tier, vi a.since, vi a.turn, vi a.state, vi a.until', vi a.asked], .agg #[vi b.id, vi b.cabin, vi b.from', vi b.size, vi b.tier, vi b.since, vi b.turn, vi b.state, vi b.until', vi b.asked], vi now]) Tryz.func29 rfl rfl (NL rfl) ?_
 have hr_seats_len := hr_seats.len
 refine SEQ (RG (UL 4 [(4, .p 0 0), (5, .p 1 0), (6, .p 2 0)] [(26, [.slice r_seats_a r.seats.length r_seats_c, vi r.tiers, vi r.room, vi r.size, vi r.period, vi r.window, vi r.rest, vi r.tries, vi r.crew]), (46, partyE a), (46, partyE b)] (NR (UU 3 [(11, .v (.agg #[.slice r_seats_a r.seats.length r_seats_c, vi r.tiers, vi r.room, vi r.size, vi r.period, vi r.window, vi r.rest, vi r.tries, vi r.crew])), (12, .v (.agg (partyE a).toArray)), (13, I now)] (OPC (CA 61 #[.agg #[.slice r_seats_a r.seats.length r_seats_c, vi r.tiers, vi r.room, vi r.size, vi r.period, vi r.window, vi r.rest, vi r.tries, vi r.crew], .agg #[vi a.id, vi a.cabin, vi a.from', vi a.size, vi a.tier, vi a.since, vi a.turn, vi a.state, vi a.until', vi a.asked], vi now] (some 14) (RV (vi (levelOf r a now))) (fun w hw => sLevelOf_c w r r_seats_a r_seats_c (hr_seats.fr hw.fr) a now) ?_))))))
 rintro ⟨⟩
 refine UU 1 [(9, I (levelOf r a now))] (NR (UU 3 [(15, .v (.agg #[.slice r_seats_a r.seats.length r_seats_c, vi r.tiers, vi r.room, vi r.size, vi r.period, vi r.window, vi r.rest, vi r.tries, vi r.crew])), (16, .v (.agg (partyE b).toArray)), (17, I now)] (OPC (CA 61 #[.agg #[.slice r_seats_a r.seats.length r_seats_c, vi r.tiers, vi r.room, vi r.size, vi r.period, vi r.window, vi r.rest, vi r.tries, vi r.crew], .agg #[vi b.id, vi b.cabin, vi b.from', vi b.size, vi b.tier, vi b.since, vi b.turn, vi b.state, vi b.until', vi b.asked], vi now] (some 18) (RV (vi (levelOf r b now))) (fun w hw => sLevelOf_c w r r_seats_a r_seats_c (hr_seats.fr hw.fr) b now) ?_))))
 rintro ⟨⟩
 refine UU 1 [(10, I (levelOf r b now))] (NR (UU 3 [(21, B (decide ((levelOf r a now) ≥ 0)))] (SP 21 (decide ((levelOf r a now) ≥ 0)) (fun bh1 => ?_) (fun bh1 => ?_))))
 ·
  have h1 := of_decide_eq_true bh1
  refine UU 4 [(25, B (decide ((levelOf r b now) ≥ 0)))] (SP 25 (decide ((levelOf r b now) ≥ 0)) (fun bh2 => ?_) (fun bh2 => ?_))
  ·
   have h2 := of_decide_eq_true bh2
   refine UU 4 [(29, B (decide ((levelOf r a now) < (levelOf r b now))))] (SP 29 (decide ((levelOf r a now) < (levelOf r b now))) (fun bh3 => ?_) (fun bh3 => ?_))
   ·
    have h3 := of_decide_eq_true bh3
    refine UU 13 [(8, B true)] (ENDOPS (NEXT (RF rfl (.bool true) () [] ?_ ?_)))
    · (first | (simp [RV, beforeB, *]; done) | (simp_all [RV, beforeB]; done))
    · rfl
   ·
    have h3 := of_decide_eq_false bh3
    refine UU 4 [(33, B ((levelOf r a now) == (levelOf r b now)))] (SP 33 ((levelOf r a now) == (levelOf r b now)) (fun bh4 => ?_) (fun bh4 => ?_))
    ·
     have h4 := eq_of_beq bh4
     refine UU 9 [(8, B (decide (a.turn < b.turn)))] (ENDOPS (NEXT (RF rfl (.bool (decide (a.turn < b.turn))) () [] ?_ ?_)))
     · (first | (simp [RV, beforeB, *]; done) | (simp_all [RV, beforeB]; done))
     · rfl
    ·
     have h4 := ne_of_beq_false bh4
     refine UU 9 [(8, B false)] (ENDOPS (NEXT (RF rfl (.bool false) () [] ?_ ?_)))
     · (first | (simp [RV, beforeB, *]; done) | (simp_all [RV, beforeB]; done))
     · rfl
  ·
   have h2 := of_decide_eq_false bh2
   refine UU 17 [(8, B false)] (ENDOPS (NEXT (RF rfl (.bool false) () [] ?_ ?_)))
   · (first | (simp [RV, beforeB, *]; done) | (simp_all [RV, beforeB]; done))
   · rfl
 ·
  have h1 := of_decide_eq_false bh1
  refine UU 21 [(8, B false)] (ENDOPS (NEXT (RF rfl (.bool false) () [] ?_ ?_)))
  · (first | (simp [RV, beforeB, *]; done) | (simp_all [RV, beforeB]; done))
  · rfl

theorem s25Fits_c (W : World) (ho : House) (ho_rules_seats_a : Option Addr) (ho_rules_seats_c : Nat) (hho_rules_seats : Rd intL W ho_rules_seats_a ho.rules.seats) (ho_parties_a : Option Addr) (ho_parties_c : Nat) (hho_parties : Rd partyL W ho_parties_a ho.parties) (ho_cabins_a : Option Addr) (ho_cabins_c : Nat) (hho_cabins : Rd (cabinLx 63 99 114) W ho_cabins_a ho.cabins) (ho_todo_a : Option Addr) (ho_todo_c : Nat) (hho_todo : Rd intL W ho_todo_a ho.todo) (ho_jobs_a : Option Addr) (ho_jobs_c : Nat) (hho_jobs : Rd intL W ho_jobs_a ho.jobs) (cabin : Int) (p : Party) (hc0 : 0 ≤ cabin) (hc1 : cabin < (ho.cabins.length : Int)) : Spec Tryz.prog W [] 28 #[.agg (hC ho ho_rules_seats_a ho_rules_seats_c ho_parties_a ho_parties_c ho_cabins_a ho_cabins_c ho_todo_a ho_todo_c ho_jobs_a ho_jobs_c).toArray, vi cabin, .agg #[vi p.id, vi p.cabin, vi p.from', vi p.size, vi p.tier, vi p.since, vi p.turn, vi p.state, vi p.until', vi p.asked]] (RV (.bool (fitsB ho cabin p))) := by
 refine ENTER0 (N := 35) (vs := [.agg (hC ho ho_rules_seats_a ho_rules_seats_c ho_parties_a ho_parties_c ho_cabins_a ho_cabins_c ho_todo_a ho_todo_c ho_jobs_a ho_jobs_c).toArray, vi cabin, .agg #[vi p.id, vi p.cabin, vi p.from', vi p.size, vi p.tier, vi p.since, vi p.turn, vi p.state, vi p.until', vi p.asked]]) Tryz.func28 rfl rfl (NL rfl) ?_
 have hho_rules_seats_len := hho_rules_seats.len
 have hho_parties_len := hho_parties.len
 have hho_cabins_len := hho_cabins.len
 have hho_todo_len := hho_todo.len
 have hho_jobs_len := hho_jobs.len
 refine SEQ (RG (UL 3 [(3, .p 0 0), (5, .p 1 0)] [(30, (hC ho ho_rules_seats_a ho_rules_seats_c ho_parties_a ho_parties_c ho_cabins_a ho_cabins_c ho_todo_a ho_todo_c ho_jobs_a ho_jobs_c)), (46, partyE p)] (ENDOPS (NEXT (SEQ (REGIONQ (by kernel_rfl) (by kernel_rfl) (QU 5 [(11, B (p.cabin == cabin))] (QSP 11 (p.cabin == cabin) (fun bh1 => ?_) (fun bh1 => ?_)))))))))
 ·
  have h1 := eq_of_beq bh1
  refine QU 5 [(16, B (p.state == 1))] (QSP 16 (p.state == 1) (fun bh2 => ?_) (fun bh2 => ?_))
  ·
   have h2 := eq_of_beq bh2
   refine QU 3 [(17, .v (.agg (partyE p).toArray)), (19, I ho.now)] (QCA 60 #[.agg #[vi p.id, vi p.cabin, vi p.from', vi p.size, vi p.tier, vi p.since, vi p.turn, vi p.state, vi p.until', vi p.asked], vi ho.now] (some 20) (.bool (restingB p ho.now)) (fun w hw => sResting_c w p ho.now) (QU 3 [(23, B (!(restingB p ho.now)))] (QSP 23 (!(restingB p ho.now)) (fun bh3 => ?_) (fun bh3 => ?_))))
   ·
    have h3 := notT bh3
    refine QU 5 [(25, I p.size), (27, .v (.slice ho_cabins_a ho.cabins.length ho_cabins_c)), (28, I cabin)] ?_
    obtain ⟨x4, hx5⟩ : ∃ y, ho.cabins[cabin.toNat]? = some y := ⟨_, List.getElem?_eq_getElem (by omega)⟩
    obtain ⟨a6, c7, a9, c10, hel12, hi8, hi11, hi8_cap, hi11_cap⟩ := cabin_view hho_cabins hx5
    have hi8_len := hi8.len
    have hi11_len := hi11.len
    refine QIX 28 (.tmp 27) (.tmp 28) 29 0 ho_cabins_a ho.cabins.length ho_cabins_c .i64 cabin 60 7 (Rd.some hho_cabins (by omega)) (by omega) (by omega) (QU 2 [(31, .e ho_cabins_a (cabin.toNat * 7) 1)] (QLE 3 (.tmp 31) 32 3 ho_cabins_a (cabin.toNat * 7) 1 ([vi x4.seats.total, vi x4.seats.free, vi x4.seats.held, vi x4.seats.sold, vi x4.seats.tied, .slice a6 x4.row.length c7, .slice a9 x4.wheel.spoke.length c10]) (vi x4.seats.free) (fun w hw => hel12.fr hw.fr) (QU 3 [(6, B (decide (p.size ≤ x4.seats.free)))] (QEND rfl (NEXT (RF rfl (.bool (decide (p.size ≤ x4.seats.free))) () [] ?_ ?_))))))
    · (have hfr := freeAt_of hx5; first | (simp [RV, fitsB, *]; done) | (simp_all [RV, fitsB]; done))
    · rfl
   ·
    have h3 := notF bh3
    refine QU 12 [(6, B false)] (QEND rfl (NEXT (RF rfl (.bool false) () [] ?_ ?_)))
    · (first | (simp [RV, fitsB, *]; done) | (simp_all [RV, fitsB]; done))
    · rfl
  ·
   have h2 := ne_of_beq_false bh2
   refine QU 19 [(6, B false)] (QEND rfl (NEXT (RF rfl (.bool false) () [] ?_ ?_)))
   · (first | (simp [RV, fitsB, *]; done) | (simp_all [RV, fitsB]; done))
   · rfl
 ·
  have h1 := ne_of_beq_false bh1
  refine QU 24 [(6, B false)] (QEND rfl (NEXT (RF rfl (.bool false) () [] ?_ ?_)))
  · (first | (simp [RV, fitsB, *]; done) | (simp_all [RV, fitsB]; done))
  · rfl

theorem s11At_c (W : World) (list : List Party) (list_a : Option Addr) (list_c : Nat) (hlist : Rd partyL W list_a list) (id : Int) : Spec Tryz.prog W [] 59 #[.slice list_a list.length list_c, vi id] (RV (vi (atId list id))) := by
 refine ENTER0 (N := 20) (vs := [.slice list_a list.length list_c, vi id]) Tryz.func59 rfl rfl (NL rfl) ?_
 have hlist_len := hlist.len
 refine SEQ (RG (UU 1 [] (ENDOPS (NEXT (SEQ (SEQ (RG (UU 1 [(5, I 0)] (ENDOPS (NEXT (BLOCK (LOOP (ι := Nat × (List Party)) (fun j => [(0, .v (.slice list_a list.length list_c)), (1, I id), (5, I (j.1 : Int))]) (fun j => []) (fun j => []) (fun j => j.1 + j.2.length = list.length ∧ list.drop j.1 = j.2 ∧ atId list id = idxF (fun e : Party => e.id == id) j.2 j.1) (fun j => j.2.length) (0, list) [0, 1, 5] ⟨by simp, rfl, rfl⟩ (by kernel_rfl) rfl rfl ?_))))))))))))
 rintro ⟨k, ys⟩ ⟨hk, hd, hv0⟩
 try dsimp only at hk hd hv0
 refine SEQ (SEQ (RG (UU 4 [(9, B (decide ((k : Int) < (list.length : Int))))] (NI (decide ((k : Int) < (list.length : Int))) (fun bh1 => ?_) (fun bh1 => ?_)))))
 ·
  have h1 := of_decide_eq_true bh1
  obtain ⟨y2, ys3, rfl, hx_y2, hd_y2, hl_y2⟩ := drop_cons hd hk (by omega)
  refine SKIP (NEXT (SEQ (BLOCK (SEQ (RG (UU 2 [(12, .v (.slice list_a list.length list_c)), (13, I (k : Int))] (OPC (IX 27 (.tmp 12) (.tmp 13) 14 0 list_a list.length list_c .i64 (k : Int) 46 10 (Rd.some hlist (by omega)) (by omega) (by omega) (UU 1 [(15, .e list_a (k * 10) 0)] (OPC (LE 3 (.tmp 15) 16 3 list_a (k * 10) 0 (partyE y2) (vi y2.id) (fun w hw => (hlist.fr hw.fr).flat hx_y2) (UU 2 [(18, B (y2.id == id))] (NI (y2.id == id) (fun bh4 => ?_) (fun bh4 => ?_))))))))))))))
  ·
   have h4 := eq_of_beq bh4
   refine SEQ (RG (UU 2 [(4, I (k : Int))] (ENDOPS (NEXT (RF rfl (vi (k : Int)) () [] ?_ ?_)))))
   · (simp_all [RV, idxF])
   · rfl
  ·
   have h4 := ne_of_beq_false bh4
   refine SKIP (OUTN (NEXT (RG (UU 2 [(11, I (wr ((k : Int) + 1)))] (CS 11 (vi (wr ((k : Int) + 1))) (vi ((k + 1 : Nat) : Int)) (vi_cast (by omega) (by omega)) (UU 1 [(5, I ((k + 1 : Nat) : Int))] (ENDOPS (BK (k + 1, ys3) [0, 1, 5] 0 [] ⟨hl_y2, hd_y2, (hv0.trans (by simp_all [idxF]))⟩ (by simp)))))))))
 ·
  have h1 := of_decide_eq_false bh1
  obtain rfl := drop_nil hk (by omega)
  refine EXIT (PASS trivial (PASS trivial (OUT (NEXT (SEQ (RG (UU 1 [(4, I (-1))] (ENDOPS (NEXT (RF rfl (vi (-1)) () [] ?_ ?_))))))))))
  · (simp_all [RV, idxF])
  · rfl

theorem sPartyAt_c (W : World) (ho : House) (ho_rules_seats_a : Option Addr) (ho_rules_seats_c : Nat) (hho_rules_seats : Rd intL W ho_rules_seats_a ho.rules.seats) (ho_parties_a : Option Addr) (ho_parties_c : Nat) (hho_parties : Rd partyL W ho_parties_a ho.parties) (ho_cabins_a : Option Addr) (ho_cabins_c : Nat) (hho_cabins : Rd (cabinLx 63 99 114) W ho_cabins_a ho.cabins) (ho_todo_a : Option Addr) (ho_todo_c : Nat) (hho_todo : Rd intL W ho_todo_a ho.todo) (ho_jobs_a : Option Addr) (ho_jobs_c : Nat) (hho_jobs : Rd intL W ho_jobs_a ho.jobs) (id : Int) : Spec Tryz.prog W [] 26 #[.agg (hC ho ho_rules_seats_a ho_rules_seats_c ho_parties_a ho_parties_c ho_cabins_a ho_cabins_c ho_todo_a ho_todo_c ho_jobs_a ho_jobs_c).toArray, vi id] (RV (vi (atId ho.parties id))) := by
 refine ENTER0 (N := 9) (vs := [.agg (hC ho ho_rules_seats_a ho_rules_seats_c ho_parties_a ho_parties_c ho_cabins_a ho_cabins_c ho_todo_a ho_todo_c ho_jobs_a ho_jobs_c).toArray, vi id]) Tryz.func26 rfl rfl (NL rfl) ?_
 have hho_rules_seats_len := hho_rules_seats.len
 have hho_parties_len := hho_parties.len
 have hho_cabins_len := hho_cabins.len
 have hho_todo_len := hho_todo.len
 have hho_jobs_len := hho_jobs.len
 refine SEQ (RG (UL 2 [(2, .p 0 0)] [(30, (hC ho ho_rules_seats_a ho_rules_seats_c ho_parties_a ho_parties_c ho_cabins_a ho_cabins_c ho_todo_a ho_todo_c ho_jobs_a ho_jobs_c))] (NR (UU 3 [(6, .v (.slice ho_parties_a ho.parties.length ho_parties_c)), (7, I id)] (OPC (CA 59 #[.slice ho_parties_a ho.parties.length ho_parties_c, vi id] (some 8) (RV (vi (atId ho.parties id))) (fun w hw => s11At_c w ho.parties ho_parties_a ho_parties_c (hho_parties.fr hw.fr) id) ?_))))))
 rintro ⟨⟩
 refine UU 1 [(4, I (atId ho.parties id))] (ENDOPS (NEXT (RF rfl (vi (atId ho.parties id)) () [] ?_ ?_)))
 · rfl
 · rfl

theorem sPassed_c (W : World) (ho : House) (ho_rules_seats_a : Option Addr) (ho_rules_seats_c : Nat) (hho_rules_seats : Rd intL W ho_rules_seats_a ho.rules.seats) (ho_parties_a : Option Addr) (ho_parties_c : Nat) (hho_parties : Rd partyL W ho_parties_a ho.parties) (ho_cabins_a : Option Addr) (ho_cabins_c : Nat) (hho_cabins : Rd (cabinLx 63 99 114) W ho_cabins_a ho.cabins) (ho_todo_a : Option Addr) (ho_todo_c : Nat) (hho_todo : Rd intL W ho_todo_a ho.todo) (ho_jobs_a : Option Addr) (ho_jobs_c : Nat) (hho_jobs : Rd intL W ho_jobs_a ho.jobs) (cabin : Int) (id : Int) (hsz : HouseSz ho) (hcp : ho.parties.length ≤ ho_parties_c) (hct : ho.todo.length ≤ ho_todo_c) : Spec Tryz.prog W [] 9 #[.agg (hC ho ho_rules_seats_a ho_rules_seats_c ho_parties_a ho_parties_c ho_cabins_a ho_cabins_c ho_todo_a ho_todo_c ho_jobs_a ho_jobs_c).toArray, vi cabin, vi id] (⟨HH, fun p => .slice p.1 ((passed ho cabin id).length) p.2, fun p => [slA 3 intL (.slice p.1 (passed ho cabin id).length p.2) (passed ho cabin id)]⟩) := by
 refine ENTER0 (N := 75) (vs := [.agg (hC ho ho_rules_seats_a ho_rules_seats_c ho_parties_a ho_parties_c ho_cabins_a ho_cabins_c ho_todo_a ho_todo_c ho_jobs_a ho_jobs_c).toArray, vi cabin, vi id]) Tryz.func9 rfl rfl (NL rfl) ?_
 have hs9 := hsz.1; have hs8 := hsz.2.1; have hs7 := hsz.2.2.1; have hs6 := hsz.2.2.2.1; have hs5 := hsz.2.2.2.2.1; have hs4 := hsz.2.2.2.2.2
 have hho_rules_seats_len := hho_rules_seats.len
 have hho_parties_len := hho_parties.len
 have hho_cabins_len := hho_cabins.len
 have hho_todo_len := hho_todo.len
 have hho_jobs_len := hho_jobs.len
 refine SEQ (RG (UL 2 [(3, .p 0 0)] [(30, (hC ho ho_rules_seats_a ho_rules_seats_c ho_parties_a ho_parties_c ho_cabins_a ho_cabins_c ho_todo_a ho_todo_c ho_jobs_a ho_jobs_c))] (NR (OPC (BUILDS 24 0 #[] 10 24 (by kernel_rfl) (NL rfl) 3 [] (by kernel_rfl) intL [] rfl (by simp only [maxLen]; omega) [] [] _ rfl (flatRep rfl) (fun a1 ha2 => (UU 1 [(7, .v (.slice a1 0 0))] (NR (UU 2 [(11, .v (.agg (hC ho ho_rules_seats_a ho_rules_seats_c ho_parties_a ho_parties_c ho_cabins_a ho_cabins_c ho_todo_a ho_todo_c ho_jobs_a ho_jobs_c).toArray)), (12, I id)] (OPC (CA 26 #[.agg (hC ho ho_rules_seats_a ho_rules_seats_c ho_parties_a ho_parties_c ho_cabins_a ho_cabins_c ho_todo_a ho_todo_c ho_jobs_a ho_jobs_c).toArray, vi id] (some 13) (RV (vi (atId ho.parties id))) (fun w hw => sPartyAt_c w ho ho_rules_seats_a ho_rules_seats_c (hho_rules_seats.fr hw.fr) ho_parties_a ho_parties_c (hho_parties.fr hw.fr) ho_cabins_a ho_cabins_c (hho_cabins.fr hw.fr) ho_todo_a ho_todo_c (hho_todo.fr hw.fr) ho_jobs_a ho_jobs_c (hho_jobs.fr hw.fr) id) ?_)))))))))))
 rintro ⟨⟩
 have hr3 := atId_lt ho.parties id
 refine UU 1 [(8, I (atId ho.parties id))] (ENDOPS (NEXT (SEQ (SEQ (RG (UU 2 [(14, .v (.agg (hC ho ho_rules_seats_a ho_rules_seats_c ho_parties_a ho_parties_c ho_cabins_a ho_cabins_c ho_todo_a ho_todo_c ho_jobs_a ho_jobs_c).toArray)), (15, I cabin)] (OPC (CA 27 #[.agg (hC ho ho_rules_seats_a ho_rules_seats_c ho_parties_a ho_parties_c ho_cabins_a ho_cabins_c ho_todo_a ho_todo_c ho_jobs_a ho_jobs_c).toArray, vi cabin] (some 16) (RV (.bool (hasCab ho cabin))) (fun w hw => s15Ok_c w ho ho_rules_seats_a ho_rules_seats_c (hho_rules_seats.fr hw.fr) ho_parties_a ho_parties_c (hho_parties.fr hw.fr) ho_cabins_a ho_cabins_c (hho_cabins.fr hw.fr) ho_todo_a ho_todo_c (hho_todo.fr hw.fr) ho_jobs_a ho_jobs_c (hho_jobs.fr hw.fr) cabin (by assumption) (by first | assumption | omega | (dsimp only; omega) | (simp only [List.length_append, List.length_cons, List.length_nil] at *; omega)) (by first | assumption | omega | (dsimp only; omega) | (simp only [List.length_append, List.length_cons, List.length_nil] at *; omega))) ?_))))))))
 rintro ⟨⟩
 refine UU 2 [(18, B (!(hasCab ho cabin)))] (SP 18 (!(hasCab ho cabin)) (fun bh4 => ?_) (fun bh4 => ?_))
 ·
  have h4 := notT bh4
  refine UU 13 [(31, B true)] (ENDOPS (NEXT (IFT (by kernel_rfl) (SEQ (RG (UU 2 [(6, .v (.slice a1 0 0))] (ENDOPS (NEXT (RET (PASS trivial ?_))))))))))
  have efin : passed ho cabin id = [] := by (first | exact passed_no (by assumption) | exact passed_neg (by assumption))
  refine FIN (.slice a1 0 0) (by kernel_rfl) (a1, 0) ?_ [0] ?_
  · (rw [efin] <;> rfl)
  · (rw [efin] <;> rfl)
 ·
  have h4 := notF bh4
  have hcb := hasCab_in h4
  refine UU 4 [(22, B (decide ((atId ho.parties id) < 0)))] (SP 22 (decide ((atId ho.parties id) < 0)) (fun bh5 => ?_) (fun bh5 => ?_))
  ·
   have h5 := of_decide_eq_true bh5
   refine UU 9 [(31, B true)] (ENDOPS (NEXT (IFT (by kernel_rfl) (SEQ (RG (UU 2 [(6, .v (.slice a1 0 0))] (ENDOPS (NEXT (RET (PASS trivial ?_))))))))))
   have efin : passed ho cabin id = [] := by (first | exact passed_no (by assumption) | exact passed_neg (by assumption))
   refine FIN (.slice a1 0 0) (by kernel_rfl) (a1, 0) ?_ [0] ?_
   · (rw [efin] <;> rfl)
   · (rw [efin] <;> rfl)
  ·
   have h5 := of_decide_eq_false bh5
   refine UU 3 [(24, .v (.slice ho_parties_a ho.parties.length ho_parties_c)), (25, I (atId ho.parties id))] ?_
   obtain ⟨x6, hx7⟩ : ∃ y, ho.parties[(atId ho.parties id).toNat]? = some y := ⟨_, List.getElem?_eq_getElem (by omega)⟩
   refine OPC (IX 27 (.tmp 24) (.tmp 25) 26 0 ho_parties_a ho.parties.length ho_parties_c .i64 (atId ho.parties id) 46 10 (Rd.some hho_parties (by omega)) (by omega) (by omega) (UU 1 [(27, .e ho_parties_a ((atId ho.parties id).toNat * 10) 1)] (OPC (LE 3 (.tmp 27) 28 3 ho_parties_a ((atId ho.parties id).toNat * 10) 1 (partyE x6) (vi x6.cabin) (fun w hw => (hho_parties.fr hw.fr).flat hx7) (UU 3 [(31, B (x6.cabin != cabin))] (NI (x6.cabin != cabin) (fun bh8 => ?_) (fun bh8 => ?_)))))))
   ·
    have h8 := bne_iff_ne.1 bh8
    refine SEQ (RG (UU 2 [(6, .v (.slice a1 0 0))] (ENDOPS (NEXT (RET (PASS trivial ?_))))))
    have efin : passed ho cabin id = [] := by (first | exact passed_no (by assumption) | exact passed_neg (by assumption) | exact passed_ne hx7 (by assumption) | (rw [passed_of (by assumption) (by assumption) hx7 (by assumption), ← hv1]; simp [passGo]))
    refine FIN (.slice a1 0 0) (by kernel_rfl) (a1, 0) ?_ [0] ?_
    · (rw [efin] <;> rfl)
    · (rw [efin] <;> rfl)
   ·
    have h8 := bneF bh8
    refine SKIP (NEXT (SEQ (SEQ (RG (UU 1 [(9, I 0)] (ENDOPS (NEXT (BLOCK (LOOP (ι := Nat × (List Party) × (Option Addr) × Nat × (List Int)) (fun j => [(1, I cabin), (3, .p 0 0), (7, .v (.slice j.2.2.1 j.2.2.2.2.length j.2.2.2.1)), (8, I (atId ho.parties id)), (9, I (j.1 : Int))]) (fun j => [(30, (hC ho ho_rules_seats_a ho_rules_seats_c ho_parties_a ho_parties_c ho_cabins_a ho_cabins_c ho_todo_a ho_todo_c ho_jobs_a ho_jobs_c))]) (fun j => [slA 3 intL (.slice j.2.2.1 j.2.2.2.2.length j.2.2.2.1) j.2.2.2.2]) (fun j => j.1 + j.2.1.length = ho.parties.length ∧ ho.parties.drop j.1 = j.2.1 ∧ j.2.2.2.2.length ≤ j.1 ∧ j.2.2.2.2 ++ passGo ho cabin x6 j.2.1 = passGo ho cabin x6 ho.parties) (fun j => j.2.1.length) (0, ho.parties, a1, 0, []) [1, 3, 7, 8, 9] ⟨by simp, rfl, by simp, rfl⟩ (by kernel_rfl) rfl rfl ?_)))))))))
    rintro ⟨k, ys, oa, oc, out⟩ ⟨hk, hd, hv0, hv1⟩
    try dsimp only at hk hd hv0 hv1
    refine SEQ (SEQ (RG (UU 5 [(37, B (decide ((k : Int) < (ho.parties.length : Int))))] (NI (decide ((k : Int) < (ho.parties.length : Int))) (fun bh9 => ?_) (fun bh9 => ?_)))))
    ·
     have h9 := of_decide_eq_true bh9
     obtain ⟨y10, ys11, rfl, hx_y10, hd_y10, hl_y10⟩ := drop_cons hd hk (by omega)
     refine SKIP (NEXT (SEQ (BLOCK (SEQ (REGIONQ (by kernel_rfl) (by kernel_rfl) (QU 5 [(40, .v (.agg (hC ho ho_rules_seats_a ho_rules_seats_c ho_parties_a ho_parties_c ho_cabins_a ho_cabins_c ho_todo_a ho_todo_c ho_jobs_a ho_jobs_c).toArray)), (41, I cabin), (43, .v (.slice ho_parties_a ho.parties.length ho_parties_c)), (44, I (k : Int))] (QIX 27 (.tmp 43) (.tmp 44) 45 0 ho_parties_a ho.parties.length ho_parties_c .i64 (k : Int) 46 10 (Rd.some hho_parties (by omega)) (by omega) (by omega) (QLE 46 (.tmp 45) 46 46 ho_parties_a (k * 10) 0 (partyE y10) (.agg (partyE y10).toArray) (fun w hw => (hho_parties.fr hw.fr).flat hx_y10) (QCA 28 #[.agg (hC ho ho_rules_seats_a ho_rules_seats_c ho_parties_a ho_parties_c ho_cabins_a ho_cabins_c ho_todo_a ho_todo_c ho_jobs_a ho_jobs_c).toArray, vi cabin, .agg #[vi y10.id, vi y10.cabin, vi y10.from', vi y10.size, vi y10.tier, vi y10.since, vi y10.turn, vi y10.state, vi y10.until', vi y10.asked]] (some 47) (.bool (fitsB ho cabin y10)) (fun w hw => s25Fits_c w ho ho_rules_seats_a ho_rules_seats_c (hho_rules_seats.fr hw.fr) ho_parties_a ho_parties_c (hho_parties.fr hw.fr) ho_cabins_a ho_cabins_c (hho_cabins.fr hw.fr) ho_todo_a ho_todo_c (hho_todo.fr hw.fr) ho_jobs_a ho_jobs_c (hho_jobs.fr hw.fr) cabin y10 (by first | assumption | omega | (dsimp only; omega) | (simp only [List.length_append, List.length_cons, List.length_nil] at *; omega)) (by first | assumption | omega | (dsimp only; omega) | (simp only [List.length_append, List.length_cons, List.length_nil] at *; omega))) ?_)))))))))
     refine QU 1 [(48, B (fitsB ho cabin y10))] (QSP 48 (fitsB ho cabin y10) (fun bh12 => ?_) (fun bh12 => ?_))
     ·
      have h12 := bh12
      refine QU 5 [(50, .v (.agg #[.slice ho_rules_seats_a ho.rules.seats.length ho_rules_seats_c, vi ho.rules.tiers, vi ho.rules.room, vi ho.rules.size, vi ho.rules.period, vi ho.rules.window, vi ho.rules.rest, vi ho.rules.tries, vi ho.rules.crew])), (52, .v (.slice ho_parties_a ho.parties.length ho_parties_c)), (53, I (k : Int))] (QIX 27 (.tmp 52) (.tmp 53) 54 0 ho_parties_a ho.parties.length ho_parties_c .i64 (k : Int) 46 10 (Rd.some hho_parties (by omega)) (by omega) (by omega) (QLE 46 (.tmp 54) 55 46 ho_parties_a (k * 10) 0 (partyE y10) (.agg (partyE y10).toArray) (fun w hw => (hho_parties.fr hw.fr).flat hx_y10) (QU 3 [(57, .v (.slice ho_parties_a ho.parties.length ho_parties_c)), (58, I (atId ho.parties id))] (QIX 27 (.tmp 57) (.tmp 58) 59 0 ho_parties_a ho.parties.length ho_parties_c .i64 (atId ho.parties id) 46 10 (Rd.some hho_parties (by omega)) (by omega) (by omega) (QLE 46 (.tmp 59) 60 46 ho_parties_a ((atId ho.parties id).toNat * 10) 0 (partyE x6) (.agg (partyE x6).toArray) (fun w hw => (hho_parties.fr hw.fr).flat hx7) (QU 2 [(62, I ho.now)] (QCA 29 #[.agg #[.slice ho_rules_seats_a ho.rules.seats.length ho_rules_seats_c, vi ho.rules.tiers, vi ho.rules.room, vi ho.rules.size, vi ho.rules.period, vi ho.rules.window, vi ho.rules.rest, vi ho.rules.tries, vi ho.rules.crew], .agg #[vi y10.id, vi y10.cabin, vi y10.from', vi y10.size, vi y10.tier, vi y10.since, vi y10.turn, vi y10.state, vi y10.until', vi y10.asked], .agg #[vi x6.id, vi x6.cabin, vi x6.from', vi x6.size, vi x6.tier, vi x6.since, vi x6.turn, vi x6.state, vi x6.until', vi x6.asked], vi ho.now] (some 63) (.bool (beforeB ho.rules y10 x6 ho.now)) (fun w hw => sBefore_c w ho.rules ho_rules_seats_a ho_rules_seats_c (hho_rules_seats.fr hw.fr) y10 x6 ho.now) ?_)))))))
      refine QU 1 [(64, B (beforeB ho.rules y10 x6 ho.now))] (QEND rfl (NEXT (IFK (beforeB ho.rules y10 x6 ho.now) (fun bh13 => ?_) (fun bh13 => ?_))))
      ·
       have h13 := bh13
       refine RG (UU 4 [(65, .v (.slice oa out.length oc)), (67, .v (.slice ho_parties_a ho.parties.length ho_parties_c)), (68, I (k : Int))] (OPC (IX 27 (.tmp 67) (.tmp 68) 69 0 ho_parties_a ho.parties.length ho_parties_c .i64 (k : Int) 46 10 (Rd.some hho_parties (by omega)) (by omega) (by omega) (UU 1 [(70, .e ho_parties_a (k * 10) 0)] (OPC (LE 3 (.tmp 70) 71 3 ho_parties_a (k * 10) 0 (partyE y10) (vi y10.id) (fun w hw => (hho_parties.fr hw.fr).flat hx_y10) (OPC (BUILDS 24 1 #[(0, .tmp 71)] 72 24 (by kernel_rfl) (NL rfl) 3 [vi y10.id] (by kernel_rfl) intL [y10.id] rfl (by simp only [maxLen]; omega) [] [] _ rfl (flatRep rfl) (fun a14 ha15 => (OPC (APPENDO 24 (.tmp 65) (.tmp 72) 73 24 (by kernel_rfl) (NL rfl) (.slice oa out.length oc) a14 1 1 (by kernel_rfl) (by kernel_rfl) ha15 3 (by kernel_rfl) intL (vi 0) 8 (by kernel_rfl) rfl (by decide) 0 0 out ([y10.id]) _ rfl rfl (by first | omega | (simp only [List.length_append, List.length_cons, List.length_nil, List.length_take, List.length_drop] at *; omega)) (by simp only [maxLen]; first | omega | (simp only [List.length_append, List.length_cons, List.length_nil, List.length_take, List.length_drop] at *; omega)) (fun a16 c17 hn18 => (UU 1 [(7, .v (.slice a16 ((out ++ ([y10.id])).length) c17))] (ENDOPS (OUTN (NEXT (RG (UU 2 [(39, I (wr ((k : Int) + 1)))] (CS 39 (vi (wr ((k : Int) + 1))) (vi ((k + 1 : Nat) : Int)) (vi_cast (by omega) (by omega)) (UU 1 [(9, I ((k + 1 : Nat) : Int))] (ENDOPS (BK (k + 1, ys11, a16, c17, out ++ ([y10.id])) [1, 3, 7, 8, 9] 1 [0] ⟨hl_y10, hd_y10, (by first | (simp only [List.length_append, List.length_cons, List.length_nil]; omega) | omega | (dsimp only; omega)), (by simp_all [passGo])⟩ (by simp)))))))))))))))))))))))
      ·
       have h13 := bh13
       refine SKIP (OUTN (NEXT (RG (UU 2 [(39, I (wr ((k : Int) + 1)))] (CS 39 (vi (wr ((k : Int) + 1))) (vi ((k + 1 : Nat) : Int)) (vi_cast (by omega) (by omega)) (UU 1 [(9, I ((k + 1 : Nat) : Int))] (ENDOPS (BK (k + 1, ys11, oa, oc, out) [1, 3, 7, 8, 9] 1 [0] ⟨hl_y10, hd_y10, (by first | (simp only [List.length_append, List.length_cons, List.length_nil]; omega) | omega | (dsimp only; omega)), (by simp_all [passGo])⟩ (by simp)))))))))
     ·
      have h12 := bh12
      refine QU 16 [(64, B false)] (QEND rfl (NEXT (IFF (by kernel_rfl) (SKIP (OUTN (NEXT (RG (UU 2 [(39, I (wr ((k : Int) + 1)))] (CS 39 (vi (wr ((k : Int) + 1))) (vi ((k + 1 : Nat) : Int)) (vi_cast (by omega) (by omega)) (UU 1 [(9, I ((k + 1 : Nat) : Int))] (ENDOPS (BK (k + 1, ys11, oa, oc, out) [1, 3, 7, 8, 9] 1 [0] ⟨hl_y10, hd_y10, (by first | (simp only [List.length_append, List.length_cons, List.length_nil]; omega) | omega | (dsimp only; omega)), (by simp_all [passGo])⟩ (by simp)))))))))))))
    ·
     have h9 := of_decide_eq_false bh9
     obtain rfl := drop_nil hk (by omega)
     refine EXIT (PASS trivial (PASS trivial (OUT (NEXT (SEQ (RG (UU 2 [(6, .v (.slice oa out.length oc))] (ENDOPS (NEXT (RET ?_))))))))))
     have efin : passed ho cabin id = out := by (first | exact passed_no (by assumption) | exact passed_neg (by assumption) | exact passed_ne hx7 (by assumption) | (rw [passed_of (by assumption) (by assumption) hx7 (by assumption), ← hv1]; simp [passGo]))
     refine FIN (.slice oa out.length oc) (by kernel_rfl) (oa, oc) ?_ [0] ?_
     · (rw [efin] <;> rfl)
     · (rw [efin] <;> rfl)

end SX
end Go.Proofs.YtcbpmjfjdjpalaaGreat
