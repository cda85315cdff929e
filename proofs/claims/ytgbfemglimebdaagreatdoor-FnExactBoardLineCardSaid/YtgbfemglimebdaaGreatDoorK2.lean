/- Walks, printed by program. -/
import Derived.Test.YtgbfemglimebdaaGreatDoorMdlm
import Derived.Test.YtgbfemglimebdaaGreatDoorSxd
import Derived.Test.YtgbfemglimebdaaGreatDoorSxe
import Derived.Test.YtgbfemglimebdaaGreatDoorSxc
import Derived.Test.YtgbfemglimebdaaGreatDoorProg
namespace Go.Proofs.YtgbfemglimebdaaGreatDoor
namespace SX
open Go Go.RowKit
set_option linter.unusedVariables false
set_option linter.unusedSimpArgs false
set_option maxRecDepth 10000
set_option maxHeartbeats 400000
theorem toIntS_c (W : World) (a : List Int) (a_a : Option Addr) (a_c : Nat) (ha : Rd intL W a_a a) (hb : a.length ≤ 1048576) : Spec Tryz.prog W [] 20 #[.slice a_a a.length a_c] (⟨HH, fun p => .slice p.1 a.length p.2, fun p => [slA 3 intL (.slice p.1 a.length p.2) a]⟩) := by
 refine ENTER0 (N := 22) (vs := [.slice a_a a.length a_c]) Tryz.func20 rfl rfl (NL rfl) ?_
 have ha_len := ha.len
 refine SEQ (RG (UU 1 [] (NR (UU 2 [(6, I (a.length : Int))] (OPC (MAKE 22 (.tmp 6) (.tmp 6) 7 22 (by kernel_rfl) (NL rfl) a.length (by kernel_rfl) (by kernel_rfl) 3 (by kernel_rfl) (fun z => [.int .i64 z]) (fun z => ⟨rfl, by simp [isCell]⟩) 0 (vi 0) 8 rfl (by kernel_rfl) (by decide) (by omega) (by simp only [maxLen]; omega) (fun a1 ha2 => (UU 1 [(3, .v (.slice a1 a.length a.length))] (ENDOPS (NEXT (SEQ (SEQ (RG (UU 1 [(4, I 0)] (ENDOPS (NEXT (BLOCK (LOOP (ι := Nat × (List Int) × (List Int)) (fun j => [(0, .v (.slice a_a a.length a_c)), (3, .v (.slice a1 a.length a.length)), (4, I (j.1 : Int))]) (fun j => []) (fun j => [slA 3 intL (.slice a1 a.length a.length) j.2.2]) (fun j => j.1 + j.2.1.length = a.length ∧ a.drop j.1 = j.2.1 ∧ j.2.2 = a.take j.1 ++ List.replicate j.2.1.length 0) (fun j => j.2.1.length) (0, a, List.replicate a.length 0) [0, 3, 4] ⟨by simp, rfl, by simp⟩ (by kernel_rfl) rfl rfl ?_))))))))))))))))))
 rintro ⟨k, ys, out⟩ ⟨hk, hd, hv0⟩
 try dsimp only at hk hd hv0
 refine SEQ (SEQ (RG (UU 4 [(11, B (decide ((k : Int) < (a.length : Int))))] (NI (decide ((k : Int) < (a.length : Int))) (fun bh3 => ?_) (fun bh3 => ?_)))))
 ·
  have h3 := of_decide_eq_true bh3
  obtain ⟨y4, ys5, rfl, hx_y4, hd_y4, hl_y4⟩ := drop_cons hd hk (by omega)
  refine SKIP (NEXT (SEQ (BLOCK (RG (UU 4 [(14, .v (.slice a1 a.length a.length)), (15, I (k : Int)), (16, .v (.slice a_a a.length a_c)), (17, I (k : Int))] (OPC (IX 22 (.tmp 16) (.tmp 17) 18 0 a_a a.length a_c .i64 (k : Int) 3 1 (Rd.some ha (by omega)) (by omega) (by omega) (OPC (LE 3 (.tmp 18) 19 3 a_a (k * 1) 0 ([vi y4]) (vi y4) (fun w hw => (ha.fr hw.fr).flat hx_y4) (FACT (a.length = out.length) (fun w hw => (SlO.lenE (hw.own 0 rfl)).1) (fun hln6 => ?_)))))))))))
  obtain ⟨x7, hx8⟩ : ∃ y, out[k]? = some y := ⟨_, List.getElem?_eq_getElem (by omega)⟩
  refine OPC (IX 22 (.tmp 14) (.tmp 15) 20 0 a1 a.length a.length .i64 (k : Int) 3 1 ha2 (by omega) (by omega) (OPC (STOREF 3 (.tmp 20) (.tmp 19) 0 (by kernel_rfl) 0 _ 3 a1 a.length a.length k 0 out rfl x7 y4 hx8 (vi y4) (by kernel_rfl) (by kernel_rfl) (by kernel_rfl) (ENDOPS (OUTN (NEXT (RG (UU 2 [(13, I (wr ((k : Int) + 1)))] (CS 13 (vi (wr ((k : Int) + 1))) (vi ((k + 1 : Nat) : Int)) (vi_cast (by omega) (by omega)) (UU 1 [(4, I ((k + 1 : Nat) : Int))] (ENDOPS (BK (k + 1, ys5, out.set k y4) [0, 3, 4] 0 [0] ⟨hl_y4, hd_y4, by rw [hv0]; exact set_next hk hx_y4⟩ (by simp)))))))))))))
 ·
  have h3 := of_decide_eq_false bh3
  obtain rfl := drop_nil hk (by omega)
  refine EXIT (PASS trivial (PASS trivial (OUT (NEXT (SEQ (RG (UU 2 [(2, .v (.slice a1 a.length a.length))] (ENDOPS (NEXT (RET ?_))))))))))
  have efin : a = out := by rw [hv0]; simp [show k = a.length by simpa using hk]
  refine FIN (.slice a1 a.length a.length) (by kernel_rfl) (a1, a.length) ?_ [0] ?_
  · (rw [efin] <;> rfl)
  · (rw [efin] <;> rfl)

theorem toRules_c (W : World) (a : Rules) (a_seats_a : Option Addr) (a_seats_c : Nat) (ha_seats : Rd intL W a_seats_a a.seats) (hb : a.seats.length ≤ 1048576) : Spec Tryz.prog W [] 17 #[.agg #[.slice a_seats_a a.seats.length a_seats_c, vi a.tiers, vi a.room, vi a.size, vi a.period, vi a.window, vi a.rest, vi a.tries, vi a.crew]] (⟨HH, fun p => .agg #[.slice p.1 a.seats.length p.2, vi a.tiers, vi a.room, vi a.size, vi a.period, vi a.window, vi a.rest, vi a.tries, vi a.crew], fun p => [slA 3 intL (.slice p.1 a.seats.length p.2) a.seats]⟩) := by
 refine ENTER0 (N := 33) (vs := [.agg #[.slice a_seats_a a.seats.length a_seats_c, vi a.tiers, vi a.room, vi a.size, vi a.period, vi a.window, vi a.rest, vi a.tries, vi a.crew]]) Tryz.func17 rfl rfl (NL rfl) ?_
 have ha_seats_len := ha_seats.len
 refine SEQ (RG (UL 2 [(1, .p 0 0), (2, .p 1 0)] [(24, [.slice a_seats_a a.seats.length a_seats_c, vi a.tiers, vi a.room, vi a.size, vi a.period, vi a.window, vi a.rest, vi a.tries, vi a.crew]), (31, [.slice none 0 0, vi 0, vi 0, vi 0, vi 0, vi 0, vi 0, vi 0, vi 0])] (NR (UL 1 [(3, .p 2 0)] [(24, [.slice a_seats_a a.seats.length a_seats_c, vi a.tiers, vi a.room, vi a.size, vi a.period, vi a.window, vi a.rest, vi a.tries, vi a.crew]), (31, [.slice none 0 0, vi 0, vi 0, vi 0, vi 0, vi 0, vi 0, vi 0, vi 0]), (31, [.slice none 0 0, vi 0, vi 0, vi 0, vi 0, vi 0, vi 0, vi 0, vi 0])] (NR (UU 2 [(5, .v (.slice a_seats_a a.seats.length a_seats_c))] (OPC (CA 20 #[.slice a_seats_a a.seats.length a_seats_c] (some 6) (⟨HH, fun p => .slice p.1 a.seats.length p.2, fun p => [slA 3 intL (.slice p.1 a.seats.length p.2) a.seats]⟩) (fun w hw => toIntS_c w a.seats a_seats_a a_seats_c (ha_seats.fr hw.fr) (by first | assumption | omega | (dsimp only; omega) | (simp only [List.length_append, List.length_cons, List.length_nil] at *; omega))) ?_))))))))
 rintro ⟨a1, c2⟩
 refine UL 2 [] [(24, [.slice a_seats_a a.seats.length a_seats_c, vi a.tiers, vi a.room, vi a.size, vi a.period, vi a.window, vi a.rest, vi a.tries, vi a.crew]), (31, [.slice none 0 0, vi 0, vi 0, vi 0, vi 0, vi 0, vi 0, vi 0, vi 0]), (31, [.slice a1 a.seats.length c2, vi 0, vi 0, vi 0, vi 0, vi 0, vi 0, vi 0, vi 0])] (NR (UL 4 [] [(24, [.slice a_seats_a a.seats.length a_seats_c, vi a.tiers, vi a.room, vi a.size, vi a.period, vi a.window, vi a.rest, vi a.tries, vi a.crew]), (31, [.slice none 0 0, vi 0, vi 0, vi 0, vi 0, vi 0, vi 0, vi 0, vi 0]), (31, [.slice a1 a.seats.length c2, vi a.tiers, vi 0, vi 0, vi 0, vi 0, vi 0, vi 0, vi 0])] (NR (UL 4 [] [(24, [.slice a_seats_a a.seats.length a_seats_c, vi a.tiers, vi a.room, vi a.size, vi a.period, vi a.window, vi a.rest, vi a.tries, vi a.crew]), (31, [.slice none 0 0, vi 0, vi 0, vi 0, vi 0, vi 0, vi 0, vi 0, vi 0]), (31, [.slice a1 a.seats.length c2, vi a.tiers, vi a.room, vi 0, vi 0, vi 0, vi 0, vi 0, vi 0])] (NR (UL 4 [] [(24, [.slice a_seats_a a.seats.length a_seats_c, vi a.tiers, vi a.room, vi a.size, vi a.period, vi a.window, vi a.rest, vi a.tries, vi a.crew]), (31, [.slice none 0 0, vi 0, vi 0, vi 0, vi 0, vi 0, vi 0, vi 0, vi 0]), (31, [.slice a1 a.seats.length c2, vi a.tiers, vi a.room, vi a.size, vi 0, vi 0, vi 0, vi 0, vi 0])] (NR (UL 4 [] [(24, [.slice a_seats_a a.seats.length a_seats_c, vi a.tiers, vi a.room, vi a.size, vi a.period, vi a.window, vi a.rest, vi a.tries, vi a.crew]), (31, [.slice none 0 0, vi 0, vi 0, vi 0, vi 0, vi 0, vi 0, vi 0, vi 0]), (31, [.slice a1 a.seats.length c2, vi a.tiers, vi a.room, vi a.size, vi a.period, vi 0, vi 0, vi 0, vi 0])] (NR ?_)))))))))
 refine UL 4 [] [(24, [.slice a_seats_a a.seats.length a_seats_c, vi a.tiers, vi a.room, vi a.size, vi a.period, vi a.window, vi a.rest, vi a.tries, vi a.crew]), (31, [.slice none 0 0, vi 0, vi 0, vi 0, vi 0, vi 0, vi 0, vi 0, vi 0]), (31, [.slice a1 a.seats.length c2, vi a.tiers, vi a.room, vi a.size, vi a.period, vi a.window, vi 0, vi 0, vi 0])] (NR (UL 4 [] [(24, [.slice a_seats_a a.seats.length a_seats_c, vi a.tiers, vi a.room, vi a.size, vi a.period, vi a.window, vi a.rest, vi a.tries, vi a.crew]), (31, [.slice none 0 0, vi 0, vi 0, vi 0, vi 0, vi 0, vi 0, vi 0, vi 0]), (31, [.slice a1 a.seats.length c2, vi a.tiers, vi a.room, vi a.size, vi a.period, vi a.window, vi a.rest, vi 0, vi 0])] (NR (UL 4 [] [(24, [.slice a_seats_a a.seats.length a_seats_c, vi a.tiers, vi a.room, vi a.size, vi a.period, vi a.window, vi a.rest, vi a.tries, vi a.crew]), (31, [.slice none 0 0, vi 0, vi 0, vi 0, vi 0, vi 0, vi 0, vi 0, vi 0]), (31, [.slice a1 a.seats.length c2, vi a.tiers, vi a.room, vi a.size, vi a.period, vi a.window, vi a.rest, vi a.tries, vi 0])] (NR (UL 4 [] [(24, [.slice a_seats_a a.seats.length a_seats_c, vi a.tiers, vi a.room, vi a.size, vi a.period, vi a.window, vi a.rest, vi a.tries, vi a.crew]), (31, [.slice none 0 0, vi 0, vi 0, vi 0, vi 0, vi 0, vi 0, vi 0, vi 0]), (31, [.slice a1 a.seats.length c2, vi a.tiers, vi a.room, vi a.size, vi a.period, vi a.window, vi a.rest, vi a.tries, vi a.crew])] (NR (UL 2 [] [(24, [.slice a_seats_a a.seats.length a_seats_c, vi a.tiers, vi a.room, vi a.size, vi a.period, vi a.window, vi a.rest, vi a.tries, vi a.crew]), (31, [.slice a1 a.seats.length c2, vi a.tiers, vi a.room, vi a.size, vi a.period, vi a.window, vi a.rest, vi a.tries, vi a.crew]), (31, [.slice a1 a.seats.length c2, vi a.tiers, vi a.room, vi a.size, vi a.period, vi a.window, vi a.rest, vi a.tries, vi a.crew])] (ENDOPS (NEXT (RET ?_)))))))))))
 refine FIN (.agg #[.slice a1 a.seats.length c2, vi a.tiers, vi a.room, vi a.size, vi a.period, vi a.window, vi a.rest, vi a.tries, vi a.crew]) (by kernel_rfl) (a1, c2) ?_ [0] ?_
 · rfl
 · rfl

theorem toParty_c (W : World) (a : Party) : Spec Tryz.prog W [] 34 #[.agg #[vi a.id, vi a.cabin, vi a.from', vi a.size, vi a.tier, vi a.since, vi a.turn, vi a.state, vi a.until', vi a.asked]] (RV (.agg #[vi a.id, vi a.cabin, vi a.from', vi a.size, vi a.tier, vi a.since, vi a.turn, vi a.state, vi a.until', vi a.asked])) := by
 refine ENTER0 (N := 35) (vs := [.agg #[vi a.id, vi a.cabin, vi a.from', vi a.size, vi a.tier, vi a.since, vi a.turn, vi a.state, vi a.until', vi a.asked]]) Tryz.func34 rfl rfl (NL rfl) ?_
 refine SEQ (RG (UL 2 [(1, .p 0 0), (2, .p 1 0)] [(82, partyE a), (57, [vi 0, vi 0, vi 0, vi 0, vi 0, vi 0, vi 0, vi 0, vi 0, vi 0])] (NR (UL 1 [(3, .p 2 0)] [(82, partyE a), (57, [vi 0, vi 0, vi 0, vi 0, vi 0, vi 0, vi 0, vi 0, vi 0, vi 0]), (57, [vi 0, vi 0, vi 0, vi 0, vi 0, vi 0, vi 0, vi 0, vi 0, vi 0])] (NR (UL 4 [] [(82, partyE a), (57, [vi 0, vi 0, vi 0, vi 0, vi 0, vi 0, vi 0, vi 0, vi 0, vi 0]), (57, [vi a.id, vi 0, vi 0, vi 0, vi 0, vi 0, vi 0, vi 0, vi 0, vi 0])] (NR (UL 4 [] [(82, partyE a), (57, [vi 0, vi 0, vi 0, vi 0, vi 0, vi 0, vi 0, vi 0, vi 0, vi 0]), (57, [vi a.id, vi a.cabin, vi 0, vi 0, vi 0, vi 0, vi 0, vi 0, vi 0, vi 0])] (NR (UL 4 [] [(82, partyE a), (57, [vi 0, vi 0, vi 0, vi 0, vi 0, vi 0, vi 0, vi 0, vi 0, vi 0]), (57, [vi a.id, vi a.cabin, vi a.from', vi 0, vi 0, vi 0, vi 0, vi 0, vi 0, vi 0])] (NR (UL 4 [] [(82, partyE a), (57, [vi 0, vi 0, vi 0, vi 0, vi 0, vi 0, vi 0, vi 0, vi 0, vi 0]), (57, [vi a.id, vi a.cabin, vi a.from', vi a.size, vi 0, vi 0, vi 0, vi 0, vi 0, vi 0])] (NR (UL 4 [] [(82, partyE a), (57, [vi 0, vi 0, vi 0, vi 0, vi 0, vi 0, vi 0, vi 0, vi 0, vi 0]), (57, [vi a.id, vi a.cabin, vi a.from', vi a.size, vi a.tier, vi 0, vi 0, vi 0, vi 0, vi 0])] (NR (UL 4 [] [(82, partyE a), (57, [vi 0, vi 0, vi 0, vi 0, vi 0, vi 0, vi 0, vi 0, vi 0, vi 0]), (57, [vi a.id, vi a.cabin, vi a.from', vi a.size, vi a.tier, vi a.since, vi 0, vi 0, vi 0, vi 0])] (NR (UL 4 [] [(82, partyE a), (57, [vi 0, vi 0, vi 0, vi 0, vi 0, vi 0, vi 0, vi 0, vi 0, vi 0]), (57, [vi a.id, vi a.cabin, vi a.from', vi a.size, vi a.tier, vi a.since, vi a.turn, vi 0, vi 0, vi 0])] (NR ?_)))))))))))))))))))
 refine UL 4 [] [(82, partyE a), (57, [vi 0, vi 0, vi 0, vi 0, vi 0, vi 0, vi 0, vi 0, vi 0, vi 0]), (57, [vi a.id, vi a.cabin, vi a.from', vi a.size, vi a.tier, vi a.since, vi a.turn, vi a.state, vi 0, vi 0])] (NR (UL 4 [] [(82, partyE a), (57, [vi 0, vi 0, vi 0, vi 0, vi 0, vi 0, vi 0, vi 0, vi 0, vi 0]), (57, [vi a.id, vi a.cabin, vi a.from', vi a.size, vi a.tier, vi a.since, vi a.turn, vi a.state, vi a.until', vi 0])] (NR (UL 4 [] [(82, partyE a), (57, [vi 0, vi 0, vi 0, vi 0, vi 0, vi 0, vi 0, vi 0, vi 0, vi 0]), (57, partyE a)] (NR (UL 2 [] [(82, partyE a), (57, partyE a), (57, partyE a)] (ENDOPS (NEXT (RF rfl (.agg #[vi a.id, vi a.cabin, vi a.from', vi a.size, vi a.tier, vi a.since, vi a.turn, vi a.state, vi a.until', vi a.asked]) () [] ?_ ?_)))))))))
 · rfl
 · rfl

theorem toEntry_c (W : World) (a : Entry) : Spec Tryz.prog W [] 80 #[.agg #[vi a.level, vi a.turn, vi a.id, vi a.size]] (RV (.agg #[vi a.level, vi a.turn, vi a.id, vi a.size])) := by
 refine ENTER0 (N := 17) (vs := [.agg #[vi a.level, vi a.turn, vi a.id, vi a.size]]) Tryz.func80 rfl rfl (NL rfl) ?_
 refine SEQ (RG (UL 2 [(1, .p 0 0), (2, .p 1 0)] [(119, entryE a), (54, [vi 0, vi 0, vi 0, vi 0])] (NR (UL 1 [(3, .p 2 0)] [(119, entryE a), (54, [vi 0, vi 0, vi 0, vi 0]), (54, [vi 0, vi 0, vi 0, vi 0])] (NR (UL 4 [] [(119, entryE a), (54, [vi 0, vi 0, vi 0, vi 0]), (54, [vi a.level, vi 0, vi 0, vi 0])] (NR (UL 4 [] [(119, entryE a), (54, [vi 0, vi 0, vi 0, vi 0]), (54, [vi a.level, vi a.turn, vi 0, vi 0])] (NR (UL 4 [] [(119, entryE a), (54, [vi 0, vi 0, vi 0, vi 0]), (54, [vi a.level, vi a.turn, vi a.id, vi 0])] (NR (UL 4 [] [(119, entryE a), (54, [vi 0, vi 0, vi 0, vi 0]), (54, entryE a)] (NR (UL 2 [] [(119, entryE a), (54, entryE a), (54, entryE a)] (ENDOPS (NEXT (RF rfl (.agg #[vi a.level, vi a.turn, vi a.id, vi a.size]) () [] ?_ ?_)))))))))))))))))
 · rfl
 · rfl

theorem toPin_c (W : World) (a : Pin) : Spec Tryz.prog W [] 124 #[.agg #[vi a.at', vi a.id]] (RV (.agg #[vi a.at', vi a.id])) := by
 refine ENTER0 (N := 11) (vs := [.agg #[vi a.at', vi a.id]]) Tryz.func124 rfl rfl (NL rfl) ?_
 refine SEQ (RG (UL 2 [(1, .p 0 0), (2, .p 1 0)] [(154, pinE a), (122, [vi 0, vi 0])] (NR (UL 1 [(3, .p 2 0)] [(154, pinE a), (122, [vi 0, vi 0]), (122, [vi 0, vi 0])] (NR (UL 4 [] [(154, pinE a), (122, [vi 0, vi 0]), (122, [vi a.at', vi 0])] (NR (UL 4 [] [(154, pinE a), (122, [vi 0, vi 0]), (122, pinE a)] (NR (UL 2 [] [(154, pinE a), (122, pinE a), (122, pinE a)] (ENDOPS (NEXT (RF rfl (.agg #[vi a.at', vi a.id]) () [] ?_ ?_)))))))))))))
 · rfl
 · rfl

theorem toLedger_c (W : World) (a : Ledger) : Spec Tryz.prog W [] 52 #[.agg #[vi a.total, vi a.free, vi a.held, vi a.sold, vi a.tied]] (RV (.agg #[vi a.total, vi a.free, vi a.held, vi a.sold, vi a.tied])) := by
 refine ENTER0 (N := 20) (vs := [.agg #[vi a.total, vi a.free, vi a.held, vi a.sold, vi a.tied]]) Tryz.func52 rfl rfl (NL rfl) ?_
 refine SEQ (RG (UL 2 [(1, .p 0 0), (2, .p 1 0)] [(70, ledgerE a), (45, [vi 0, vi 0, vi 0, vi 0, vi 0])] (NR (UL 1 [(3, .p 2 0)] [(70, ledgerE a), (45, [vi 0, vi 0, vi 0, vi 0, vi 0]), (45, [vi 0, vi 0, vi 0, vi 0, vi 0])] (NR (UL 4 [] [(70, ledgerE a), (45, [vi 0, vi 0, vi 0, vi 0, vi 0]), (45, [vi a.total, vi 0, vi 0, vi 0, vi 0])] (NR (UL 4 [] [(70, ledgerE a), (45, [vi 0, vi 0, vi 0, vi 0, vi 0]), (45, [vi a.total, vi a.free, vi 0, vi 0, vi 0])] (NR (UL 4 [] [(70, ledgerE a), (45, [vi 0, vi 0, vi 0, vi 0, vi 0]), (45, [vi a.total, vi a.free, vi a.held, vi 0, vi 0])] (NR (UL 4 [] [(70, ledgerE a), (45, [vi 0, vi 0, vi 0, vi 0, vi 0]), (45, [vi a.total, vi a.free, vi a.held, vi a.sold, vi 0])] (NR (UL 4 [] [(70, ledgerE a), (45, [vi 0, vi 0, vi 0, vi 0, vi 0]), (45, ledgerE a)] (NR (UL 2 [] [(70, ledgerE a), (45, ledgerE a), (45, ledgerE a)] (ENDOPS (NEXT (RF rfl (.agg #[vi a.total, vi a.free, vi a.held, vi a.sold, vi a.tied]) () [] ?_ ?_)))))))))))))))))))
 · rfl
 · rfl

theorem toPartyS_c (W : World) (a : List Party) (a_a : Option Addr) (a_c : Nat) (ha : Rd partyL W a_a a) (hb : a.length ≤ 1048576) : Spec Tryz.prog W [] 18 #[.slice a_a a.length a_c] (⟨HH, fun p => .slice p.1 a.length p.2, fun p => [slA 57 partyL (.slice p.1 a.length p.2) a]⟩) := by
 refine ENTER0 (N := 23) (vs := [.slice a_a a.length a_c]) Tryz.func18 rfl rfl (NL rfl) ?_
 have ha_len := ha.len
 refine SEQ (RG (UU 1 [] (NR (UU 2 [(6, I (a.length : Int))] (OPC (MAKE 32 (.tmp 6) (.tmp 6) 7 32 (by kernel_rfl) (NL rfl) a.length (by kernel_rfl) (by kernel_rfl) 57 (by kernel_rfl) partyE partyH (⟨0, 0, 0, 0, 0, 0, 0, 0, 0, 0⟩ : Party) (.agg #[vi 0, vi 0, vi 0, vi 0, vi 0, vi 0, vi 0, vi 0, vi 0, vi 0]) 80 rfl (by kernel_rfl) (by decide) (by omega) (by simp only [maxLen]; omega) (fun a1 ha2 => (UU 1 [(3, .v (.slice a1 a.length a.length))] (ENDOPS (NEXT (SEQ (SEQ (RG (UU 1 [(4, I 0)] (ENDOPS (NEXT (BLOCK (LOOP (ι := Nat × (List Party) × (List Party)) (fun j => [(0, .v (.slice a_a a.length a_c)), (3, .v (.slice a1 a.length a.length)), (4, I (j.1 : Int))]) (fun j => []) (fun j => [slA 57 partyL (.slice a1 a.length a.length) j.2.2]) (fun j => j.1 + j.2.1.length = a.length ∧ a.drop j.1 = j.2.1 ∧ j.2.2 = a.take j.1 ++ List.replicate j.2.1.length (⟨0, 0, 0, 0, 0, 0, 0, 0, 0, 0⟩ : Party)) (fun j => j.2.1.length) (0, a, List.replicate a.length (⟨0, 0, 0, 0, 0, 0, 0, 0, 0, 0⟩ : Party)) [0, 3, 4] ⟨by simp, rfl, by simp⟩ (by kernel_rfl) rfl rfl ?_))))))))))))))))))
 rintro ⟨k, ys, out⟩ ⟨hk, hd, hv0⟩
 try dsimp only at hk hd hv0
 refine SEQ (SEQ (RG (UU 4 [(11, B (decide ((k : Int) < (a.length : Int))))] (NI (decide ((k : Int) < (a.length : Int))) (fun bh3 => ?_) (fun bh3 => ?_)))))
 ·
  have h3 := of_decide_eq_true bh3
  obtain ⟨y4, ys5, rfl, hx_y4, hd_y4, hl_y4⟩ := drop_cons hd hk (by omega)
  refine SKIP (NEXT (SEQ (BLOCK (RG (UU 4 [(14, .v (.slice a1 a.length a.length)), (15, I (k : Int)), (16, .v (.slice a_a a.length a_c)), (17, I (k : Int))] (OPC (IX 25 (.tmp 16) (.tmp 17) 18 0 a_a a.length a_c .i64 (k : Int) 82 10 (Rd.some ha (by omega)) (by omega) (by omega) (OPC (LE 82 (.tmp 18) 19 82 a_a (k * 10) 0 (partyE y4) (.agg (partyE y4).toArray) (fun w hw => (ha.fr hw.fr).flat hx_y4) (OPC (CA 34 #[.agg #[vi y4.id, vi y4.cabin, vi y4.from', vi y4.size, vi y4.tier, vi y4.since, vi y4.turn, vi y4.state, vi y4.until', vi y4.asked]] (some 20) (RV (.agg #[vi y4.id, vi y4.cabin, vi y4.from', vi y4.size, vi y4.tier, vi y4.since, vi y4.turn, vi y4.state, vi y4.until', vi y4.asked])) (fun w hw => toParty_c w y4) ?_)))))))))))
  rintro ⟨⟩
  refine FACT (a.length = out.length) (fun w hw => (SlO.lenE (hw.own 0 rfl)).1) (fun hln6 => ?_)
  obtain ⟨x7, hx8⟩ : ∃ y, out[k]? = some y := ⟨_, List.getElem?_eq_getElem (by omega)⟩
  refine OPC (IX 32 (.tmp 14) (.tmp 15) 21 0 a1 a.length a.length .i64 (k : Int) 57 10 ha2 (by omega) (by omega) (OPC (STOREF 57 (.tmp 21) (.tmp 20) 0 (by kernel_rfl) 0 _ 57 a1 a.length a.length k 0 out rfl x7 y4 hx8 (.agg #[vi y4.id, vi y4.cabin, vi y4.from', vi y4.size, vi y4.tier, vi y4.since, vi y4.turn, vi y4.state, vi y4.until', vi y4.asked]) (by kernel_rfl) (by kernel_rfl) (by kernel_rfl) (ENDOPS (OUTN (NEXT (RG (UU 2 [(13, I (wr ((k : Int) + 1)))] (CS 13 (vi (wr ((k : Int) + 1))) (vi ((k + 1 : Nat) : Int)) (vi_cast (by omega) (by omega)) (UU 1 [(4, I ((k + 1 : Nat) : Int))] (ENDOPS (BK (k + 1, ys5, out.set k y4) [0, 3, 4] 0 [0] ⟨hl_y4, hd_y4, by rw [hv0]; exact set_next hk hx_y4⟩ (by simp)))))))))))))
 ·
  have h3 := of_decide_eq_false bh3
  obtain rfl := drop_nil hk (by omega)
  refine EXIT (PASS trivial (PASS trivial (OUT (NEXT (SEQ (RG (UU 2 [(2, .v (.slice a1 a.length a.length))] (ENDOPS (NEXT (RET ?_))))))))))
  have efin : a = out := by rw [hv0]; simp [show k = a.length by simpa using hk]
  refine FIN (.slice a1 a.length a.length) (by kernel_rfl) (a1, a.length) ?_ [0] ?_
  · (rw [efin] <;> rfl)
  · (rw [efin] <;> rfl)

theorem toEntryS_c (W : World) (a : List Entry) (a_a : Option Addr) (a_c : Nat) (ha : Rd entryL W a_a a) (hb : a.length ≤ 1048576) : Spec Tryz.prog W [] 53 #[.slice a_a a.length a_c] (⟨HH, fun p => .slice p.1 a.length p.2, fun p => [slA 54 entryL (.slice p.1 a.length p.2) a]⟩) := by
 refine ENTER0 (N := 23) (vs := [.slice a_a a.length a_c]) Tryz.func53 rfl rfl (NL rfl) ?_
 have ha_len := ha.len
 refine SEQ (RG (UU 1 [] (NR (UU 2 [(6, I (a.length : Int))] (OPC (MAKE 46 (.tmp 6) (.tmp 6) 7 46 (by kernel_rfl) (NL rfl) a.length (by kernel_rfl) (by kernel_rfl) 54 (by kernel_rfl) entryE entryH (⟨0, 0, 0, 0⟩ : Entry) (.agg #[vi 0, vi 0, vi 0, vi 0]) 32 rfl (by kernel_rfl) (by decide) (by omega) (by simp only [maxLen]; omega) (fun a1 ha2 => (UU 1 [(3, .v (.slice a1 a.length a.length))] (ENDOPS (NEXT (SEQ (SEQ (RG (UU 1 [(4, I 0)] (ENDOPS (NEXT (BLOCK (LOOP (ι := Nat × (List Entry) × (List Entry)) (fun j => [(0, .v (.slice a_a a.length a_c)), (3, .v (.slice a1 a.length a.length)), (4, I (j.1 : Int))]) (fun j => []) (fun j => [slA 54 entryL (.slice a1 a.length a.length) j.2.2]) (fun j => j.1 + j.2.1.length = a.length ∧ a.drop j.1 = j.2.1 ∧ j.2.2 = a.take j.1 ++ List.replicate j.2.1.length (⟨0, 0, 0, 0⟩ : Entry)) (fun j => j.2.1.length) (0, a, List.replicate a.length (⟨0, 0, 0, 0⟩ : Entry)) [0, 3, 4] ⟨by simp, rfl, by simp⟩ (by kernel_rfl) rfl rfl ?_))))))))))))))))))
 rintro ⟨k, ys, out⟩ ⟨hk, hd, hv0⟩
 try dsimp only at hk hd hv0
 refine SEQ (SEQ (RG (UU 4 [(11, B (decide ((k : Int) < (a.length : Int))))] (NI (decide ((k : Int) < (a.length : Int))) (fun bh3 => ?_) (fun bh3 => ?_)))))
 ·
  have h3 := of_decide_eq_true bh3
  obtain ⟨y4, ys5, rfl, hx_y4, hd_y4, hl_y4⟩ := drop_cons hd hk (by omega)
  refine SKIP (NEXT (SEQ (BLOCK (RG (UU 4 [(14, .v (.slice a1 a.length a.length)), (15, I (k : Int)), (16, .v (.slice a_a a.length a_c)), (17, I (k : Int))] (OPC (IX 71 (.tmp 16) (.tmp 17) 18 0 a_a a.length a_c .i64 (k : Int) 119 4 (Rd.some ha (by omega)) (by omega) (by omega) (OPC (LE 119 (.tmp 18) 19 119 a_a (k * 4) 0 (entryE y4) (.agg (entryE y4).toArray) (fun w hw => (ha.fr hw.fr).flat hx_y4) (OPC (CA 80 #[.agg #[vi y4.level, vi y4.turn, vi y4.id, vi y4.size]] (some 20) (RV (.agg #[vi y4.level, vi y4.turn, vi y4.id, vi y4.size])) (fun w hw => toEntry_c w y4) ?_)))))))))))
  rintro ⟨⟩
  refine FACT (a.length = out.length) (fun w hw => (SlO.lenE (hw.own 0 rfl)).1) (fun hln6 => ?_)
  obtain ⟨x7, hx8⟩ : ∃ y, out[k]? = some y := ⟨_, List.getElem?_eq_getElem (by omega)⟩
  refine OPC (IX 46 (.tmp 14) (.tmp 15) 21 0 a1 a.length a.length .i64 (k : Int) 54 4 ha2 (by omega) (by omega) (OPC (STOREF 54 (.tmp 21) (.tmp 20) 0 (by kernel_rfl) 0 _ 54 a1 a.length a.length k 0 out rfl x7 y4 hx8 (.agg #[vi y4.level, vi y4.turn, vi y4.id, vi y4.size]) (by kernel_rfl) (by kernel_rfl) (by kernel_rfl) (ENDOPS (OUTN (NEXT (RG (UU 2 [(13, I (wr ((k : Int) + 1)))] (CS 13 (vi (wr ((k : Int) + 1))) (vi ((k + 1 : Nat) : Int)) (vi_cast (by omega) (by omega)) (UU 1 [(4, I ((k + 1 : Nat) : Int))] (ENDOPS (BK (k + 1, ys5, out.set k y4) [0, 3, 4] 0 [0] ⟨hl_y4, hd_y4, by rw [hv0]; exact set_next hk hx_y4⟩ (by simp)))))))))))))
 ·
  have h3 := of_decide_eq_false bh3
  obtain rfl := drop_nil hk (by omega)
  refine EXIT (PASS trivial (PASS trivial (OUT (NEXT (SEQ (RG (UU 2 [(2, .v (.slice a1 a.length a.length))] (ENDOPS (NEXT (RET ?_))))))))))
  have efin : a = out := by rw [hv0]; simp [show k = a.length by simpa using hk]
  refine FIN (.slice a1 a.length a.length) (by kernel_rfl) (a1, a.length) ?_ [0] ?_
  · (rw [efin] <;> rfl)
  · (rw [efin] <;> rfl)

theorem toPinS_c (W : World) (a : List Pin) (a_a : Option Addr) (a_c : Nat) (ha : Rd pinL W a_a a) (hb : a.length ≤ 1048576) : Spec Tryz.prog W [] 104 #[.slice a_a a.length a_c] (⟨HH, fun p => .slice p.1 a.length p.2, fun p => [slA 122 pinL (.slice p.1 a.length p.2) a]⟩) := by
 refine ENTER0 (N := 23) (vs := [.slice a_a a.length a_c]) Tryz.func104 rfl rfl (NL rfl) ?_
 have ha_len := ha.len
 refine SEQ (RG (UU 1 [] (NR (UU 2 [(6, I (a.length : Int))] (OPC (MAKE 115 (.tmp 6) (.tmp 6) 7 115 (by kernel_rfl) (NL rfl) a.length (by kernel_rfl) (by kernel_rfl) 122 (by kernel_rfl) pinE pinH (⟨0, 0⟩ : Pin) (.agg #[vi 0, vi 0]) 16 rfl (by kernel_rfl) (by decide) (by omega) (by simp only [maxLen]; omega) (fun a1 ha2 => (UU 1 [(3, .v (.slice a1 a.length a.length))] (ENDOPS (NEXT (SEQ (SEQ (RG (UU 1 [(4, I 0)] (ENDOPS (NEXT (BLOCK (LOOP (ι := Nat × (List Pin) × (List Pin)) (fun j => [(0, .v (.slice a_a a.length a_c)), (3, .v (.slice a1 a.length a.length)), (4, I (j.1 : Int))]) (fun j => []) (fun j => [slA 122 pinL (.slice a1 a.length a.length) j.2.2]) (fun j => j.1 + j.2.1.length = a.length ∧ a.drop j.1 = j.2.1 ∧ j.2.2 = a.take j.1 ++ List.replicate j.2.1.length (⟨0, 0⟩ : Pin)) (fun j => j.2.1.length) (0, a, List.replicate a.length (⟨0, 0⟩ : Pin)) [0, 3, 4] ⟨by simp, rfl, by simp⟩ (by kernel_rfl) rfl rfl ?_))))))))))))))))))
 rintro ⟨k, ys, out⟩ ⟨hk, hd, hv0⟩
 try dsimp only at hk hd hv0
 refine SEQ (SEQ (RG (UU 4 [(11, B (decide ((k : Int) < (a.length : Int))))] (NI (decide ((k : Int) < (a.length : Int))) (fun bh3 => ?_) (fun bh3 => ?_)))))
 ·
  have h3 := of_decide_eq_true bh3
  obtain ⟨y4, ys5, rfl, hx_y4, hd_y4, hl_y4⟩ := drop_cons hd hk (by omega)
  refine SKIP (NEXT (SEQ (BLOCK (RG (UU 4 [(14, .v (.slice a1 a.length a.length)), (15, I (k : Int)), (16, .v (.slice a_a a.length a_c)), (17, I (k : Int))] (OPC (IX 130 (.tmp 16) (.tmp 17) 18 0 a_a a.length a_c .i64 (k : Int) 154 2 (Rd.some ha (by omega)) (by omega) (by omega) (OPC (LE 154 (.tmp 18) 19 154 a_a (k * 2) 0 (pinE y4) (.agg (pinE y4).toArray) (fun w hw => (ha.fr hw.fr).flat hx_y4) (OPC (CA 124 #[.agg #[vi y4.at', vi y4.id]] (some 20) (RV (.agg #[vi y4.at', vi y4.id])) (fun w hw => toPin_c w y4) ?_)))))))))))
  rintro ⟨⟩
  refine FACT (a.length = out.length) (fun w hw => (SlO.lenE (hw.own 0 rfl)).1) (fun hln6 => ?_)
  obtain ⟨x7, hx8⟩ : ∃ y, out[k]? = some y := ⟨_, List.getElem?_eq_getElem (by omega)⟩
  refine OPC (IX 115 (.tmp 14) (.tmp 15) 21 0 a1 a.length a.length .i64 (k : Int) 122 2 ha2 (by omega) (by omega) (OPC (STOREF 122 (.tmp 21) (.tmp 20) 0 (by kernel_rfl) 0 _ 122 a1 a.length a.length k 0 out rfl x7 y4 hx8 (.agg #[vi y4.at', vi y4.id]) (by kernel_rfl) (by kernel_rfl) (by kernel_rfl) (ENDOPS (OUTN (NEXT (RG (UU 2 [(13, I (wr ((k : Int) + 1)))] (CS 13 (vi (wr ((k : Int) + 1))) (vi ((k + 1 : Nat) : Int)) (vi_cast (by omega) (by omega)) (UU 1 [(4, I ((k + 1 : Nat) : Int))] (ENDOPS (BK (k + 1, ys5, out.set k y4) [0, 3, 4] 0 [0] ⟨hl_y4, hd_y4, by rw [hv0]; exact set_next hk hx_y4⟩ (by simp)))))))))))))
 ·
  have h3 := of_decide_eq_false bh3
  obtain rfl := drop_nil hk (by omega)
  refine EXIT (PASS trivial (PASS trivial (OUT (NEXT (SEQ (RG (UU 2 [(2, .v (.slice a1 a.length a.length))] (ENDOPS (NEXT (RET ?_))))))))))
  have efin : a = out := by rw [hv0]; simp [show k = a.length by simpa using hk]
  refine FIN (.slice a1 a.length a.length) (by kernel_rfl) (a1, a.length) ?_ [0] ?_
  · (rw [efin] <;> rfl)
  · (rw [efin] <;> rfl)

theorem toPinSS_c (W : World) (a : List (List Pin)) (a_a : Option Addr) (a_c : Nat) (ha : Rd (sl 154 pinL) W a_a a) (hb : a.length ≤ 1048576) (hf : a.flatten.length ≤ 1048576) : Spec Tryz.prog W [] 81 #[.slice a_a a.length a_c] (⟨HH, fun p => .slice p.1 a.length p.2, fun p => [slA 115 (sl 122 pinL) (.slice p.1 a.length p.2) a]⟩) := by
 refine ENTER0 (N := 23) (vs := [.slice a_a a.length a_c]) Tryz.func81 rfl rfl (NL rfl) ?_
 have ha_len := ha.len
 refine SEQ (RG (UU 1 [] (NR (UU 2 [(6, I (a.length : Int))] (OPC (MAKEN 47 (.tmp 6) (.tmp 6) 7 47 (by kernel_rfl) (NL rfl) a.length (by kernel_rfl) (by kernel_rfl) 115 (by kernel_rfl) (sl 122 pinL) 1 rfl ([] : List Pin) (.slice none 0 0) 24 (fun w => slZ _ _ w) (by kernel_rfl) (by decide) (by omega) (by simp only [maxLen]; omega) (fun a1 ha2 => (UU 1 [(3, .v (.slice a1 a.length a.length))] (ENDOPS (NEXT (SEQ (SEQ (RG (UU 1 [(4, I 0)] (ENDOPS (NEXT (BLOCK (LOOP (ι := Nat × (List (List Pin)) × (List (List Pin))) (fun j => [(0, .v (.slice a_a a.length a_c)), (3, .v (.slice a1 a.length a.length)), (4, I (j.1 : Int))]) (fun j => []) (fun j => [slA 115 (sl 122 pinL) (.slice a1 a.length a.length) j.2.2]) (fun j => j.1 + j.2.1.length = a.length ∧ a.drop j.1 = j.2.1 ∧ j.2.2 = a.take j.1 ++ List.replicate j.2.1.length ([] : List Pin)) (fun j => j.2.1.length) (0, a, List.replicate a.length ([] : List Pin)) [0, 3, 4] ⟨by simp, rfl, by simp⟩ (by kernel_rfl) rfl rfl ?_))))))))))))))))))
 rintro ⟨k, ys, out⟩ ⟨hk, hd, hv0⟩
 try dsimp only at hk hd hv0
 refine SEQ (SEQ (RG (UU 4 [(11, B (decide ((k : Int) < (a.length : Int))))] (NI (decide ((k : Int) < (a.length : Int))) (fun bh3 => ?_) (fun bh3 => ?_)))))
 ·
  have h3 := of_decide_eq_true bh3
  obtain ⟨y4, ys5, rfl, hx_y4, hd_y4, hl_y4⟩ := drop_cons hd hk (by omega)
  have hfm := flat_mem hx_y4
  refine SKIP (NEXT (SEQ (BLOCK (RG (UU 4 [(14, .v (.slice a1 a.length a.length)), (15, I (k : Int)), (16, .v (.slice a_a a.length a_c)), (17, I (k : Int))] ?_)))))
  obtain ⟨a6, c7, hel9, hi8, hi8_cap⟩ := sl_view ha hx_y4
  have hi8_len := hi8.len
  refine OPC (IX 72 (.tmp 16) (.tmp 17) 18 0 a_a a.length a_c .i64 (k : Int) 130 1 (Rd.some ha (by omega)) (by omega) (by omega) (OPC (LE 130 (.tmp 18) 19 130 a_a (k * 1) 0 ([.slice a6 y4.length c7]) (.slice a6 y4.length c7) (fun w hw => hel9.fr hw.fr) (OPC (CA 104 #[.slice a6 y4.length c7] (some 20) (⟨HH, fun p => .slice p.1 y4.length p.2, fun p => [slA 122 pinL (.slice p.1 y4.length p.2) y4]⟩) (fun w hw => toPinS_c w y4 a6 c7 (hi8.fr hw.fr) (by first | assumption | omega | (dsimp only; omega) | (simp only [List.length_append, List.length_cons, List.length_nil] at *; omega))) ?_)))))
  rintro ⟨a10, c11⟩
  refine FACT (a.length = out.length) (fun w hw => (SlO.lenE (hw.own 0 rfl)).1) (fun hln12 => ?_)
  obtain ⟨x13, hx14⟩ : ∃ y, out[k]? = some y := ⟨_, List.getElem?_eq_getElem (by omega)⟩
  refine OPC (IX 47 (.tmp 14) (.tmp 15) 21 0 a1 a.length a.length .i64 (k : Int) 115 1 ha2 (by omega) (by omega) (OPC (STOREN 115 (.tmp 21) (.tmp 20) 0 (by kernel_rfl) 115 (sl 122 pinL) a1 a.length a.length k out [0, 0] [slA 122 pinL (.slice a10 y4.length c11) y4] _ rfl y4 (by omega) (.slice a10 y4.length c11) (by kernel_rfl) (by kernel_rfl) (by kernel_rfl) (nestRep (e' := 0) (x := y4)) (ENDOPS (OUTN (NEXT (RG (UU 2 [(13, I (wr ((k : Int) + 1)))] (CS 13 (vi (wr ((k : Int) + 1))) (vi ((k + 1 : Nat) : Int)) (vi_cast (by omega) (by omega)) (UU 1 [(4, I ((k + 1 : Nat) : Int))] (ENDOPS (BK (k + 1, ys5, out.set k y4) [0, 3, 4] 0 [0] ⟨hl_y4, hd_y4, by rw [hv0]; exact set_next hk hx_y4⟩ (by simp)))))))))))))
 ·
  have h3 := of_decide_eq_false bh3
  obtain rfl := drop_nil hk (by omega)
  refine EXIT (PASS trivial (PASS trivial (OUT (NEXT (SEQ (RG (UU 2 [(2, .v (.slice a1 a.length a.length))] (ENDOPS (NEXT (RET ?_))))))))))
  have efin : a = out := by rw [hv0]; simp [show k = a.length by simpa using hk]
  refine FIN (.slice a1 a.length a.length) (by kernel_rfl) (a1, a.length) ?_ [0] ?_
  · (rw [efin] <;> rfl)
  · (rw [efin] <;> rfl)

theorem toWheel_c (W : World) (a : Wheel) (a_spoke_a : Option Addr) (a_spoke_c : Nat) (ha_spoke : Rd (sl 154 pinL) W a_spoke_a a.spoke) (hb : a.spoke.length ≤ 1048576) (hf : a.spoke.flatten.length ≤ 1048576) : Spec Tryz.prog W [] 54 #[.agg #[.slice a_spoke_a a.spoke.length a_spoke_c]] (⟨HH, fun p => .agg #[.slice p.1 a.spoke.length p.2], fun p => [slA 115 (sl 122 pinL) (.slice p.1 a.spoke.length p.2) a.spoke]⟩) := by
 refine ENTER0 (N := 9) (vs := [.agg #[.slice a_spoke_a a.spoke.length a_spoke_c]]) Tryz.func54 rfl rfl (NL rfl) ?_
 have ha_spoke_len := ha_spoke.len
 refine SEQ (RG (UL 2 [(1, .p 0 0), (2, .p 1 0)] [(74, [.slice a_spoke_a a.spoke.length a_spoke_c]), (49, [.slice none 0 0])] (NR (UL 1 [(3, .p 2 0)] [(74, [.slice a_spoke_a a.spoke.length a_spoke_c]), (49, [.slice none 0 0]), (49, [.slice none 0 0])] (NR (UU 2 [(5, .v (.slice a_spoke_a a.spoke.length a_spoke_c))] (OPC (CA 81 #[.slice a_spoke_a a.spoke.length a_spoke_c] (some 6) (⟨HH, fun p => .slice p.1 a.spoke.length p.2, fun p => [slA 115 (sl 122 pinL) (.slice p.1 a.spoke.length p.2) a.spoke]⟩) (fun w hw => toPinSS_c w a.spoke a_spoke_a a_spoke_c (ha_spoke.fr hw.fr) (by first | assumption | omega | (dsimp only; omega) | (simp only [List.length_append, List.length_cons, List.length_nil] at *; omega)) (by first | assumption | omega | (dsimp only; omega) | (simp only [List.length_append, List.length_cons, List.length_nil] at *; omega))) ?_))))))))
 rintro ⟨a1, c2⟩
 refine UL 2 [] [(74, [.slice a_spoke_a a.spoke.length a_spoke_c]), (49, [.slice none 0 0]), (49, [.slice a1 a.spoke.length c2])] (NR (UL 2 [] [(74, [.slice a_spoke_a a.spoke.length a_spoke_c]), (49, [.slice a1 a.spoke.length c2]), (49, [.slice a1 a.spoke.length c2])] (ENDOPS (NEXT (RF rfl (.agg #[.slice a1 a.spoke.length c2]) (a1, c2) [0] ?_ ?_)))))
 · rfl
 · rfl

theorem toCabin_c (W : World) (a : Cabin) (a_row_a : Option Addr) (a_row_c : Nat) (ha_row : Rd entryL W a_row_a a.row) (a_wheel_spoke_a : Option Addr) (a_wheel_spoke_c : Nat) (ha_wheel_spoke : Rd (sl 154 pinL) W a_wheel_spoke_a a.wheel.spoke) (hs : CabinSz a) : Spec Tryz.prog W [] 35 #[.agg #[vi a.seats.total, vi a.seats.free, vi a.seats.held, vi a.seats.sold, vi a.seats.tied, .slice a_row_a a.row.length a_row_c, .slice a_wheel_spoke_a a.wheel.spoke.length a_wheel_spoke_c]] (⟨HH × HH, fun p => .agg #[vi a.seats.total, vi a.seats.free, vi a.seats.held, vi a.seats.sold, vi a.seats.tied, .slice p.1.1 a.row.length p.1.2, .slice p.2.1 a.wheel.spoke.length p.2.2], fun p => [slA 54 entryL (.slice p.1.1 a.row.length p.1.2) a.row, slA 115 (sl 122 pinL) (.slice p.2.1 a.wheel.spoke.length p.2.2) a.wheel.spoke]⟩) := by
 refine ENTER0 (N := 17) (vs := [.agg #[vi a.seats.total, vi a.seats.free, vi a.seats.held, vi a.seats.sold, vi a.seats.tied, .slice a_row_a a.row.length a_row_c, .slice a_wheel_spoke_a a.wheel.spoke.length a_wheel_spoke_c]]) Tryz.func35 rfl rfl (NL rfl) ?_
 have hs9 : a.row.length ≤ 1048576 ∧ a.wheel.spoke.length ≤ 1048576 ∧ a.wheel.spoke.flatten.length ≤ 1048576 := hs
 have ha_row_len := ha_row.len
 have ha_wheel_spoke_len := ha_wheel_spoke.len
 refine SEQ (RG (UL 2 [(1, .p 0 0), (2, .p 1 0)] [(76, [vi a.seats.total, vi a.seats.free, vi a.seats.held, vi a.seats.sold, vi a.seats.tied, .slice a_row_a a.row.length a_row_c, .slice a_wheel_spoke_a a.wheel.spoke.length a_wheel_spoke_c]), (51, [vi 0, vi 0, vi 0, vi 0, vi 0, .slice none 0 0, .slice none 0 0])] (NR (UL 1 [(3, .p 2 0)] [(76, [vi a.seats.total, vi a.seats.free, vi a.seats.held, vi a.seats.sold, vi a.seats.tied, .slice a_row_a a.row.length a_row_c, .slice a_wheel_spoke_a a.wheel.spoke.length a_wheel_spoke_c]), (51, [vi 0, vi 0, vi 0, vi 0, vi 0, .slice none 0 0, .slice none 0 0]), (51, [vi 0, vi 0, vi 0, vi 0, vi 0, .slice none 0 0, .slice none 0 0])] (NR (UU 2 [(5, .v (.agg (ledgerE a.seats).toArray))] (OPC (CA 52 #[.agg #[vi a.seats.total, vi a.seats.free, vi a.seats.held, vi a.seats.sold, vi a.seats.tied]] (some 6) (RV (.agg #[vi a.seats.total, vi a.seats.free, vi a.seats.held, vi a.seats.sold, vi a.seats.tied])) (fun w hw => toLedger_c w a.seats) ?_))))))))
 rintro ⟨⟩
 refine UL 2 [] [(76, [vi a.seats.total, vi a.seats.free, vi a.seats.held, vi a.seats.sold, vi a.seats.tied, .slice a_row_a a.row.length a_row_c, .slice a_wheel_spoke_a a.wheel.spoke.length a_wheel_spoke_c]), (51, [vi 0, vi 0, vi 0, vi 0, vi 0, .slice none 0 0, .slice none 0 0]), (51, [vi a.seats.total, vi a.seats.free, vi a.seats.held, vi a.seats.sold, vi a.seats.tied, .slice none 0 0, .slice none 0 0])] (NR (UU 2 [(9, .v (.slice a_row_a a.row.length a_row_c))] (OPC (CA 53 #[.slice a_row_a a.row.length a_row_c] (some 10) (⟨HH, fun p => .slice p.1 a.row.length p.2, fun p => [slA 54 entryL (.slice p.1 a.row.length p.2) a.row]⟩) (fun w hw => toEntryS_c w a.row a_row_a a_row_c (ha_row.fr hw.fr) (by first | assumption | omega | (dsimp only; omega) | (simp only [List.length_append, List.length_cons, List.length_nil] at *; omega))) ?_))))
 rintro ⟨a1, c2⟩
 refine UL 2 [] [(76, [vi a.seats.total, vi a.seats.free, vi a.seats.held, vi a.seats.sold, vi a.seats.tied, .slice a_row_a a.row.length a_row_c, .slice a_wheel_spoke_a a.wheel.spoke.length a_wheel_spoke_c]), (51, [vi 0, vi 0, vi 0, vi 0, vi 0, .slice none 0 0, .slice none 0 0]), (51, [vi a.seats.total, vi a.seats.free, vi a.seats.held, vi a.seats.sold, vi a.seats.tied, .slice a1 a.row.length c2, .slice none 0 0])] (NR (UU 2 [(13, .v (.agg #[.slice a_wheel_spoke_a a.wheel.spoke.length a_wheel_spoke_c]))] (OPC (CA 54 #[.agg #[.slice a_wheel_spoke_a a.wheel.spoke.length a_wheel_spoke_c]] (some 14) (⟨HH, fun p => .agg #[.slice p.1 a.wheel.spoke.length p.2], fun p => [slA 115 (sl 122 pinL) (.slice p.1 a.wheel.spoke.length p.2) a.wheel.spoke]⟩) (fun w hw => toWheel_c w a.wheel a_wheel_spoke_a a_wheel_spoke_c (ha_wheel_spoke.fr hw.fr) (by first | assumption | omega | (dsimp only; omega) | (simp only [List.length_append, List.length_cons, List.length_nil] at *; omega)) (by first | assumption | omega | (dsimp only; omega) | (simp only [List.length_append, List.length_cons, List.length_nil] at *; omega))) ?_))))
 rintro ⟨a3, c4⟩
 refine UL 2 [] [(76, [vi a.seats.total, vi a.seats.free, vi a.seats.held, vi a.seats.sold, vi a.seats.tied, .slice a_row_a a.row.length a_row_c, .slice a_wheel_spoke_a a.wheel.spoke.length a_wheel_spoke_c]), (51, [vi 0, vi 0, vi 0, vi 0, vi 0, .slice none 0 0, .slice none 0 0]), (51, [vi a.seats.total, vi a.seats.free, vi a.seats.held, vi a.seats.sold, vi a.seats.tied, .slice a1 a.row.length c2, .slice a3 a.wheel.spoke.length c4])] (NR (UL 2 [] [(76, [vi a.seats.total, vi a.seats.free, vi a.seats.held, vi a.seats.sold, vi a.seats.tied, .slice a_row_a a.row.length a_row_c, .slice a_wheel_spoke_a a.wheel.spoke.length a_wheel_spoke_c]), (51, [vi a.seats.total, vi a.seats.free, vi a.seats.held, vi a.seats.sold, vi a.seats.tied, .slice a1 a.row.length c2, .slice a3 a.wheel.spoke.length c4]), (51, [vi a.seats.total, vi a.seats.free, vi a.seats.held, vi a.seats.sold, vi a.seats.tied, .slice a1 a.row.length c2, .slice a3 a.wheel.spoke.length c4])] (ENDOPS (NEXT (RF rfl (.agg #[vi a.seats.total, vi a.seats.free, vi a.seats.held, vi a.seats.sold, vi a.seats.tied, .slice a1 a.row.length c2, .slice a3 a.wheel.spoke.length c4]) ((a1, c2), (a3, c4)) [0, 0] ?_ ?_)))))
 · rfl
 · rfl

theorem toCabinS_c (W : World) (a : List Cabin) (a_a : Option Addr) (a_c : Nat) (ha : Rd (cabinLx 119 130 154) W a_a a) (hb : a.length ≤ 1048576) (hs : ∀ c ∈ a, CabinSz c) : Spec Tryz.prog W [] 19 #[.slice a_a a.length a_c] (⟨HH, fun p => .slice p.1 a.length p.2, fun p => [slA 51 (cabinLx 54 115 122) (.slice p.1 a.length p.2) a]⟩) := by
 refine ENTER0 (N := 23) (vs := [.slice a_a a.length a_c]) Tryz.func19 rfl rfl (NL rfl) ?_
 have ha_len := ha.len
 refine SEQ (RG (UU 1 [] (NR (UU 2 [(6, I (a.length : Int))] (OPC (MAKEN 33 (.tmp 6) (.tmp 6) 7 33 (by kernel_rfl) (NL rfl) a.length (by kernel_rfl) (by kernel_rfl) 51 (by kernel_rfl) (cabinLx 54 115 122) 7 rfl (⟨(⟨0, 0, 0, 0, 0⟩ : Ledger), [], (⟨[]⟩ : Wheel)⟩ : Cabin) (.agg #[vi 0, vi 0, vi 0, vi 0, vi 0, .slice none 0 0, .slice none 0 0]) 88 (fun w => cabinZ w) (by kernel_rfl) (by decide) (by omega) (by simp only [maxLen]; omega) (fun a1 ha2 => (UU 1 [(3, .v (.slice a1 a.length a.length))] (ENDOPS (NEXT (SEQ (SEQ (RG (UU 1 [(4, I 0)] (ENDOPS (NEXT (BLOCK (LOOP (ι := Nat × (List Cabin) × (List Cabin)) (fun j => [(0, .v (.slice a_a a.length a_c)), (3, .v (.slice a1 a.length a.length)), (4, I (j.1 : Int))]) (fun j => []) (fun j => [slA 51 (cabinLx 54 115 122) (.slice a1 a.length a.length) j.2.2]) (fun j => j.1 + j.2.1.length = a.length ∧ a.drop j.1 = j.2.1 ∧ j.2.2 = a.take j.1 ++ List.replicate j.2.1.length (⟨⟨0, 0, 0, 0, 0⟩, [], ⟨[]⟩⟩ : Cabin)) (fun j => j.2.1.length) (0, a, List.replicate a.length (⟨(⟨0, 0, 0, 0, 0⟩ : Ledger), [], (⟨[]⟩ : Wheel)⟩ : Cabin)) [0, 3, 4] ⟨by simp, rfl, by simp⟩ (by kernel_rfl) rfl rfl ?_))))))))))))))))))
 rintro ⟨k, ys, out⟩ ⟨hk, hd, hv0⟩
 try dsimp only at hk hd hv0
 refine SEQ (SEQ (RG (UU 4 [(11, B (decide ((k : Int) < (a.length : Int))))] (NI (decide ((k : Int) < (a.length : Int))) (fun bh3 => ?_) (fun bh3 => ?_)))))
 ·
  have h3 := of_decide_eq_true bh3
  obtain ⟨y4, ys5, rfl, hx_y4, hd_y4, hl_y4⟩ := drop_cons hd hk (by omega)
  have hcz := hs _ (List.mem_of_getElem? hx_y4)
  refine SKIP (NEXT (SEQ (BLOCK (RG (UU 4 [(14, .v (.slice a1 a.length a.length)), (15, I (k : Int)), (16, .v (.slice a_a a.length a_c)), (17, I (k : Int))] ?_)))))
  obtain ⟨a6, c7, a9, c10, hel12, hi8, hi11, hi8_cap, hi11_cap⟩ := cabin_view ha hx_y4
  have hi8_len := hi8.len
  have hi11_len := hi11.len
  refine OPC (IX 26 (.tmp 16) (.tmp 17) 18 0 a_a a.length a_c .i64 (k : Int) 76 7 (Rd.some ha (by omega)) (by omega) (by omega) (OPC (LE 76 (.tmp 18) 19 76 a_a (k * 7) 0 ([vi y4.seats.total, vi y4.seats.free, vi y4.seats.held, vi y4.seats.sold, vi y4.seats.tied, .slice a6 y4.row.length c7, .slice a9 y4.wheel.spoke.length c10]) (.agg #[vi y4.seats.total, vi y4.seats.free, vi y4.seats.held, vi y4.seats.sold, vi y4.seats.tied, .slice a6 y4.row.length c7, .slice a9 y4.wheel.spoke.length c10]) (fun w hw => hel12.fr hw.fr) (OPC (CA 35 #[.agg #[vi y4.seats.total, vi y4.seats.free, vi y4.seats.held, vi y4.seats.sold, vi y4.seats.tied, .slice a6 y4.row.length c7, .slice a9 y4.wheel.spoke.length c10]] (some 20) (⟨HH × HH, fun p => .agg #[vi y4.seats.total, vi y4.seats.free, vi y4.seats.held, vi y4.seats.sold, vi y4.seats.tied, .slice p.1.1 y4.row.length p.1.2, .slice p.2.1 y4.wheel.spoke.length p.2.2], fun p => [slA 54 entryL (.slice p.1.1 y4.row.length p.1.2) y4.row, slA 115 (sl 122 pinL) (.slice p.2.1 y4.wheel.spoke.length p.2.2) y4.wheel.spoke]⟩) (fun w hw => toCabin_c w y4 a6 c7 (hi8.fr hw.fr) a9 c10 (hi11.fr hw.fr) (by first | assumption | exact hs _ (List.mem_of_getElem? (by assumption)))) ?_)))))
  rintro ⟨⟨a13, c14⟩, ⟨a15, c16⟩⟩
  refine FACT (a.length = out.length) (fun w hw => (SlO.lenE (hw.own 0 rfl)).1) (fun hln17 => ?_)
  obtain ⟨x18, hx19⟩ : ∃ y, out[k]? = some y := ⟨_, List.getElem?_eq_getElem (by omega)⟩
  refine OPC (IX 33 (.tmp 14) (.tmp 15) 21 0 a1 a.length a.length .i64 (k : Int) 51 7 ha2 (by omega) (by omega) (OPC (STOREN 51 (.tmp 21) (.tmp 20) 0 (by kernel_rfl) 51 (cabinLx 54 115 122) a1 a.length a.length k out [0, 0, 0] [slA 54 entryL (.slice a13 y4.row.length c14) y4.row, slA 115 (sl 122 pinL) (.slice a15 y4.wheel.spoke.length c16) y4.wheel.spoke] _ rfl y4 (by omega) (.agg #[vi y4.seats.total, vi y4.seats.free, vi y4.seats.held, vi y4.seats.sold, vi y4.seats.tied, .slice a13 y4.row.length c14, .slice a15 y4.wheel.spoke.length c16]) (by kernel_rfl) (by kernel_rfl) (by kernel_rfl) (cabinRep (c := y4)) (ENDOPS (OUTN (NEXT (RG (UU 2 [(13, I (wr ((k : Int) + 1)))] (CS 13 (vi (wr ((k : Int) + 1))) (vi ((k + 1 : Nat) : Int)) (vi_cast (by omega) (by omega)) (UU 1 [(4, I ((k + 1 : Nat) : Int))] (ENDOPS (BK (k + 1, ys5, out.set k y4) [0, 3, 4] 0 [0] ⟨hl_y4, hd_y4, by rw [hv0]; exact set_next hk hx_y4⟩ (by simp)))))))))))))
 ·
  have h3 := of_decide_eq_false bh3
  obtain rfl := drop_nil hk (by omega)
  refine EXIT (PASS trivial (PASS trivial (OUT (NEXT (SEQ (RG (UU 2 [(2, .v (.slice a1 a.length a.length))] (ENDOPS (NEXT (RET ?_))))))))))
  have efin : a = out := by rw [hv0]; simp [show k = a.length by simpa using hk]
  refine FIN (.slice a1 a.length a.length) (by kernel_rfl) (a1, a.length) ?_ [0] ?_
  · (rw [efin] <;> rfl)
  · (rw [efin] <;> rfl)

theorem toHouse_c (W : World) (a : House) (a_rules_seats_a : Option Addr) (a_rules_seats_c : Nat) (ha_rules_seats : Rd intL W a_rules_seats_a a.rules.seats) (a_parties_a : Option Addr) (a_parties_c : Nat) (ha_parties : Rd partyL W a_parties_a a.parties) (a_cabins_a : Option Addr) (a_cabins_c : Nat) (ha_cabins : Rd (cabinLx 119 130 154) W a_cabins_a a.cabins) (a_todo_a : Option Addr) (a_todo_c : Nat) (ha_todo : Rd intL W a_todo_a a.todo) (a_jobs_a : Option Addr) (a_jobs_c : Nat) (ha_jobs : Rd intL W a_jobs_a a.jobs) (hs : HouseSz a) : Spec Tryz.prog W [] 6 #[.agg #[.slice a_rules_seats_a a.rules.seats.length a_rules_seats_c, vi a.rules.tiers, vi a.rules.room, vi a.rules.size, vi a.rules.period, vi a.rules.window, vi a.rules.rest, vi a.rules.tries, vi a.rules.crew, vi a.now, vi a.turn, .slice a_parties_a a.parties.length a_parties_c, .slice a_cabins_a a.cabins.length a_cabins_c, .slice a_todo_a a.todo.length a_todo_c, .slice a_jobs_a a.jobs.length a_jobs_c]] (⟨HH × HH × HH × HH × HH, fun p => .agg #[.slice p.1.1 a.rules.seats.length p.1.2, vi a.rules.tiers, vi a.rules.room, vi a.rules.size, vi a.rules.period, vi a.rules.window, vi a.rules.rest, vi a.rules.tries, vi a.rules.crew, vi a.now, vi a.turn, .slice p.2.1.1 a.parties.length p.2.1.2, .slice p.2.2.1.1 a.cabins.length p.2.2.1.2, .slice p.2.2.2.1.1 a.todo.length p.2.2.2.1.2, .slice p.2.2.2.2.1 a.jobs.length p.2.2.2.2.2], fun p => [slA 3 intL (.slice p.1.1 a.rules.seats.length p.1.2) a.rules.seats, slA 57 partyL (.slice p.2.1.1 a.parties.length p.2.1.2) a.parties, slA 51 (cabinLx 54 115 122) (.slice p.2.2.1.1 a.cabins.length p.2.2.1.2) a.cabins, slA 3 intL (.slice p.2.2.2.1.1 a.todo.length p.2.2.2.1.2) a.todo, slA 3 intL (.slice p.2.2.2.2.1 a.jobs.length p.2.2.2.2.2) a.jobs]⟩) := by
 refine ENTER0 (N := 31) (vs := [.agg #[.slice a_rules_seats_a a.rules.seats.length a_rules_seats_c, vi a.rules.tiers, vi a.rules.room, vi a.rules.size, vi a.rules.period, vi a.rules.window, vi a.rules.rest, vi a.rules.tries, vi a.rules.crew, vi a.now, vi a.turn, .slice a_parties_a a.parties.length a_parties_c, .slice a_cabins_a a.cabins.length a_cabins_c, .slice a_todo_a a.todo.length a_todo_c, .slice a_jobs_a a.jobs.length a_jobs_c]]) Tryz.func6 rfl rfl (NL rfl) ?_
 have hs9 := hs.1; have hs8 := hs.2.1; have hs7 := hs.2.2.1; have hs6 := hs.2.2.2.1; have hs5 := hs.2.2.2.2.1
 have ha_rules_seats_len := ha_rules_seats.len
 have ha_parties_len := ha_parties.len
 have ha_cabins_len := ha_cabins.len
 have ha_todo_len := ha_todo.len
 have ha_jobs_len := ha_jobs.len
 refine SEQ (RG (UL 2 [(1, .p 0 0), (2, .p 1 0)] [(28, [.slice a_rules_seats_a a.rules.seats.length a_rules_seats_c, vi a.rules.tiers, vi a.rules.room, vi a.rules.size, vi a.rules.period, vi a.rules.window, vi a.rules.rest, vi a.rules.tries, vi a.rules.crew, vi a.now, vi a.turn, .slice a_parties_a a.parties.length a_parties_c, .slice a_cabins_a a.cabins.length a_cabins_c, .slice a_todo_a a.todo.length a_todo_c, .slice a_jobs_a a.jobs.length a_jobs_c]), (35, [.slice none 0 0, vi 0, vi 0, vi 0, vi 0, vi 0, vi 0, vi 0, vi 0, vi 0, vi 0, .slice none 0 0, .slice none 0 0, .slice none 0 0, .slice none 0 0])] (NR (UL 1 [(3, .p 2 0)] [(28, [.slice a_rules_seats_a a.rules.seats.length a_rules_seats_c, vi a.rules.tiers, vi a.rules.room, vi a.rules.size, vi a.rules.period, vi a.rules.window, vi a.rules.rest, vi a.rules.tries, vi a.rules.crew, vi a.now, vi a.turn, .slice a_parties_a a.parties.length a_parties_c, .slice a_cabins_a a.cabins.length a_cabins_c, .slice a_todo_a a.todo.length a_todo_c, .slice a_jobs_a a.jobs.length a_jobs_c]), (35, [.slice none 0 0, vi 0, vi 0, vi 0, vi 0, vi 0, vi 0, vi 0, vi 0, vi 0, vi 0, .slice none 0 0, .slice none 0 0, .slice none 0 0, .slice none 0 0]), (35, [.slice none 0 0, vi 0, vi 0, vi 0, vi 0, vi 0, vi 0, vi 0, vi 0, vi 0, vi 0, .slice none 0 0, .slice none 0 0, .slice none 0 0, .slice none 0 0])] (NR (UU 2 [(5, .v (.agg #[.slice a_rules_seats_a a.rules.seats.length a_rules_seats_c, vi a.rules.tiers, vi a.rules.room, vi a.rules.size, vi a.rules.period, vi a.rules.window, vi a.rules.rest, vi a.rules.tries, vi a.rules.crew]))] ?_))))))
 refine OPC (CA 17 #[.agg #[.slice a_rules_seats_a a.rules.seats.length a_rules_seats_c, vi a.rules.tiers, vi a.rules.room, vi a.rules.size, vi a.rules.period, vi a.rules.window, vi a.rules.rest, vi a.rules.tries, vi a.rules.crew]] (some 6) (⟨HH, fun p => .agg #[.slice p.1 a.rules.seats.length p.2, vi a.rules.tiers, vi a.rules.room, vi a.rules.size, vi a.rules.period, vi a.rules.window, vi a.rules.rest, vi a.rules.tries, vi a.rules.crew], fun p => [slA 3 intL (.slice p.1 a.rules.seats.length p.2) a.rules.seats]⟩) (fun w hw => toRules_c w a.rules a_rules_seats_a a_rules_seats_c (ha_rules_seats.fr hw.fr) (by first | omega | (simp only [List.length_append, List.length_cons, List.length_nil, List.length_take, List.length_drop] at *; omega))) ?_)
 rintro ⟨a1, c2⟩
 refine UL 2 [] [(28, [.slice a_rules_seats_a a.rules.seats.length a_rules_seats_c, vi a.rules.tiers, vi a.rules.room, vi a.rules.size, vi a.rules.period, vi a.rules.window, vi a.rules.rest, vi a.rules.tries, vi a.rules.crew, vi a.now, vi a.turn, .slice a_parties_a a.parties.length a_parties_c, .slice a_cabins_a a.cabins.length a_cabins_c, .slice a_todo_a a.todo.length a_todo_c, .slice a_jobs_a a.jobs.length a_jobs_c]), (35, [.slice none 0 0, vi 0, vi 0, vi 0, vi 0, vi 0, vi 0, vi 0, vi 0, vi 0, vi 0, .slice none 0 0, .slice none 0 0, .slice none 0 0, .slice none 0 0]), (35, [.slice a1 a.rules.seats.length c2, vi a.rules.tiers, vi a.rules.room, vi a.rules.size, vi a.rules.period, vi a.rules.window, vi a.rules.rest, vi a.rules.tries, vi a.rules.crew, vi 0, vi 0, .slice none 0 0, .slice none 0 0, .slice none 0 0, .slice none 0 0])] (NR (UL 4 [] [(28, [.slice a_rules_seats_a a.rules.seats.length a_rules_seats_c, vi a.rules.tiers, vi a.rules.room, vi a.rules.size, vi a.rules.period, vi a.rules.window, vi a.rules.rest, vi a.rules.tries, vi a.rules.crew, vi a.now, vi a.turn, .slice a_parties_a a.parties.length a_parties_c, .slice a_cabins_a a.cabins.length a_cabins_c, .slice a_todo_a a.todo.length a_todo_c, .slice a_jobs_a a.jobs.length a_jobs_c]), (35, [.slice none 0 0, vi 0, vi 0, vi 0, vi 0, vi 0, vi 0, vi 0, vi 0, vi 0, vi 0, .slice none 0 0, .slice none 0 0, .slice none 0 0, .slice none 0 0]), (35, [.slice a1 a.rules.seats.length c2, vi a.rules.tiers, vi a.rules.room, vi a.rules.size, vi a.rules.period, vi a.rules.window, vi a.rules.rest, vi a.rules.tries, vi a.rules.crew, vi a.now, vi 0, .slice none 0 0, .slice none 0 0, .slice none 0 0, .slice none 0 0])] (NR ?_)))
 refine UL 4 [] [(28, [.slice a_rules_seats_a a.rules.seats.length a_rules_seats_c, vi a.rules.tiers, vi a.rules.room, vi a.rules.size, vi a.rules.period, vi a.rules.window, vi a.rules.rest, vi a.rules.tries, vi a.rules.crew, vi a.now, vi a.turn, .slice a_parties_a a.parties.length a_parties_c, .slice a_cabins_a a.cabins.length a_cabins_c, .slice a_todo_a a.todo.length a_todo_c, .slice a_jobs_a a.jobs.length a_jobs_c]), (35, [.slice none 0 0, vi 0, vi 0, vi 0, vi 0, vi 0, vi 0, vi 0, vi 0, vi 0, vi 0, .slice none 0 0, .slice none 0 0, .slice none 0 0, .slice none 0 0]), (35, [.slice a1 a.rules.seats.length c2, vi a.rules.tiers, vi a.rules.room, vi a.rules.size, vi a.rules.period, vi a.rules.window, vi a.rules.rest, vi a.rules.tries, vi a.rules.crew, vi a.now, vi a.turn, .slice none 0 0, .slice none 0 0, .slice none 0 0, .slice none 0 0])] (NR (UU 2 [(15, .v (.slice a_parties_a a.parties.length a_parties_c))] (OPC (CA 18 #[.slice a_parties_a a.parties.length a_parties_c] (some 16) (⟨HH, fun p => .slice p.1 a.parties.length p.2, fun p => [slA 57 partyL (.slice p.1 a.parties.length p.2) a.parties]⟩) (fun w hw => toPartyS_c w a.parties a_parties_a a_parties_c (ha_parties.fr hw.fr) (by first | assumption | omega | (dsimp only; omega) | (simp only [List.length_append, List.length_cons, List.length_nil] at *; omega))) ?_))))
 rintro ⟨a3, c4⟩
 refine UL 2 [] [(28, [.slice a_rules_seats_a a.rules.seats.length a_rules_seats_c, vi a.rules.tiers, vi a.rules.room, vi a.rules.size, vi a.rules.period, vi a.rules.window, vi a.rules.rest, vi a.rules.tries, vi a.rules.crew, vi a.now, vi a.turn, .slice a_parties_a a.parties.length a_parties_c, .slice a_cabins_a a.cabins.length a_cabins_c, .slice a_todo_a a.todo.length a_todo_c, .slice a_jobs_a a.jobs.length a_jobs_c]), (35, [.slice none 0 0, vi 0, vi 0, vi 0, vi 0, vi 0, vi 0, vi 0, vi 0, vi 0, vi 0, .slice none 0 0, .slice none 0 0, .slice none 0 0, .slice none 0 0]), (35, [.slice a1 a.rules.seats.length c2, vi a.rules.tiers, vi a.rules.room, vi a.rules.size, vi a.rules.period, vi a.rules.window, vi a.rules.rest, vi a.rules.tries, vi a.rules.crew, vi a.now, vi a.turn, .slice a3 a.parties.length c4, .slice none 0 0, .slice none 0 0, .slice none 0 0])] (NR (UU 2 [(19, .v (.slice a_cabins_a a.cabins.length a_cabins_c))] (OPC (CA 19 #[.slice a_cabins_a a.cabins.length a_cabins_c] (some 20) (⟨HH, fun p => .slice p.1 a.cabins.length p.2, fun p => [slA 51 (cabinLx 54 115 122) (.slice p.1 a.cabins.length p.2) a.cabins]⟩) (fun w hw => toCabinS_c w a.cabins a_cabins_a a_cabins_c (ha_cabins.fr hw.fr) (by first | assumption | omega | (dsimp only; omega) | (simp only [List.length_append, List.length_cons, List.length_nil] at *; omega)) (by first | assumption | exact hs.2.2.2.2.2)) ?_))))
 rintro ⟨a5, c6⟩
 refine UL 2 [] [(28, [.slice a_rules_seats_a a.rules.seats.length a_rules_seats_c, vi a.rules.tiers, vi a.rules.room, vi a.rules.size, vi a.rules.period, vi a.rules.window, vi a.rules.rest, vi a.rules.tries, vi a.rules.crew, vi a.now, vi a.turn, .slice a_parties_a a.parties.length a_parties_c, .slice a_cabins_a a.cabins.length a_cabins_c, .slice a_todo_a a.todo.length a_todo_c, .slice a_jobs_a a.jobs.length a_jobs_c]), (35, [.slice none 0 0, vi 0, vi 0, vi 0, vi 0, vi 0, vi 0, vi 0, vi 0, vi 0, vi 0, .slice none 0 0, .slice none 0 0, .slice none 0 0, .slice none 0 0]), (35, [.slice a1 a.rules.seats.length c2, vi a.rules.tiers, vi a.rules.room, vi a.rules.size, vi a.rules.period, vi a.rules.window, vi a.rules.rest, vi a.rules.tries, vi a.rules.crew, vi a.now, vi a.turn, .slice a3 a.parties.length c4, .slice a5 a.cabins.length c6, .slice none 0 0, .slice none 0 0])] (NR (UU 2 [(23, .v (.slice a_todo_a a.todo.length a_todo_c))] (OPC (CA 20 #[.slice a_todo_a a.todo.length a_todo_c] (some 24) (⟨HH, fun p => .slice p.1 a.todo.length p.2, fun p => [slA 3 intL (.slice p.1 a.todo.length p.2) a.todo]⟩) (fun w hw => toIntS_c w a.todo a_todo_a a_todo_c (ha_todo.fr hw.fr) (by first | assumption | omega | (dsimp only; omega) | (simp only [List.length_append, List.length_cons, List.length_nil] at *; omega))) ?_))))
 rintro ⟨a7, c8⟩
 refine UL 2 [] [(28, [.slice a_rules_seats_a a.rules.seats.length a_rules_seats_c, vi a.rules.tiers, vi a.rules.room, vi a.rules.size, vi a.rules.period, vi a.rules.window, vi a.rules.rest, vi a.rules.tries, vi a.rules.crew, vi a.now, vi a.turn, .slice a_parties_a a.parties.length a_parties_c, .slice a_cabins_a a.cabins.length a_cabins_c, .slice a_todo_a a.todo.length a_todo_c, .slice a_jobs_a a.jobs.length a_jobs_c]), (35, [.slice none 0 0, vi 0, vi 0, vi 0, vi 0, vi 0, vi 0, vi 0, vi 0, vi 0, vi 0, .slice none 0 0, .slice none 0 0, .slice none 0 0, .slice none 0 0]), (35, [.slice a1 a.rules.seats.length c2, vi a.rules.tiers, vi a.rules.room, vi a.rules.size, vi a.rules.period, vi a.rules.window, vi a.rules.rest, vi a.rules.tries, vi a.rules.crew, vi a.now, vi a.turn, .slice a3 a.parties.length c4, .slice a5 a.cabins.length c6, .slice a7 a.todo.length c8, .slice none 0 0])] (NR (UU 2 [(27, .v (.slice a_jobs_a a.jobs.length a_jobs_c))] (OPC (CA 20 #[.slice a_jobs_a a.jobs.length a_jobs_c] (some 28) (⟨HH, fun p => .slice p.1 a.jobs.length p.2, fun p => [slA 3 intL (.slice p.1 a.jobs.length p.2) a.jobs]⟩) (fun w hw => toIntS_c w a.jobs a_jobs_a a_jobs_c (ha_jobs.fr hw.fr) (by first | assumption | omega | (dsimp only; omega) | (simp only [List.length_append, List.length_cons, List.length_nil] at *; omega))) ?_))))
 rintro ⟨a9, c10⟩
 refine UL 2 [] [(28, [.slice a_rules_seats_a a.rules.seats.length a_rules_seats_c, vi a.rules.tiers, vi a.rules.room, vi a.rules.size, vi a.rules.period, vi a.rules.window, vi a.rules.rest, vi a.rules.tries, vi a.rules.crew, vi a.now, vi a.turn, .slice a_parties_a a.parties.length a_parties_c, .slice a_cabins_a a.cabins.length a_cabins_c, .slice a_todo_a a.todo.length a_todo_c, .slice a_jobs_a a.jobs.length a_jobs_c]), (35, [.slice none 0 0, vi 0, vi 0, vi 0, vi 0, vi 0, vi 0, vi 0, vi 0, vi 0, vi 0, .slice none 0 0, .slice none 0 0, .slice none 0 0, .slice none 0 0]), (35, [.slice a1 a.rules.seats.length c2, vi a.rules.tiers, vi a.rules.room, vi a.rules.size, vi a.rules.period, vi a.rules.window, vi a.rules.rest, vi a.rules.tries, vi a.rules.crew, vi a.now, vi a.turn, .slice a3 a.parties.length c4, .slice a5 a.cabins.length c6, .slice a7 a.todo.length c8, .slice a9 a.jobs.length c10])] (NR (UL 2 [] [(28, [.slice a_rules_seats_a a.rules.seats.length a_rules_seats_c, vi a.rules.tiers, vi a.rules.room, vi a.rules.size, vi a.rules.period, vi a.rules.window, vi a.rules.rest, vi a.rules.tries, vi a.rules.crew, vi a.now, vi a.turn, .slice a_parties_a a.parties.length a_parties_c, .slice a_cabins_a a.cabins.length a_cabins_c, .slice a_todo_a a.todo.length a_todo_c, .slice a_jobs_a a.jobs.length a_jobs_c]), (35, [.slice a1 a.rules.seats.length c2, vi a.rules.tiers, vi a.rules.room, vi a.rules.size, vi a.rules.period, vi a.rules.window, vi a.rules.rest, vi a.rules.tries, vi a.rules.crew, vi a.now, vi a.turn, .slice a3 a.parties.length c4, .slice a5 a.cabins.length c6, .slice a7 a.todo.length c8, .slice a9 a.jobs.length c10]), (35, [.slice a1 a.rules.seats.length c2, vi a.rules.tiers, vi a.rules.room, vi a.rules.size, vi a.rules.period, vi a.rules.window, vi a.rules.rest, vi a.rules.tries, vi a.rules.crew, vi a.now, vi a.turn, .slice a3 a.parties.length c4, .slice a5 a.cabins.length c6, .slice a7 a.todo.length c8, .slice a9 a.jobs.length c10])] (ENDOPS (NEXT (RET ?_)))))
 refine FIN (.agg #[.slice a1 a.rules.seats.length c2, vi a.rules.tiers, vi a.rules.room, vi a.rules.size, vi a.rules.period, vi a.rules.window, vi a.rules.rest, vi a.rules.tries, vi a.rules.crew, vi a.now, vi a.turn, .slice a3 a.parties.length c4, .slice a5 a.cabins.length c6, .slice a7 a.todo.length c8, .slice a9 a.jobs.length c10]) (by kernel_rfl) ((a1, c2), (a3, c4), (a5, c6), (a7, c8), (a9, c10)) ?_ [0, 0, 0, 0, 0] ?_
 · rfl
 · rfl

theorem eqIntS_c (W : World) (a : List Int) (a_a : Option Addr) (a_c : Nat) (ha : Rd intL W a_a a) (b : List Int) (b_a : Option Addr) (b_c : Nat) (hb : Rd intL W b_a b) : Spec Tryz.prog W [] 29 #[.slice a_a a.length a_c, .slice b_a b.length b_c] (RV (.bool (eqInts a b))) := by
 refine ENTER0 (N := 26) (vs := [.slice a_a a.length a_c, .slice b_a b.length b_c]) Tryz.func29 rfl rfl (NL rfl) ?_
 have ha_len := ha.len
 have hb_len := hb.len
 refine SEQ (RG (UU 1 [] (ENDOPS (NEXT (SEQ (SEQ (RG (UU 5 [(10, B ((a.length : Int) != (b.length : Int)))] (NI ((a.length : Int) != (b.length : Int)) (fun bh1 => ?_) (fun bh1 => ?_))))))))))
 ·
  have h1 := bne_iff_ne.1 bh1
  refine SEQ (RG (UU 1 [(4, B false)] (ENDOPS (NEXT (RF rfl (.bool false) () [] ?_ ?_)))))
  · simp [RV, eqInts_ne (a := a) (b := b) (by omega)]
  · rfl
 ·
  have h1 := bneF bh1
  refine SKIP (NEXT (SEQ (SEQ (RG (UU 1 [(5, I 0)] (ENDOPS (NEXT (BLOCK (LOOP (ι := Nat × (List Int)) (fun j => [(0, .v (.slice a_a a.length a_c)), (1, .v (.slice b_a b.length b_c)), (5, I (j.1 : Int))]) (fun j => []) (fun j => []) (fun j => j.1 + j.2.length = a.length ∧ a.drop j.1 = j.2 ∧ eqInts a b = eqInts j.2 (b.drop j.1)) (fun j => j.2.length) (0, a) [0, 1, 5] ⟨by simp, rfl, rfl⟩ (by kernel_rfl) rfl rfl ?_)))))))))
  rintro ⟨k, ys⟩ ⟨hk, hd, hv0⟩
  try dsimp only at hk hd hv0
  refine SEQ (SEQ (RG (UU 4 [(14, B (decide ((k : Int) < (a.length : Int))))] (NI (decide ((k : Int) < (a.length : Int))) (fun bh2 => ?_) (fun bh2 => ?_)))))
  ·
   have h2 := of_decide_eq_true bh2
   obtain ⟨y3, ys4, rfl, hx_y3, hd_y3, hl_y3⟩ := drop_cons hd hk (by omega)
   refine SKIP (NEXT (SEQ (BLOCK (SEQ (REGIONQ (by kernel_rfl) (by kernel_rfl) (QU 2 [(17, .v (.slice a_a a.length a_c)), (18, I (k : Int))] (QIX 22 (.tmp 17) (.tmp 18) 19 0 a_a a.length a_c .i64 (k : Int) 3 1 (Rd.some ha (by omega)) (by omega) (by omega) (QLE 3 (.tmp 19) 20 3 a_a (k * 1) 0 ([vi y3]) (vi y3) (fun w hw => (ha.fr hw.fr).flat hx_y3) (QU 2 [(21, .v (.slice b_a b.length b_c)), (22, I (k : Int))] ?_)))))))))
   obtain ⟨x5, hx6⟩ : ∃ y, b[k]? = some y := ⟨_, List.getElem?_eq_getElem (by omega)⟩
   refine QIX 22 (.tmp 21) (.tmp 22) 23 0 b_a b.length b_c .i64 (k : Int) 3 1 (Rd.some hb (by omega)) (by omega) (by omega) (QLE 3 (.tmp 23) 24 3 b_a (k * 1) 0 ([vi x5]) (vi x5) (fun w hw => (hb.fr hw.fr).flat hx6) (QU 1 [(25, B (y3 != x5))] (QEND rfl (NEXT (IFK (y3 != x5) (fun bh7 => ?_) (fun bh7 => ?_))))))
   ·
    have h7 := bne_iff_ne.1 bh7
    refine SEQ (RG (UU 1 [(4, B false)] (ENDOPS (NEXT (RF rfl (.bool false) () [] ?_ ?_)))))
    · simp [RV, hv0, drop_get ‹b[k]? = some _›, eqInts, *]
    · rfl
   ·
    have h7 := bneF bh7
    refine SKIP (OUTN (NEXT (RG (UU 2 [(16, I (wr ((k : Int) + 1)))] (CS 16 (vi (wr ((k : Int) + 1))) (vi ((k + 1 : Nat) : Int)) (vi_cast (by omega) (by omega)) (UU 1 [(5, I ((k + 1 : Nat) : Int))] (ENDOPS (BK (k + 1, ys4) [0, 1, 5] 0 [] ⟨hl_y3, hd_y3, hv0.trans (by simp [eqInts, drop_get ‹b[k]? = some _›, *])⟩ (by simp)))))))))
  ·
   have h2 := of_decide_eq_false bh2
   obtain rfl := drop_nil hk (by omega)
   refine EXIT (PASS trivial (PASS trivial (OUT (NEXT (SEQ (RG (UU 1 [(4, B true)] (ENDOPS (NEXT (RF rfl (.bool true) () [] ?_ ?_))))))))))
   · simp [RV, hv0, eqInts, List.drop_eq_nil_of_le (show b.length ≤ k by simp at hk; omega)]
   · rfl

theorem eqRules_c (W : World) (a : Rules) (a_seats_a : Option Addr) (a_seats_c : Nat) (ha_seats : Rd intL W a_seats_a a.seats) (b : Rules) (b_seats_a : Option Addr) (b_seats_c : Nat) (hb_seats : Rd intL W b_seats_a b.seats) : Spec Tryz.prog W [] 26 #[.agg #[.slice a_seats_a a.seats.length a_seats_c, vi a.tiers, vi a.room, vi a.size, vi a.period, vi a.window, vi a.rest, vi a.tries, vi a.crew], .agg #[.slice b_seats_a b.seats.length b_seats_c, vi b.tiers, vi b.room, vi b.size, vi b.period, vi b.window, vi b.rest, vi b.tries, vi b.crew]] (RV (.bool (eqRules a b))) := by
 refine ENTER0 (N := 51) (vs := [.agg #[.slice a_seats_a a.seats.length a_seats_c, vi a.tiers, vi a.room, vi a.size, vi a.period, vi a.window, vi a.rest, vi a.tries, vi a.crew], .agg #[.slice b_seats_a b.seats.length b_seats_c, vi b.tiers, vi b.room, vi b.size, vi b.period, vi b.window, vi b.rest, vi b.tries, vi b.crew]]) Tryz.func26 rfl rfl (NL rfl) ?_
 have ha_seats_len := ha_seats.len
 have hb_seats_len := hb_seats.len
 refine SEQ (RG (UL 3 [(2, .p 0 0), (3, .p 1 0)] [(31, [.slice a_seats_a a.seats.length a_seats_c, vi a.tiers, vi a.room, vi a.size, vi a.period, vi a.window, vi a.rest, vi a.tries, vi a.crew]), (31, [.slice b_seats_a b.seats.length b_seats_c, vi b.tiers, vi b.room, vi b.size, vi b.period, vi b.window, vi b.rest, vi b.tries, vi b.crew])] (ENDOPS (NEXT (SEQ (SEQ (RG (UU 4 [(6, .v (.slice a_seats_a a.seats.length a_seats_c)), (8, .v (.slice b_seats_a b.seats.length b_seats_c))] (OPC (CA 29 #[.slice a_seats_a a.seats.length a_seats_c, .slice b_seats_a b.seats.length b_seats_c] (some 9) (RV (.bool (eqInts a.seats b.seats))) (fun w hw => eqIntS_c w a.seats a_seats_a a_seats_c (ha_seats.fr hw.fr) b.seats b_seats_a b_seats_c (hb_seats.fr hw.fr)) ?_))))))))))
 rintro ⟨⟩
 refine UU 1 [(10, B (!(eqInts a.seats b.seats)))] (NI (!(eqInts a.seats b.seats)) (fun bh1 => ?_) (fun bh1 => ?_))
 ·
  have h1 := notT bh1
  refine SEQ (RG (UU 1 [(4, B false)] (ENDOPS (NEXT (RF rfl (.bool false) () [] ?_ ?_)))))
  · simp [RV, eqRules, *]
  · rfl
 ·
  have h1 := notF bh1
  refine SKIP (NEXT (SEQ (SEQ (RG (UU 5 [(15, B (a.tiers != b.tiers))] (NI (a.tiers != b.tiers) (fun bh2 => ?_) (fun bh2 => ?_)))))))
  ·
   have h2 := bne_iff_ne.1 bh2
   refine SEQ (RG (UU 1 [(4, B false)] (ENDOPS (NEXT (RF rfl (.bool false) () [] ?_ ?_)))))
   · simp [RV, eqRules, *]
   · rfl
  ·
   have h2 := bneF bh2
   refine SKIP (NEXT (SEQ (SEQ (RG (UU 5 [(20, B (a.room != b.room))] (NI (a.room != b.room) (fun bh3 => ?_) (fun bh3 => ?_)))))))
   ·
    have h3 := bne_iff_ne.1 bh3
    refine SEQ (RG (UU 1 [(4, B false)] (ENDOPS (NEXT (RF rfl (.bool false) () [] ?_ ?_)))))
    · simp [RV, eqRules, *]
    · rfl
   ·
    have h3 := bneF bh3
    refine SKIP (NEXT (SEQ (SEQ (RG (UU 5 [(25, B (a.size != b.size))] (NI (a.size != b.size) (fun bh4 => ?_) (fun bh4 => ?_)))))))
    ·
     have h4 := bne_iff_ne.1 bh4
     refine SEQ (RG (UU 1 [(4, B false)] (ENDOPS (NEXT (RF rfl (.bool false) () [] ?_ ?_)))))
     · simp [RV, eqRules, *]
     · rfl
    ·
     have h4 := bneF bh4
     refine SKIP (NEXT (SEQ (SEQ (RG (UU 5 [(30, B (a.period != b.period))] (NI (a.period != b.period) (fun bh5 => ?_) (fun bh5 => ?_)))))))
     ·
      have h5 := bne_iff_ne.1 bh5
      refine SEQ (RG (UU 1 [(4, B false)] (ENDOPS (NEXT (RF rfl (.bool false) () [] ?_ ?_)))))
      · simp [RV, eqRules, *]
      · rfl
     ·
      have h5 := bneF bh5
      refine SKIP (NEXT (SEQ (SEQ (RG (UU 5 [(35, B (a.window != b.window))] (NI (a.window != b.window) (fun bh6 => ?_) (fun bh6 => ?_)))))))
      ·
       have h6 := bne_iff_ne.1 bh6
       refine SEQ (RG (UU 1 [(4, B false)] (ENDOPS (NEXT (RF rfl (.bool false) () [] ?_ ?_)))))
       · simp [RV, eqRules, *]
       · rfl
      ·
       have h6 := bneF bh6
       refine SKIP (NEXT (SEQ (SEQ (RG (UU 5 [(40, B (a.rest != b.rest))] (NI (a.rest != b.rest) (fun bh7 => ?_) (fun bh7 => ?_)))))))
       ·
        have h7 := bne_iff_ne.1 bh7
        refine SEQ (RG (UU 1 [(4, B false)] (ENDOPS (NEXT (RF rfl (.bool false) () [] ?_ ?_)))))
        · simp [RV, eqRules, *]
        · rfl
       ·
        have h7 := bneF bh7
        refine SKIP (NEXT (SEQ (SEQ (RG (UU 5 [(45, B (a.tries != b.tries))] (NI (a.tries != b.tries) (fun bh8 => ?_) (fun bh8 => ?_)))))))
        ·
         have h8 := bne_iff_ne.1 bh8
         refine SEQ (RG (UU 1 [(4, B false)] (ENDOPS (NEXT (RF rfl (.bool false) () [] ?_ ?_)))))
         · simp [RV, eqRules, *]
         · rfl
        ·
         have h8 := bneF bh8
         refine SKIP (NEXT (SEQ (SEQ (RG (UU 5 [(50, B (a.crew != b.crew))] (NI (a.crew != b.crew) (fun bh9 => ?_) (fun bh9 => ?_)))))))
         ·
          have h9 := bne_iff_ne.1 bh9
          refine SEQ (RG (UU 1 [(4, B false)] (ENDOPS (NEXT (RF rfl (.bool false) () [] ?_ ?_)))))
          · simp [RV, eqRules, *]
          · rfl
         ·
          have h9 := bneF bh9
          refine SKIP (NEXT (SEQ (RG (UU 1 [(4, B true)] (ENDOPS (NEXT (RF rfl (.bool true) () [] ?_ ?_)))))))
          · simp [RV, eqRules, *]
          · rfl

theorem eqParty_c (W : World) (a : Party) (b : Party) : Spec Tryz.prog W [] 43 #[.agg #[vi a.id, vi a.cabin, vi a.from', vi a.size, vi a.tier, vi a.since, vi a.turn, vi a.state, vi a.until', vi a.asked], .agg #[vi b.id, vi b.cabin, vi b.from', vi b.size, vi b.tier, vi b.since, vi b.turn, vi b.state, vi b.until', vi b.asked]] (RV (.bool (eqParty a b))) := by
 refine ENTER0 (N := 55) (vs := [.agg #[vi a.id, vi a.cabin, vi a.from', vi a.size, vi a.tier, vi a.since, vi a.turn, vi a.state, vi a.until', vi a.asked], .agg #[vi b.id, vi b.cabin, vi b.from', vi b.size, vi b.tier, vi b.since, vi b.turn, vi b.state, vi b.until', vi b.asked]]) Tryz.func43 rfl rfl (NL rfl) ?_
 refine SEQ (RG (UL 3 [(2, .p 0 0), (3, .p 1 0)] [(57, partyE a), (57, partyE b)] (ENDOPS (NEXT (SEQ (SEQ (RG (UU 5 [(9, B (a.id != b.id))] (NI (a.id != b.id) (fun bh1 => ?_) (fun bh1 => ?_))))))))))
 ·
  have h1 := bne_iff_ne.1 bh1
  refine SEQ (RG (UU 1 [(4, B false)] (ENDOPS (NEXT (RF rfl (.bool false) () [] ?_ ?_)))))
  · (first | (simp [RV, eqParty, *]; done) | (simp_all [RV, eqParty]; done))
  · rfl
 ·
  have h1 := bneF bh1
  refine SKIP (NEXT (SEQ (SEQ (RG (UU 5 [(14, B (a.cabin != b.cabin))] (NI (a.cabin != b.cabin) (fun bh2 => ?_) (fun bh2 => ?_)))))))
  ·
   have h2 := bne_iff_ne.1 bh2
   refine SEQ (RG (UU 1 [(4, B false)] (ENDOPS (NEXT (RF rfl (.bool false) () [] ?_ ?_)))))
   · (first | (simp [RV, eqParty, *]; done) | (simp_all [RV, eqParty]; done))
   · rfl
  ·
   have h2 := bneF bh2
   refine SKIP (NEXT (SEQ (SEQ (RG (UU 5 [(19, B (a.from' != b.from'))] (NI (a.from' != b.from') (fun bh3 => ?_) (fun bh3 => ?_)))))))
   ·
    have h3 := bne_iff_ne.1 bh3
    refine SEQ (RG (UU 1 [(4, B false)] (ENDOPS (NEXT (RF rfl (.bool false) () [] ?_ ?_)))))
    · (first | (simp [RV, eqParty, *]; done) | (simp_all [RV, eqParty]; done))
    · rfl
   ·
    have h3 := bneF bh3
    refine SKIP (NEXT (SEQ (SEQ (RG (UU 5 [(24, B (a.size != b.size))] (NI (a.size != b.size) (fun bh4 => ?_) (fun bh4 => ?_)))))))
    ·
     have h4 := bne_iff_ne.1 bh4
     refine SEQ (RG (UU 1 [(4, B false)] (ENDOPS (NEXT (RF rfl (.bool false) () [] ?_ ?_)))))
     · (first | (simp [RV, eqParty, *]; done) | (simp_all [RV, eqParty]; done))
     · rfl
    ·
     have h4 := bneF bh4
     refine SKIP (NEXT (SEQ (SEQ (RG (UU 5 [(29, B (a.tier != b.tier))] (NI (a.tier != b.tier) (fun bh5 => ?_) (fun bh5 => ?_)))))))
     ·
      have h5 := bne_iff_ne.1 bh5
      refine SEQ (RG (UU 1 [(4, B false)] (ENDOPS (NEXT (RF rfl (.bool false) () [] ?_ ?_)))))
      · (first | (simp [RV, eqParty, *]; done) | (simp_all [RV, eqParty]; done))
      · rfl
     ·
      have h5 := bneF bh5
      refine SKIP (NEXT (SEQ (SEQ (RG (UU 5 [(34, B (a.since != b.since))] (NI (a.since != b.since) (fun bh6 => ?_) (fun bh6 => ?_)))))))
      ·
       have h6 := bne_iff_ne.1 bh6
       refine SEQ (RG (UU 1 [(4, B false)] (ENDOPS (NEXT (RF rfl (.bool false) () [] ?_ ?_)))))
       · (first | (simp [RV, eqParty, *]; done) | (simp_all [RV, eqParty]; done))
       · rfl
      ·
       have h6 := bneF bh6
       refine SKIP (NEXT (SEQ (SEQ (RG (UU 5 [(39, B (a.turn != b.turn))] (NI (a.turn != b.turn) (fun bh7 => ?_) (fun bh7 => ?_)))))))
       ·
        have h7 := bne_iff_ne.1 bh7
        refine SEQ (RG (UU 1 [(4, B false)] (ENDOPS (NEXT (RF rfl (.bool false) () [] ?_ ?_)))))
        · (first | (simp [RV, eqParty, *]; done) | (simp_all [RV, eqParty]; done))
        · rfl
       ·
        have h7 := bneF bh7
        refine SKIP (NEXT (SEQ (SEQ (RG (UU 5 [(44, B (a.state != b.state))] (NI (a.state != b.state) (fun bh8 => ?_) (fun bh8 => ?_)))))))
        ·
         have h8 := bne_iff_ne.1 bh8
         refine SEQ (RG (UU 1 [(4, B false)] (ENDOPS (NEXT (RF rfl (.bool false) () [] ?_ ?_)))))
         · (first | (simp [RV, eqParty, *]; done) | (simp_all [RV, eqParty]; done))
         · rfl
        ·
         have h8 := bneF bh8
         refine SKIP (NEXT (SEQ (SEQ (RG (UU 5 [(49, B (a.until' != b.until'))] (NI (a.until' != b.until') (fun bh9 => ?_) (fun bh9 => ?_)))))))
         ·
          have h9 := bne_iff_ne.1 bh9
          refine SEQ (RG (UU 1 [(4, B false)] (ENDOPS (NEXT (RF rfl (.bool false) () [] ?_ ?_)))))
          · (first | (simp [RV, eqParty, *]; done) | (simp_all [RV, eqParty]; done))
          · rfl
         ·
          have h9 := bneF bh9
          refine SKIP (NEXT (SEQ (SEQ (RG (UU 5 [(54, B (a.asked != b.asked))] (NI (a.asked != b.asked) (fun bh10 => ?_) (fun bh10 => ?_)))))))
          ·
           have h10 := bne_iff_ne.1 bh10
           refine SEQ (RG (UU 1 [(4, B false)] (ENDOPS (NEXT (RF rfl (.bool false) () [] ?_ ?_)))))
           · (first | (simp [RV, eqParty, *]; done) | (simp_all [RV, eqParty]; done))
           · rfl
          ·
           have h10 := bneF bh10
           refine SKIP (NEXT (SEQ (RG (UU 1 [(4, B true)] (ENDOPS (NEXT (RF rfl (.bool true) () [] ?_ ?_)))))))
           · (first | (simp [RV, eqParty, *]; done) | (simp_all [RV, eqParty]; done))
           · rfl

theorem eqEntry_c (W : World) (a : Entry) (b : Entry) : Spec Tryz.prog W [] 94 #[.agg #[vi a.level, vi a.turn, vi a.id, vi a.size], .agg #[vi b.level, vi b.turn, vi b.id, vi b.size]] (RV (.bool (eqEntry a b))) := by
 refine ENTER0 (N := 25) (vs := [.agg #[vi a.level, vi a.turn, vi a.id, vi a.size], .agg #[vi b.level, vi b.turn, vi b.id, vi b.size]]) Tryz.func94 rfl rfl (NL rfl) ?_
 refine SEQ (RG (UL 3 [(2, .p 0 0), (3, .p 1 0)] [(54, entryE a), (54, entryE b)] (ENDOPS (NEXT (SEQ (SEQ (RG (UU 5 [(9, B (a.level != b.level))] (NI (a.level != b.level) (fun bh1 => ?_) (fun bh1 => ?_))))))))))
 ·
  have h1 := bne_iff_ne.1 bh1
  refine SEQ (RG (UU 1 [(4, B false)] (ENDOPS (NEXT (RF rfl (.bool false) () [] ?_ ?_)))))
  · (first | (simp [RV, eqEntry, *]; done) | (simp_all [RV, eqEntry]; done))
  · rfl
 ·
  have h1 := bneF bh1
  refine SKIP (NEXT (SEQ (SEQ (RG (UU 5 [(14, B (a.turn != b.turn))] (NI (a.turn != b.turn) (fun bh2 => ?_) (fun bh2 => ?_)))))))
  ·
   have h2 := bne_iff_ne.1 bh2
   refine SEQ (RG (UU 1 [(4, B false)] (ENDOPS (NEXT (RF rfl (.bool false) () [] ?_ ?_)))))
   · (first | (simp [RV, eqEntry, *]; done) | (simp_all [RV, eqEntry]; done))
   · rfl
  ·
   have h2 := bneF bh2
   refine SKIP (NEXT (SEQ (SEQ (RG (UU 5 [(19, B (a.id != b.id))] (NI (a.id != b.id) (fun bh3 => ?_) (fun bh3 => ?_)))))))
   ·
    have h3 := bne_iff_ne.1 bh3
    refine SEQ (RG (UU 1 [(4, B false)] (ENDOPS (NEXT (RF rfl (.bool false) () [] ?_ ?_)))))
    · (first | (simp [RV, eqEntry, *]; done) | (simp_all [RV, eqEntry]; done))
    · rfl
   ·
    have h3 := bneF bh3
    refine SKIP (NEXT (SEQ (SEQ (RG (UU 5 [(24, B (a.size != b.size))] (NI (a.size != b.size) (fun bh4 => ?_) (fun bh4 => ?_)))))))
    ·
     have h4 := bne_iff_ne.1 bh4
     refine SEQ (RG (UU 1 [(4, B false)] (ENDOPS (NEXT (RF rfl (.bool false) () [] ?_ ?_)))))
     · (first | (simp [RV, eqEntry, *]; done) | (simp_all [RV, eqEntry]; done))
     · rfl
    ·
     have h4 := bneF bh4
     refine SKIP (NEXT (SEQ (RG (UU 1 [(4, B true)] (ENDOPS (NEXT (RF rfl (.bool true) () [] ?_ ?_)))))))
     · (first | (simp [RV, eqEntry, *]; done) | (simp_all [RV, eqEntry]; done))
     · rfl

theorem eqPin_c (W : World) (a : Pin) (b : Pin) : Spec Tryz.prog W [] 139 #[.agg #[vi a.at', vi a.id], .agg #[vi b.at', vi b.id]] (RV (.bool (eqPin a b))) := by
 refine ENTER0 (N := 15) (vs := [.agg #[vi a.at', vi a.id], .agg #[vi b.at', vi b.id]]) Tryz.func139 rfl rfl (NL rfl) ?_
 refine SEQ (RG (UL 3 [(2, .p 0 0), (3, .p 1 0)] [(122, pinE a), (122, pinE b)] (ENDOPS (NEXT (SEQ (SEQ (RG (UU 5 [(9, B (a.at' != b.at'))] (NI (a.at' != b.at') (fun bh1 => ?_) (fun bh1 => ?_))))))))))
 ·
  have h1 := bne_iff_ne.1 bh1
  refine SEQ (RG (UU 1 [(4, B false)] (ENDOPS (NEXT (RF rfl (.bool false) () [] ?_ ?_)))))
  · (first | (simp [RV, eqPin, *]; done) | (simp_all [RV, eqPin]; done))
  · rfl
 ·
  have h1 := bneF bh1
  refine SKIP (NEXT (SEQ (SEQ (RG (UU 5 [(14, B (a.id != b.id))] (NI (a.id != b.id) (fun bh2 => ?_) (fun bh2 => ?_)))))))
  ·
   have h2 := bne_iff_ne.1 bh2
   refine SEQ (RG (UU 1 [(4, B false)] (ENDOPS (NEXT (RF rfl (.bool false) () [] ?_ ?_)))))
   · (first | (simp [RV, eqPin, *]; done) | (simp_all [RV, eqPin]; done))
   · rfl
  ·
   have h2 := bneF bh2
   refine SKIP (NEXT (SEQ (RG (UU 1 [(4, B true)] (ENDOPS (NEXT (RF rfl (.bool true) () [] ?_ ?_)))))))
   · (first | (simp [RV, eqPin, *]; done) | (simp_all [RV, eqPin]; done))
   · rfl

theorem eqLedger_c (W : World) (a : Ledger) (b : Ledger) : Spec Tryz.prog W [] 66 #[.agg #[vi a.total, vi a.free, vi a.held, vi a.sold, vi a.tied], .agg #[vi b.total, vi b.free, vi b.held, vi b.sold, vi b.tied]] (RV (.bool (eqLedger a b))) := by
 refine ENTER0 (N := 30) (vs := [.agg #[vi a.total, vi a.free, vi a.held, vi a.sold, vi a.tied], .agg #[vi b.total, vi b.free, vi b.held, vi b.sold, vi b.tied]]) Tryz.func66 rfl rfl (NL rfl) ?_
 refine SEQ (RG (UL 3 [(2, .p 0 0), (3, .p 1 0)] [(45, ledgerE a), (45, ledgerE b)] (ENDOPS (NEXT (SEQ (SEQ (RG (UU 5 [(9, B (a.total != b.total))] (NI (a.total != b.total) (fun bh1 => ?_) (fun bh1 => ?_))))))))))
 ·
  have h1 := bne_iff_ne.1 bh1
  refine SEQ (RG (UU 1 [(4, B false)] (ENDOPS (NEXT (RF rfl (.bool false) () [] ?_ ?_)))))
  · (first | (simp [RV, eqLedger, *]; done) | (simp_all [RV, eqLedger]; done))
  · rfl
 ·
  have h1 := bneF bh1
  refine SKIP (NEXT (SEQ (SEQ (RG (UU 5 [(14, B (a.free != b.free))] (NI (a.free != b.free) (fun bh2 => ?_) (fun bh2 => ?_)))))))
  ·
   have h2 := bne_iff_ne.1 bh2
   refine SEQ (RG (UU 1 [(4, B false)] (ENDOPS (NEXT (RF rfl (.bool false) () [] ?_ ?_)))))
   · (first | (simp [RV, eqLedger, *]; done) | (simp_all [RV, eqLedger]; done))
   · rfl
  ·
   have h2 := bneF bh2
   refine SKIP (NEXT (SEQ (SEQ (RG (UU 5 [(19, B (a.held != b.held))] (NI (a.held != b.held) (fun bh3 => ?_) (fun bh3 => ?_)))))))
   ·
    have h3 := bne_iff_ne.1 bh3
    refine SEQ (RG (UU 1 [(4, B false)] (ENDOPS (NEXT (RF rfl (.bool false) () [] ?_ ?_)))))
    · (first | (simp [RV, eqLedger, *]; done) | (simp_all [RV, eqLedger]; done))
    · rfl
   ·
    have h3 := bneF bh3
    refine SKIP (NEXT (SEQ (SEQ (RG (UU 5 [(24, B (a.sold != b.sold))] (NI (a.sold != b.sold) (fun bh4 => ?_) (fun bh4 => ?_)))))))
    ·
     have h4 := bne_iff_ne.1 bh4
     refine SEQ (RG (UU 1 [(4, B false)] (ENDOPS (NEXT (RF rfl (.bool false) () [] ?_ ?_)))))
     · (first | (simp [RV, eqLedger, *]; done) | (simp_all [RV, eqLedger]; done))
     · rfl
    ·
     have h4 := bneF bh4
     refine SKIP (NEXT (SEQ (SEQ (RG (UU 5 [(29, B (a.tied != b.tied))] (NI (a.tied != b.tied) (fun bh5 => ?_) (fun bh5 => ?_)))))))
     ·
      have h5 := bne_iff_ne.1 bh5
      refine SEQ (RG (UU 1 [(4, B false)] (ENDOPS (NEXT (RF rfl (.bool false) () [] ?_ ?_)))))
      · (first | (simp [RV, eqLedger, *]; done) | (simp_all [RV, eqLedger]; done))
      · rfl
     ·
      have h5 := bneF bh5
      refine SKIP (NEXT (SEQ (RG (UU 1 [(4, B true)] (ENDOPS (NEXT (RF rfl (.bool true) () [] ?_ ?_)))))))
      · (first | (simp [RV, eqLedger, *]; done) | (simp_all [RV, eqLedger]; done))
      · rfl

theorem eqPartyS_c (W : World) (a : List Party) (a_a : Option Addr) (a_c : Nat) (ha : Rd partyL W a_a a) (b : List Party) (b_a : Option Addr) (b_c : Nat) (hb : Rd partyL W b_a b) : Spec Tryz.prog W [] 27 #[.slice a_a a.length a_c, .slice b_a b.length b_c] (RV (.bool (eqL eqParty a b))) := by
 refine ENTER0 (N := 27) (vs := [.slice a_a a.length a_c, .slice b_a b.length b_c]) Tryz.func27 rfl rfl (NL rfl) ?_
 have ha_len := ha.len
 have hb_len := hb.len
 refine SEQ (RG (UU 1 [] (ENDOPS (NEXT (SEQ (SEQ (RG (UU 5 [(10, B ((a.length : Int) != (b.length : Int)))] (NI ((a.length : Int) != (b.length : Int)) (fun bh1 => ?_) (fun bh1 => ?_))))))))))
 ·
  have h1 := bne_iff_ne.1 bh1
  refine SEQ (RG (UU 1 [(4, B false)] (ENDOPS (NEXT (RF rfl (.bool false) () [] ?_ ?_)))))
  · simp [RV, eqL_ne (f := eqParty) (a := a) (b := b) (by omega)]
  · rfl
 ·
  have h1 := bneF bh1
  refine SKIP (NEXT (SEQ (SEQ (RG (UU 1 [(5, I 0)] (ENDOPS (NEXT (BLOCK (LOOP (ι := Nat × (List Party)) (fun j => [(0, .v (.slice a_a a.length a_c)), (1, .v (.slice b_a b.length b_c)), (5, I (j.1 : Int))]) (fun j => []) (fun j => []) (fun j => j.1 + j.2.length = a.length ∧ a.drop j.1 = j.2 ∧ eqL eqParty a b = eqL eqParty j.2 (b.drop j.1)) (fun j => j.2.length) (0, a) [0, 1, 5] ⟨by simp, rfl, rfl⟩ (by kernel_rfl) rfl rfl ?_)))))))))
  rintro ⟨k, ys⟩ ⟨hk, hd, hv0⟩
  try dsimp only at hk hd hv0
  refine SEQ (SEQ (RG (UU 4 [(14, B (decide ((k : Int) < (a.length : Int))))] (NI (decide ((k : Int) < (a.length : Int))) (fun bh2 => ?_) (fun bh2 => ?_)))))
  ·
   have h2 := of_decide_eq_true bh2
   obtain ⟨y3, ys4, rfl, hx_y3, hd_y3, hl_y3⟩ := drop_cons hd hk (by omega)
   refine SKIP (NEXT (SEQ (BLOCK (SEQ (REGIONQ (by kernel_rfl) (by kernel_rfl) (QU 2 [(17, .v (.slice a_a a.length a_c)), (18, I (k : Int))] (QIX 32 (.tmp 17) (.tmp 18) 19 0 a_a a.length a_c .i64 (k : Int) 57 10 (Rd.some ha (by omega)) (by omega) (by omega) (QLE 57 (.tmp 19) 20 57 a_a (k * 10) 0 (partyE y3) (.agg (partyE y3).toArray) (fun w hw => (ha.fr hw.fr).flat hx_y3) (QU 2 [(21, .v (.slice b_a b.length b_c)), (22, I (k : Int))] ?_)))))))))
   obtain ⟨x5, hx6⟩ : ∃ y, b[k]? = some y := ⟨_, List.getElem?_eq_getElem (by omega)⟩
   refine QIX 32 (.tmp 21) (.tmp 22) 23 0 b_a b.length b_c .i64 (k : Int) 57 10 (Rd.some hb (by omega)) (by omega) (by omega) (QLE 57 (.tmp 23) 24 57 b_a (k * 10) 0 (partyE x5) (.agg (partyE x5).toArray) (fun w hw => (hb.fr hw.fr).flat hx6) (QCA 43 #[.agg #[vi y3.id, vi y3.cabin, vi y3.from', vi y3.size, vi y3.tier, vi y3.since, vi y3.turn, vi y3.state, vi y3.until', vi y3.asked], .agg #[vi x5.id, vi x5.cabin, vi x5.from', vi x5.size, vi x5.tier, vi x5.since, vi x5.turn, vi x5.state, vi x5.until', vi x5.asked]] (some 25) (.bool (eqParty y3 x5)) (fun w hw => eqParty_c w y3 x5) (QU 1 [(26, B (!(eqParty y3 x5)))] (QEND rfl (NEXT (IFK (!(eqParty y3 x5)) (fun bh7 => ?_) (fun bh7 => ?_)))))))
   ·
    have h7 := notT bh7
    refine SEQ (RG (UU 1 [(4, B false)] (ENDOPS (NEXT (RF rfl (.bool false) () [] ?_ ?_)))))
    · simp [RV, hv0, drop_get ‹b[k]? = some _›, eqL, *]
    · rfl
   ·
    have h7 := notF bh7
    refine SKIP (OUTN (NEXT (RG (UU 2 [(16, I (wr ((k : Int) + 1)))] (CS 16 (vi (wr ((k : Int) + 1))) (vi ((k + 1 : Nat) : Int)) (vi_cast (by omega) (by omega)) (UU 1 [(5, I ((k + 1 : Nat) : Int))] (ENDOPS (BK (k + 1, ys4) [0, 1, 5] 0 [] ⟨hl_y3, hd_y3, hv0.trans (by simp [eqL, drop_get ‹b[k]? = some _›, *])⟩ (by simp)))))))))
  ·
   have h2 := of_decide_eq_false bh2
   obtain rfl := drop_nil hk (by omega)
   refine EXIT (PASS trivial (PASS trivial (OUT (NEXT (SEQ (RG (UU 1 [(4, B true)] (ENDOPS (NEXT (RF rfl (.bool true) () [] ?_ ?_))))))))))
   · simp [RV, hv0, eqL, List.drop_eq_nil_of_le (show b.length ≤ k by simp at hk; omega)]
   · rfl

theorem eqEntryS_c (W : World) (a : List Entry) (a_a : Option Addr) (a_c : Nat) (ha : Rd entryL W a_a a) (b : List Entry) (b_a : Option Addr) (b_c : Nat) (hb : Rd entryL W b_a b) : Spec Tryz.prog W [] 67 #[.slice a_a a.length a_c, .slice b_a b.length b_c] (RV (.bool (eqL eqEntry a b))) := by
 refine ENTER0 (N := 27) (vs := [.slice a_a a.length a_c, .slice b_a b.length b_c]) Tryz.func67 rfl rfl (NL rfl) ?_
 have ha_len := ha.len
 have hb_len := hb.len
 refine SEQ (RG (UU 1 [] (ENDOPS (NEXT (SEQ (SEQ (RG (UU 5 [(10, B ((a.length : Int) != (b.length : Int)))] (NI ((a.length : Int) != (b.length : Int)) (fun bh1 => ?_) (fun bh1 => ?_))))))))))
 ·
  have h1 := bne_iff_ne.1 bh1
  refine SEQ (RG (UU 1 [(4, B false)] (ENDOPS (NEXT (RF rfl (.bool false) () [] ?_ ?_)))))
  · simp [RV, eqL_ne (f := eqEntry) (a := a) (b := b) (by omega)]
  · rfl
 ·
  have h1 := bneF bh1
  refine SKIP (NEXT (SEQ (SEQ (RG (UU 1 [(5, I 0)] (ENDOPS (NEXT (BLOCK (LOOP (ι := Nat × (List Entry)) (fun j => [(0, .v (.slice a_a a.length a_c)), (1, .v (.slice b_a b.length b_c)), (5, I (j.1 : Int))]) (fun j => []) (fun j => []) (fun j => j.1 + j.2.length = a.length ∧ a.drop j.1 = j.2 ∧ eqL eqEntry a b = eqL eqEntry j.2 (b.drop j.1)) (fun j => j.2.length) (0, a) [0, 1, 5] ⟨by simp, rfl, rfl⟩ (by kernel_rfl) rfl rfl ?_)))))))))
  rintro ⟨k, ys⟩ ⟨hk, hd, hv0⟩
  try dsimp only at hk hd hv0
  refine SEQ (SEQ (RG (UU 4 [(14, B (decide ((k : Int) < (a.length : Int))))] (NI (decide ((k : Int) < (a.length : Int))) (fun bh2 => ?_) (fun bh2 => ?_)))))
  ·
   have h2 := of_decide_eq_true bh2
   obtain ⟨y3, ys4, rfl, hx_y3, hd_y3, hl_y3⟩ := drop_cons hd hk (by omega)
   refine SKIP (NEXT (SEQ (BLOCK (SEQ (REGIONQ (by kernel_rfl) (by kernel_rfl) (QU 2 [(17, .v (.slice a_a a.length a_c)), (18, I (k : Int))] (QIX 46 (.tmp 17) (.tmp 18) 19 0 a_a a.length a_c .i64 (k : Int) 54 4 (Rd.some ha (by omega)) (by omega) (by omega) (QLE 54 (.tmp 19) 20 54 a_a (k * 4) 0 (entryE y3) (.agg (entryE y3).toArray) (fun w hw => (ha.fr hw.fr).flat hx_y3) (QU 2 [(21, .v (.slice b_a b.length b_c)), (22, I (k : Int))] ?_)))))))))
   obtain ⟨x5, hx6⟩ : ∃ y, b[k]? = some y := ⟨_, List.getElem?_eq_getElem (by omega)⟩
   refine QIX 46 (.tmp 21) (.tmp 22) 23 0 b_a b.length b_c .i64 (k : Int) 54 4 (Rd.some hb (by omega)) (by omega) (by omega) (QLE 54 (.tmp 23) 24 54 b_a (k * 4) 0 (entryE x5) (.agg (entryE x5).toArray) (fun w hw => (hb.fr hw.fr).flat hx6) (QCA 94 #[.agg #[vi y3.level, vi y3.turn, vi y3.id, vi y3.size], .agg #[vi x5.level, vi x5.turn, vi x5.id, vi x5.size]] (some 25) (.bool (eqEntry y3 x5)) (fun w hw => eqEntry_c w y3 x5) (QU 1 [(26, B (!(eqEntry y3 x5)))] (QEND rfl (NEXT (IFK (!(eqEntry y3 x5)) (fun bh7 => ?_) (fun bh7 => ?_)))))))
   ·
    have h7 := notT bh7
    refine SEQ (RG (UU 1 [(4, B false)] (ENDOPS (NEXT (RF rfl (.bool false) () [] ?_ ?_)))))
    · simp [RV, hv0, drop_get ‹b[k]? = some _›, eqL, *]
    · rfl
   ·
    have h7 := notF bh7
    refine SKIP (OUTN (NEXT (RG (UU 2 [(16, I (wr ((k : Int) + 1)))] (CS 16 (vi (wr ((k : Int) + 1))) (vi ((k + 1 : Nat) : Int)) (vi_cast (by omega) (by omega)) (UU 1 [(5, I ((k + 1 : Nat) : Int))] (ENDOPS (BK (k + 1, ys4) [0, 1, 5] 0 [] ⟨hl_y3, hd_y3, hv0.trans (by simp [eqL, drop_get ‹b[k]? = some _›, *])⟩ (by simp)))))))))
  ·
   have h2 := of_decide_eq_false bh2
   obtain rfl := drop_nil hk (by omega)
   refine EXIT (PASS trivial (PASS trivial (OUT (NEXT (SEQ (RG (UU 1 [(4, B true)] (ENDOPS (NEXT (RF rfl (.bool true) () [] ?_ ?_))))))))))
   · simp [RV, hv0, eqL, List.drop_eq_nil_of_le (show b.length ≤ k by simp at hk; omega)]
   · rfl

theorem eqPinS_c (W : World) (a : List Pin) (a_a : Option Addr) (a_c : Nat) (ha : Rd pinL W a_a a) (b : List Pin) (b_a : Option Addr) (b_c : Nat) (hb : Rd pinL W b_a b) : Spec Tryz.prog W [] 118 #[.slice a_a a.length a_c, .slice b_a b.length b_c] (RV (.bool (eqL eqPin a b))) := by
 refine ENTER0 (N := 27) (vs := [.slice a_a a.length a_c, .slice b_a b.length b_c]) Tryz.func118 rfl rfl (NL rfl) ?_
 have ha_len := ha.len
 have hb_len := hb.len
 refine SEQ (RG (UU 1 [] (ENDOPS (NEXT (SEQ (SEQ (RG (UU 5 [(10, B ((a.length : Int) != (b.length : Int)))] (NI ((a.length : Int) != (b.length : Int)) (fun bh1 => ?_) (fun bh1 => ?_))))))))))
 ·
  have h1 := bne_iff_ne.1 bh1
  refine SEQ (RG (UU 1 [(4, B false)] (ENDOPS (NEXT (RF rfl (.bool false) () [] ?_ ?_)))))
  · simp [RV, eqL_ne (f := eqPin) (a := a) (b := b) (by omega)]
  · rfl
 ·
  have h1 := bneF bh1
  refine SKIP (NEXT (SEQ (SEQ (RG (UU 1 [(5, I 0)] (ENDOPS (NEXT (BLOCK (LOOP (ι := Nat × (List Pin)) (fun j => [(0, .v (.slice a_a a.length a_c)), (1, .v (.slice b_a b.length b_c)), (5, I (j.1 : Int))]) (fun j => []) (fun j => []) (fun j => j.1 + j.2.length = a.length ∧ a.drop j.1 = j.2 ∧ eqL eqPin a b = eqL eqPin j.2 (b.drop j.1)) (fun j => j.2.length) (0, a) [0, 1, 5] ⟨by simp, rfl, rfl⟩ (by kernel_rfl) rfl rfl ?_)))))))))
  rintro ⟨k, ys⟩ ⟨hk, hd, hv0⟩
  try dsimp only at hk hd hv0
  refine SEQ (SEQ (RG (UU 4 [(14, B (decide ((k : Int) < (a.length : Int))))] (NI (decide ((k : Int) < (a.length : Int))) (fun bh2 => ?_) (fun bh2 => ?_)))))
  ·
   have h2 := of_decide_eq_true bh2
   obtain ⟨y3, ys4, rfl, hx_y3, hd_y3, hl_y3⟩ := drop_cons hd hk (by omega)
   refine SKIP (NEXT (SEQ (BLOCK (SEQ (REGIONQ (by kernel_rfl) (by kernel_rfl) (QU 2 [(17, .v (.slice a_a a.length a_c)), (18, I (k : Int))] (QIX 115 (.tmp 17) (.tmp 18) 19 0 a_a a.length a_c .i64 (k : Int) 122 2 (Rd.some ha (by omega)) (by omega) (by omega) (QLE 122 (.tmp 19) 20 122 a_a (k * 2) 0 (pinE y3) (.agg (pinE y3).toArray) (fun w hw => (ha.fr hw.fr).flat hx_y3) (QU 2 [(21, .v (.slice b_a b.length b_c)), (22, I (k : Int))] ?_)))))))))
   obtain ⟨x5, hx6⟩ : ∃ y, b[k]? = some y := ⟨_, List.getElem?_eq_getElem (by omega)⟩
   refine QIX 115 (.tmp 21) (.tmp 22) 23 0 b_a b.length b_c .i64 (k : Int) 122 2 (Rd.some hb (by omega)) (by omega) (by omega) (QLE 122 (.tmp 23) 24 122 b_a (k * 2) 0 (pinE x5) (.agg (pinE x5).toArray) (fun w hw => (hb.fr hw.fr).flat hx6) (QCA 139 #[.agg #[vi y3.at', vi y3.id], .agg #[vi x5.at', vi x5.id]] (some 25) (.bool (eqPin y3 x5)) (fun w hw => eqPin_c w y3 x5) (QU 1 [(26, B (!(eqPin y3 x5)))] (QEND rfl (NEXT (IFK (!(eqPin y3 x5)) (fun bh7 => ?_) (fun bh7 => ?_)))))))
   ·
    have h7 := notT bh7
    refine SEQ (RG (UU 1 [(4, B false)] (ENDOPS (NEXT (RF rfl (.bool false) () [] ?_ ?_)))))
    · simp [RV, hv0, drop_get ‹b[k]? = some _›, eqL, *]
    · rfl
   ·
    have h7 := notF bh7
    refine SKIP (OUTN (NEXT (RG (UU 2 [(16, I (wr ((k : Int) + 1)))] (CS 16 (vi (wr ((k : Int) + 1))) (vi ((k + 1 : Nat) : Int)) (vi_cast (by omega) (by omega)) (UU 1 [(5, I ((k + 1 : Nat) : Int))] (ENDOPS (BK (k + 1, ys4) [0, 1, 5] 0 [] ⟨hl_y3, hd_y3, hv0.trans (by simp [eqL, drop_get ‹b[k]? = some _›, *])⟩ (by simp)))))))))
  ·
   have h2 := of_decide_eq_false bh2
   obtain rfl := drop_nil hk (by omega)
   refine EXIT (PASS trivial (PASS trivial (OUT (NEXT (SEQ (RG (UU 1 [(4, B true)] (ENDOPS (NEXT (RF rfl (.bool true) () [] ?_ ?_))))))))))
   · simp [RV, hv0, eqL, List.drop_eq_nil_of_le (show b.length ≤ k by simp at hk; omega)]
   · rfl

theorem eqPinSS_c (W : World) (a : List (List Pin)) (a_a : Option Addr) (a_c : Nat) (ha : Rd (sl 122 pinL) W a_a a) (b : List (List Pin)) (b_a : Option Addr) (b_c : Nat) (hb : Rd (sl 122 pinL) W b_a b) : Spec Tryz.prog W [] 95 #[.slice a_a a.length a_c, .slice b_a b.length b_c] (RV (.bool (eqL (eqL eqPin) a b))) := by
 refine ENTER0 (N := 27) (vs := [.slice a_a a.length a_c, .slice b_a b.length b_c]) Tryz.func95 rfl rfl (NL rfl) ?_
 have ha_len := ha.len
 have hb_len := hb.len
 refine SEQ (RG (UU 1 [] (ENDOPS (NEXT (SEQ (SEQ (RG (UU 5 [(10, B ((a.length : Int) != (b.length : Int)))] (NI ((a.length : Int) != (b.length : Int)) (fun bh1 => ?_) (fun bh1 => ?_))))))))))
 ·
  have h1 := bne_iff_ne.1 bh1
  refine SEQ (RG (UU 1 [(4, B false)] (ENDOPS (NEXT (RF rfl (.bool false) () [] ?_ ?_)))))
  · simp [RV, eqL_ne (f := (eqL eqPin)) (a := a) (b := b) (by omega)]
  · rfl
 ·
  have h1 := bneF bh1
  refine SKIP (NEXT (SEQ (SEQ (RG (UU 1 [(5, I 0)] (ENDOPS (NEXT (BLOCK (LOOP (ι := Nat × (List (List Pin))) (fun j => [(0, .v (.slice a_a a.length a_c)), (1, .v (.slice b_a b.length b_c)), (5, I (j.1 : Int))]) (fun j => []) (fun j => []) (fun j => j.1 + j.2.length = a.length ∧ a.drop j.1 = j.2 ∧ eqL (eqL eqPin) a b = eqL (eqL eqPin) j.2 (b.drop j.1)) (fun j => j.2.length) (0, a) [0, 1, 5] ⟨by simp, rfl, rfl⟩ (by kernel_rfl) rfl rfl ?_)))))))))
  rintro ⟨k, ys⟩ ⟨hk, hd, hv0⟩
  try dsimp only at hk hd hv0
  refine SEQ (SEQ (RG (UU 4 [(14, B (decide ((k : Int) < (a.length : Int))))] (NI (decide ((k : Int) < (a.length : Int))) (fun bh2 => ?_) (fun bh2 => ?_)))))
  ·
   have h2 := of_decide_eq_true bh2
   obtain ⟨y3, ys4, rfl, hx_y3, hd_y3, hl_y3⟩ := drop_cons hd hk (by omega)
   refine SKIP (NEXT (SEQ (BLOCK (SEQ (REGIONQ (by kernel_rfl) (by kernel_rfl) (QU 2 [(17, .v (.slice a_a a.length a_c)), (18, I (k : Int))] ?_))))))
   obtain ⟨a5, c6, hel8, hi7, hi7_cap⟩ := sl_view ha hx_y3
   have hi7_len := hi7.len
   refine QIX 47 (.tmp 17) (.tmp 18) 19 0 a_a a.length a_c .i64 (k : Int) 115 1 (Rd.some ha (by omega)) (by omega) (by omega) (QLE 115 (.tmp 19) 20 115 a_a (k * 1) 0 ([.slice a5 y3.length c6]) (.slice a5 y3.length c6) (fun w hw => hel8.fr hw.fr) (QU 2 [(21, .v (.slice b_a b.length b_c)), (22, I (k : Int))] ?_))
   obtain ⟨x9, hx10⟩ : ∃ y, b[k]? = some y := ⟨_, List.getElem?_eq_getElem (by omega)⟩
   obtain ⟨a11, c12, hel14, hi13, hi13_cap⟩ := sl_view hb hx10
   have hi13_len := hi13.len
   refine QIX 47 (.tmp 21) (.tmp 22) 23 0 b_a b.length b_c .i64 (k : Int) 115 1 (Rd.some hb (by omega)) (by omega) (by omega) (QLE 115 (.tmp 23) 24 115 b_a (k * 1) 0 ([.slice a11 x9.length c12]) (.slice a11 x9.length c12) (fun w hw => hel14.fr hw.fr) (QCA 118 #[.slice a5 y3.length c6, .slice a11 x9.length c12] (some 25) (.bool (eqL eqPin y3 x9)) (fun w hw => eqPinS_c w y3 a5 c6 (hi7.fr hw.fr) x9 a11 c12 (hi13.fr hw.fr)) (QU 1 [(26, B (!(eqL eqPin y3 x9)))] (QEND rfl (NEXT (IFK (!(eqL eqPin y3 x9)) (fun bh15 => ?_) (fun bh15 => ?_)))))))
   ·
    have h15 := notT bh15
    refine SEQ (RG (UU 1 [(4, B false)] (ENDOPS (NEXT (RF rfl (.bool false) () [] ?_ ?_)))))
    · simp [RV, hv0, drop_get ‹b[k]? = some _›, eqL, *]
    · rfl
   ·
    have h15 := notF bh15
    refine SKIP (OUTN (NEXT (RG (UU 2 [(16, I (wr ((k : Int) + 1)))] (CS 16 (vi (wr ((k : Int) + 1))) (vi ((k + 1 : Nat) : Int)) (vi_cast (by omega) (by omega)) (UU 1 [(5, I ((k + 1 : Nat) : Int))] (ENDOPS (BK (k + 1, ys4) [0, 1, 5] 0 [] ⟨hl_y3, hd_y3, hv0.trans (by simp [eqL, drop_get ‹b[k]? = some _›, *])⟩ (by simp)))))))))
  ·
   have h2 := of_decide_eq_false bh2
   obtain rfl := drop_nil hk (by omega)
   refine EXIT (PASS trivial (PASS trivial (OUT (NEXT (SEQ (RG (UU 1 [(4, B true)] (ENDOPS (NEXT (RF rfl (.bool true) () [] ?_ ?_))))))))))
   · simp [RV, hv0, eqL, List.drop_eq_nil_of_le (show b.length ≤ k by simp at hk; omega)]
   · rfl

theorem eqWheel_c (W : World) (a : Wheel) (a_spoke_a : Option Addr) (a_spoke_c : Nat) (ha_spoke : Rd (sl 122 pinL) W a_spoke_a a.spoke) (b : Wheel) (b_spoke_a : Option Addr) (b_spoke_c : Nat) (hb_spoke : Rd (sl 122 pinL) W b_spoke_a b.spoke) : Spec Tryz.prog W [] 68 #[.agg #[.slice a_spoke_a a.spoke.length a_spoke_c], .agg #[.slice b_spoke_a b.spoke.length b_spoke_c]] (RV (.bool (eqL (eqL eqPin) (a).spoke (b).spoke))) := by
 refine ENTER0 (N := 11) (vs := [.agg #[.slice a_spoke_a a.spoke.length a_spoke_c], .agg #[.slice b_spoke_a b.spoke.length b_spoke_c]]) Tryz.func68 rfl rfl (NL rfl) ?_
 have ha_spoke_len := ha_spoke.len
 have hb_spoke_len := hb_spoke.len
 refine SEQ (RG (UL 3 [(2, .p 0 0), (3, .p 1 0)] [(49, [.slice a_spoke_a a.spoke.length a_spoke_c]), (49, [.slice b_spoke_a b.spoke.length b_spoke_c])] (ENDOPS (NEXT (SEQ (SEQ (RG (UU 4 [(6, .v (.slice a_spoke_a a.spoke.length a_spoke_c)), (8, .v (.slice b_spoke_a b.spoke.length b_spoke_c))] (OPC (CA 95 #[.slice a_spoke_a a.spoke.length a_spoke_c, .slice b_spoke_a b.spoke.length b_spoke_c] (some 9) (RV (.bool (eqL (eqL eqPin) a.spoke b.spoke))) (fun w hw => eqPinSS_c w a.spoke a_spoke_a a_spoke_c (ha_spoke.fr hw.fr) b.spoke b_spoke_a b_spoke_c (hb_spoke.fr hw.fr)) ?_))))))))))
 rintro ⟨⟩
 refine UU 1 [(10, B (!(eqL (eqL eqPin) a.spoke b.spoke)))] (NI (!(eqL (eqL eqPin) a.spoke b.spoke)) (fun bh1 => ?_) (fun bh1 => ?_))
 ·
  have h1 := notT bh1
  refine SEQ (RG (UU 1 [(4, B false)] (ENDOPS (NEXT (RF rfl (.bool false) () [] ?_ ?_)))))
  · (first | (simp [RV, eqL, *]; done) | (simp_all [RV, eqL]; done))
  · rfl
 ·
  have h1 := notF bh1
  refine SKIP (NEXT (SEQ (RG (UU 1 [(4, B true)] (ENDOPS (NEXT (RF rfl (.bool true) () [] ?_ ?_)))))))
  · (first | (simp [RV, eqL, *]; done) | (simp_all [RV, eqL]; done))
  · rfl

theorem eqCabin_c (W : World) (a : Cabin) (a_row_a : Option Addr) (a_row_c : Nat) (ha_row : Rd entryL W a_row_a a.row) (a_wheel_spoke_a : Option Addr) (a_wheel_spoke_c : Nat) (ha_wheel_spoke : Rd (sl 122 pinL) W a_wheel_spoke_a a.wheel.spoke) (b : Cabin) (b_row_a : Option Addr) (b_row_c : Nat) (hb_row : Rd entryL W b_row_a b.row) (b_wheel_spoke_a : Option Addr) (b_wheel_spoke_c : Nat) (hb_wheel_spoke : Rd (sl 122 pinL) W b_wheel_spoke_a b.wheel.spoke) : Spec Tryz.prog W [] 44 #[.agg #[vi a.seats.total, vi a.seats.free, vi a.seats.held, vi a.seats.sold, vi a.seats.tied, .slice a_row_a a.row.length a_row_c, .slice a_wheel_spoke_a a.wheel.spoke.length a_wheel_spoke_c], .agg #[vi b.seats.total, vi b.seats.free, vi b.seats.held, vi b.seats.sold, vi b.seats.tied, .slice b_row_a b.row.length b_row_c, .slice b_wheel_spoke_a b.wheel.spoke.length b_wheel_spoke_c]] (RV (.bool (eqCabin a b))) := by
 refine ENTER0 (N := 23) (vs := [.agg #[vi a.seats.total, vi a.seats.free, vi a.seats.held, vi a.seats.sold, vi a.seats.tied, .slice a_row_a a.row.length a_row_c, .slice a_wheel_spoke_a a.wheel.spoke.length a_wheel_spoke_c], .agg #[vi b.seats.total, vi b.seats.free, vi b.seats.held, vi b.seats.sold, vi b.seats.tied, .slice b_row_a b.row.length b_row_c, .slice b_wheel_spoke_a b.wheel.spoke.length b_wheel_spoke_c]]) Tryz.func44 rfl rfl (NL rfl) ?_
 have ha_row_len := ha_row.len
 have ha_wheel_spoke_len := ha_wheel_spoke.len
 have hb_row_len := hb_row.len
 have hb_wheel_spoke_len := hb_wheel_spoke.len
 refine SEQ (RG (UL 3 [(2, .p 0 0), (3, .p 1 0)] [(51, [vi a.seats.total, vi a.seats.free, vi a.seats.held, vi a.seats.sold, vi a.seats.tied, .slice a_row_a a.row.length a_row_c, .slice a_wheel_spoke_a a.wheel.spoke.length a_wheel_spoke_c]), (51, [vi b.seats.total, vi b.seats.free, vi b.seats.held, vi b.seats.sold, vi b.seats.tied, .slice b_row_a b.row.length b_row_c, .slice b_wheel_spoke_a b.wheel.spoke.length b_wheel_spoke_c])] (ENDOPS (NEXT (SEQ (SEQ (RG (UU 4 [(6, .v (.agg (ledgerE a.seats).toArray)), (8, .v (.agg (ledgerE b.seats).toArray))] (OPC (CA 66 #[.agg #[vi a.seats.total, vi a.seats.free, vi a.seats.held, vi a.seats.sold, vi a.seats.tied], .agg #[vi b.seats.total, vi b.seats.free, vi b.seats.held, vi b.seats.sold, vi b.seats.tied]] (some 9) (RV (.bool (eqLedger a.seats b.seats))) (fun w hw => eqLedger_c w a.seats b.seats) ?_))))))))))
 rintro ⟨⟩
 refine UU 1 [(10, B (!(eqLedger a.seats b.seats)))] (NI (!(eqLedger a.seats b.seats)) (fun bh1 => ?_) (fun bh1 => ?_))
 ·
  have h1 := notT bh1
  refine SEQ (RG (UU 1 [(4, B false)] (ENDOPS (NEXT (RF rfl (.bool false) () [] ?_ ?_)))))
  · (first | (simp [RV, eqCabin, *]; done) | (simp_all [RV, eqCabin]; done))
  · rfl
 ·
  have h1 := notF bh1
  refine SKIP (NEXT (SEQ (SEQ (RG (UU 4 [(12, .v (.slice a_row_a a.row.length a_row_c)), (14, .v (.slice b_row_a b.row.length b_row_c))] (OPC (CA 67 #[.slice a_row_a a.row.length a_row_c, .slice b_row_a b.row.length b_row_c] (some 15) (RV (.bool (eqL eqEntry a.row b.row))) (fun w hw => eqEntryS_c w a.row a_row_a a_row_c (ha_row.fr hw.fr) b.row b_row_a b_row_c (hb_row.fr hw.fr)) ?_)))))))
  rintro ⟨⟩
  refine UU 1 [(16, B (!(eqL eqEntry a.row b.row)))] (NI (!(eqL eqEntry a.row b.row)) (fun bh2 => ?_) (fun bh2 => ?_))
  ·
   have h2 := notT bh2
   refine SEQ (RG (UU 1 [(4, B false)] (ENDOPS (NEXT (RF rfl (.bool false) () [] ?_ ?_)))))
   · (first | (simp [RV, eqCabin, *]; done) | (simp_all [RV, eqCabin]; done))
   · rfl
  ·
   have h2 := notF bh2
   refine SKIP (NEXT (SEQ (SEQ (RG (UU 4 [(18, .v (.agg #[.slice a_wheel_spoke_a a.wheel.spoke.length a_wheel_spoke_c])), (20, .v (.agg #[.slice b_wheel_spoke_a b.wheel.spoke.length b_wheel_spoke_c]))] (OPC (CA 68 #[.agg #[.slice a_wheel_spoke_a a.wheel.spoke.length a_wheel_spoke_c], .agg #[.slice b_wheel_spoke_a b.wheel.spoke.length b_wheel_spoke_c]] (some 21) (RV (.bool (eqL (eqL eqPin) (a.wheel).spoke (b.wheel).spoke))) (fun w hw => eqWheel_c w a.wheel a_wheel_spoke_a a_wheel_spoke_c (ha_wheel_spoke.fr hw.fr) b.wheel b_wheel_spoke_a b_wheel_spoke_c (hb_wheel_spoke.fr hw.fr)) ?_)))))))
   rintro ⟨⟩
   refine UU 1 [(22, B (!(eqL (eqL eqPin) (a.wheel).spoke (b.wheel).spoke)))] (NI (!(eqL (eqL eqPin) (a.wheel).spoke (b.wheel).spoke)) (fun bh3 => ?_) (fun bh3 => ?_))
   ·
    have h3 := notT bh3
    refine SEQ (RG (UU 1 [(4, B false)] (ENDOPS (NEXT (RF rfl (.bool false) () [] ?_ ?_)))))
    · (first | (simp [RV, eqCabin, *]; done) | (simp_all [RV, eqCabin]; done))
    · rfl
   ·
    have h3 := notF bh3
    refine SKIP (NEXT (SEQ (RG (UU 1 [(4, B true)] (ENDOPS (NEXT (RF rfl (.bool true) () [] ?_ ?_)))))))
    · (first | (simp [RV, eqCabin, *]; done) | (simp_all [RV, eqCabin]; done))
    · rfl

theorem eqCabinS_c (W : World) (a : List Cabin) (a_a : Option Addr) (a_c : Nat) (ha : Rd (cabinLx 54 115 122) W a_a a) (b : List Cabin) (b_a : Option Addr) (b_c : Nat) (hb : Rd (cabinLx 54 115 122) W b_a b) : Spec Tryz.prog W [] 28 #[.slice a_a a.length a_c, .slice b_a b.length b_c] (RV (.bool (eqL eqCabin a b))) := by
 refine ENTER0 (N := 27) (vs := [.slice a_a a.length a_c, .slice b_a b.length b_c]) Tryz.func28 rfl rfl (NL rfl) ?_
 have ha_len := ha.len
 have hb_len := hb.len
 refine SEQ (RG (UU 1 [] (ENDOPS (NEXT (SEQ (SEQ (RG (UU 5 [(10, B ((a.length : Int) != (b.length : Int)))] (NI ((a.length : Int) != (b.length : Int)) (fun bh1 => ?_) (fun bh1 => ?_))))))))))
 ·
  have h1 := bne_iff_ne.1 bh1
  refine SEQ (RG (UU 1 [(4, B false)] (ENDOPS (NEXT (RF rfl (.bool false) () [] ?_ ?_)))))
  · simp [RV, eqL_ne (f := eqCabin) (a := a) (b := b) (by omega)]
  · rfl
 ·
  have h1 := bneF bh1
  refine SKIP (NEXT (SEQ (SEQ (RG (UU 1 [(5, I 0)] (ENDOPS (NEXT (BLOCK (LOOP (ι := Nat × (List Cabin)) (fun j => [(0, .v (.slice a_a a.length a_c)), (1, .v (.slice b_a b.length b_c)), (5, I (j.1 : Int))]) (fun j => []) (fun j => []) (fun j => j.1 + j.2.length = a.length ∧ a.drop j.1 = j.2 ∧ eqL eqCabin a b = eqL eqCabin j.2 (b.drop j.1)) (fun j => j.2.length) (0, a) [0, 1, 5] ⟨by simp, rfl, rfl⟩ (by kernel_rfl) rfl rfl ?_)))))))))
  rintro ⟨k, ys⟩ ⟨hk, hd, hv0⟩
  try dsimp only at hk hd hv0
  refine SEQ (SEQ (RG (UU 4 [(14, B (decide ((k : Int) < (a.length : Int))))] (NI (decide ((k : Int) < (a.length : Int))) (fun bh2 => ?_) (fun bh2 => ?_)))))
  ·
   have h2 := of_decide_eq_true bh2
   obtain ⟨y3, ys4, rfl, hx_y3, hd_y3, hl_y3⟩ := drop_cons hd hk (by omega)
   refine SKIP (NEXT (SEQ (BLOCK (SEQ (REGIONQ (by kernel_rfl) (by kernel_rfl) (QU 2 [(17, .v (.slice a_a a.length a_c)), (18, I (k : Int))] ?_))))))
   obtain ⟨a5, c6, a8, c9, hel11, hi7, hi10, hi7_cap, hi10_cap⟩ := cabin_view ha hx_y3
   have hi7_len := hi7.len
   have hi10_len := hi10.len
   refine QIX 33 (.tmp 17) (.tmp 18) 19 0 a_a a.length a_c .i64 (k : Int) 51 7 (Rd.some ha (by omega)) (by omega) (by omega) (QLE 51 (.tmp 19) 20 51 a_a (k * 7) 0 ([vi y3.seats.total, vi y3.seats.free, vi y3.seats.held, vi y3.seats.sold, vi y3.seats.tied, .slice a5 y3.row.length c6, .slice a8 y3.wheel.spoke.length c9]) (.agg #[vi y3.seats.total, vi y3.seats.free, vi y3.seats.held, vi y3.seats.sold, vi y3.seats.tied, .slice a5 y3.row.length c6, .slice a8 y3.wheel.spoke.length c9]) (fun w hw => hel11.fr hw.fr) (QU 2 [(21, .v (.slice b_a b.length b_c)), (22, I (k : Int))] ?_))
   obtain ⟨x12, hx13⟩ : ∃ y, b[k]? = some y := ⟨_, List.getElem?_eq_getElem (by omega)⟩
   obtain ⟨a14, c15, a17, c18, hel20, hi16, hi19, hi16_cap, hi19_cap⟩ := cabin_view hb hx13
   have hi16_len := hi16.len
   have hi19_len := hi19.len
   refine QIX 33 (.tmp 21) (.tmp 22) 23 0 b_a b.length b_c .i64 (k : Int) 51 7 (Rd.some hb (by omega)) (by omega) (by omega) (QLE 51 (.tmp 23) 24 51 b_a (k * 7) 0 ([vi x12.seats.total, vi x12.seats.free, vi x12.seats.held, vi x12.seats.sold, vi x12.seats.tied, .slice a14 x12.row.length c15, .slice a17 x12.wheel.spoke.length c18]) (.agg #[vi x12.seats.total, vi x12.seats.free, vi x12.seats.held, vi x12.seats.sold, vi x12.seats.tied, .slice a14 x12.row.length c15, .slice a17 x12.wheel.spoke.length c18]) (fun w hw => hel20.fr hw.fr) (QCA 44 #[.agg #[vi y3.seats.total, vi y3.seats.free, vi y3.seats.held, vi y3.seats.sold, vi y3.seats.tied, .slice a5 y3.row.length c6, .slice a8 y3.wheel.spoke.length c9], .agg #[vi x12.seats.total, vi x12.seats.free, vi x12.seats.held, vi x12.seats.sold, vi x12.seats.tied, .slice a14 x12.row.length c15, .slice a17 x12.wheel.spoke.length c18]] (some 25) (.bool (eqCabin y3 x12)) (fun w hw => eqCabin_c w y3 a5 c6 (hi7.fr hw.fr) a8 c9 (hi10.fr hw.fr) x12 a14 c15 (hi16.fr hw.fr) a17 c18 (hi19.fr hw.fr)) (QU 1 [(26, B (!(eqCabin y3 x12)))] (QEND rfl (NEXT (IFK (!(eqCabin y3 x12)) (fun bh21 => ?_) (fun bh21 => ?_)))))))
   ·
    have h21 := notT bh21
    refine SEQ (RG (UU 1 [(4, B false)] (ENDOPS (NEXT (RF rfl (.bool false) () [] ?_ ?_)))))
    · simp [RV, hv0, drop_get ‹b[k]? = some _›, eqL, *]
    · rfl
   ·
    have h21 := notF bh21
    refine SKIP (OUTN (NEXT (RG (UU 2 [(16, I (wr ((k : Int) + 1)))] (CS 16 (vi (wr ((k : Int) + 1))) (vi ((k + 1 : Nat) : Int)) (vi_cast (by omega) (by omega)) (UU 1 [(5, I ((k + 1 : Nat) : Int))] (ENDOPS (BK (k + 1, ys4) [0, 1, 5] 0 [] ⟨hl_y3, hd_y3, hv0.trans (by simp [eqL, drop_get ‹b[k]? = some _›, *])⟩ (by simp)))))))))
  ·
   have h2 := of_decide_eq_false bh2
   obtain rfl := drop_nil hk (by omega)
   refine EXIT (PASS trivial (PASS trivial (OUT (NEXT (SEQ (RG (UU 1 [(4, B true)] (ENDOPS (NEXT (RF rfl (.bool true) () [] ?_ ?_))))))))))
   · simp [RV, hv0, eqL, List.drop_eq_nil_of_le (show b.length ≤ k by simp at hk; omega)]
   · rfl

theorem eqHouse_c (W : World) (a : House) (a_rules_seats_a : Option Addr) (a_rules_seats_c : Nat) (ha_rules_seats : Rd intL W a_rules_seats_a a.rules.seats) (a_parties_a : Option Addr) (a_parties_c : Nat) (ha_parties : Rd partyL W a_parties_a a.parties) (a_cabins_a : Option Addr) (a_cabins_c : Nat) (ha_cabins : Rd (cabinLx 54 115 122) W a_cabins_a a.cabins) (a_todo_a : Option Addr) (a_todo_c : Nat) (ha_todo : Rd intL W a_todo_a a.todo) (a_jobs_a : Option Addr) (a_jobs_c : Nat) (ha_jobs : Rd intL W a_jobs_a a.jobs) (b : House) (b_rules_seats_a : Option Addr) (b_rules_seats_c : Nat) (hb_rules_seats : Rd intL W b_rules_seats_a b.rules.seats) (b_parties_a : Option Addr) (b_parties_c : Nat) (hb_parties : Rd partyL W b_parties_a b.parties) (b_cabins_a : Option Addr) (b_cabins_c : Nat) (hb_cabins : Rd (cabinLx 54 115 122) W b_cabins_a b.cabins) (b_todo_a : Option Addr) (b_todo_c : Nat) (hb_todo : Rd intL W b_todo_a b.todo) (b_jobs_a : Option Addr) (b_jobs_c : Nat) (hb_jobs : Rd intL W b_jobs_a b.jobs) : Spec Tryz.prog W [] 8 #[.agg #[.slice a_rules_seats_a a.rules.seats.length a_rules_seats_c, vi a.rules.tiers, vi a.rules.room, vi a.rules.size, vi a.rules.period, vi a.rules.window, vi a.rules.rest, vi a.rules.tries, vi a.rules.crew, vi a.now, vi a.turn, .slice a_parties_a a.parties.length a_parties_c, .slice a_cabins_a a.cabins.length a_cabins_c, .slice a_todo_a a.todo.length a_todo_c, .slice a_jobs_a a.jobs.length a_jobs_c], .agg #[.slice b_rules_seats_a b.rules.seats.length b_rules_seats_c, vi b.rules.tiers, vi b.rules.room, vi b.rules.size, vi b.rules.period, vi b.rules.window, vi b.rules.rest, vi b.rules.tries, vi b.rules.crew, vi b.now, vi b.turn, .slice b_parties_a b.parties.length b_parties_c, .slice b_cabins_a b.cabins.length b_cabins_c, .slice b_todo_a b.todo.length b_todo_c, .slice b_jobs_a b.jobs.length b_jobs_c]] (RV (.bool (eqHouse a b))) := by
 refine ENTER0 (N := 45) (vs := [.agg #[.slice a_rules_seats_a a.rules.seats.length a_rules_seats_c, vi a.rules.tiers, vi a.rules.room, vi a.rules.size, vi a.rules.period, vi a.rules.window, vi a.rules.rest, vi a.rules.tries, vi a.rules.crew, vi a.now, vi a.turn, .slice a_parties_a a.parties.length a_parties_c, .slice a_cabins_a a.cabins.length a_cabins_c, .slice a_todo_a a.todo.length a_todo_c, .slice a_jobs_a a.jobs.length a_jobs_c], .agg #[.slice b_rules_seats_a b.rules.seats.length b_rules_seats_c, vi b.rules.tiers, vi b.rules.room, vi b.rules.size, vi b.rules.period, vi b.rules.window, vi b.rules.rest, vi b.rules.tries, vi b.rules.crew, vi b.now, vi b.turn, .slice b_parties_a b.parties.length b_parties_c, .slice b_cabins_a b.cabins.length b_cabins_c, .slice b_todo_a b.todo.length b_todo_c, .slice b_jobs_a b.jobs.length b_jobs_c]]) Tryz.func8 rfl rfl (NL rfl) ?_
 have ha_rules_seats_len := ha_rules_seats.len
 have ha_parties_len := ha_parties.len
 have ha_cabins_len := ha_cabins.len
 have ha_todo_len := ha_todo.len
 have ha_jobs_len := ha_jobs.len
 have hb_rules_seats_len := hb_rules_seats.len
 have hb_parties_len := hb_parties.len
 have hb_cabins_len := hb_cabins.len
 have hb_todo_len := hb_todo.len
 have hb_jobs_len := hb_jobs.len
 refine SEQ (RG (UL 3 [(2, .p 0 0), (3, .p 1 0)] [(35, [.slice a_rules_seats_a a.rules.seats.length a_rules_seats_c, vi a.rules.tiers, vi a.rules.room, vi a.rules.size, vi a.rules.period, vi a.rules.window, vi a.rules.rest, vi a.rules.tries, vi a.rules.crew, vi a.now, vi a.turn, .slice a_parties_a a.parties.length a_parties_c, .slice a_cabins_a a.cabins.length a_cabins_c, .slice a_todo_a a.todo.length a_todo_c, .slice a_jobs_a a.jobs.length a_jobs_c]), (35, [.slice b_rules_seats_a b.rules.seats.length b_rules_seats_c, vi b.rules.tiers, vi b.rules.room, vi b.rules.size, vi b.rules.period, vi b.rules.window, vi b.rules.rest, vi b.rules.tries, vi b.rules.crew, vi b.now, vi b.turn, .slice b_parties_a b.parties.length b_parties_c, .slice b_cabins_a b.cabins.length b_cabins_c, .slice b_todo_a b.todo.length b_todo_c, .slice b_jobs_a b.jobs.length b_jobs_c])] (ENDOPS (NEXT (SEQ (SEQ (RG (UU 4 [(6, .v (.agg #[.slice a_rules_seats_a a.rules.seats.length a_rules_seats_c, vi a.rules.tiers, vi a.rules.room, vi a.rules.size, vi a.rules.period, vi a.rules.window, vi a.rules.rest, vi a.rules.tries, vi a.rules.crew])), (8, .v (.agg #[.slice b_rules_seats_a b.rules.seats.length b_rules_seats_c, vi b.rules.tiers, vi b.rules.room, vi b.rules.size, vi b.rules.period, vi b.rules.window, vi b.rules.rest, vi b.rules.tries, vi b.rules.crew]))] (OPC (CA 26 #[.agg #[.slice a_rules_seats_a a.rules.seats.length a_rules_seats_c, vi a.rules.tiers, vi a.rules.room, vi a.rules.size, vi a.rules.period, vi a.rules.window, vi a.rules.rest, vi a.rules.tries, vi a.rules.crew], .agg #[.slice b_rules_seats_a b.rules.seats.length b_rules_seats_c, vi b.rules.tiers, vi b.rules.room, vi b.rules.size, vi b.rules.period, vi b.rules.window, vi b.rules.rest, vi b.rules.tries, vi b.rules.crew]] (some 9) (RV (.bool (eqRules a.rules b.rules))) (fun w hw => eqRules_c w a.rules a_rules_seats_a a_rules_seats_c (ha_rules_seats.fr hw.fr) b.rules b_rules_seats_a b_rules_seats_c (hb_rules_seats.fr hw.fr)) ?_))))))))))
 rintro ⟨⟩
 refine UU 1 [(10, B (!(eqRules a.rules b.rules)))] (NI (!(eqRules a.rules b.rules)) (fun bh1 => ?_) (fun bh1 => ?_))
 ·
  have h1 := notT bh1
  refine SEQ (RG (UU 1 [(4, B false)] (ENDOPS (NEXT (RF rfl (.bool false) () [] ?_ ?_)))))
  · (first | (simp [RV, eqHouse, *]; done) | (simp_all [RV, eqHouse]; done))
  · rfl
 ·
  have h1 := notF bh1
  refine SKIP (NEXT (SEQ (SEQ (RG (UU 5 [(15, B (a.now != b.now))] (NI (a.now != b.now) (fun bh2 => ?_) (fun bh2 => ?_)))))))
  ·
   have h2 := bne_iff_ne.1 bh2
   refine SEQ (RG (UU 1 [(4, B false)] (ENDOPS (NEXT (RF rfl (.bool false) () [] ?_ ?_)))))
   · (first | (simp [RV, eqHouse, *]; done) | (simp_all [RV, eqHouse]; done))
   · rfl
  ·
   have h2 := bneF bh2
   refine SKIP (NEXT (SEQ (SEQ (RG (UU 5 [(20, B (a.turn != b.turn))] (NI (a.turn != b.turn) (fun bh3 => ?_) (fun bh3 => ?_)))))))
   ·
    have h3 := bne_iff_ne.1 bh3
    refine SEQ (RG (UU 1 [(4, B false)] (ENDOPS (NEXT (RF rfl (.bool false) () [] ?_ ?_)))))
    · (first | (simp [RV, eqHouse, *]; done) | (simp_all [RV, eqHouse]; done))
    · rfl
   ·
    have h3 := bneF bh3
    refine SKIP (NEXT (SEQ (SEQ (RG (UU 4 [(22, .v (.slice a_parties_a a.parties.length a_parties_c)), (24, .v (.slice b_parties_a b.parties.length b_parties_c))] (OPC (CA 27 #[.slice a_parties_a a.parties.length a_parties_c, .slice b_parties_a b.parties.length b_parties_c] (some 25) (RV (.bool (eqL eqParty a.parties b.parties))) (fun w hw => eqPartyS_c w a.parties a_parties_a a_parties_c (ha_parties.fr hw.fr) b.parties b_parties_a b_parties_c (hb_parties.fr hw.fr)) ?_)))))))
    rintro ⟨⟩
    refine UU 1 [(26, B (!(eqL eqParty a.parties b.parties)))] (NI (!(eqL eqParty a.parties b.parties)) (fun bh4 => ?_) (fun bh4 => ?_))
    ·
     have h4 := notT bh4
     refine SEQ (RG (UU 1 [(4, B false)] (ENDOPS (NEXT (RF rfl (.bool false) () [] ?_ ?_)))))
     · (first | (simp [RV, eqHouse, *]; done) | (simp_all [RV, eqHouse]; done))
     · rfl
    ·
     have h4 := notF bh4
     refine SKIP (NEXT (SEQ (SEQ (RG (UU 4 [(28, .v (.slice a_cabins_a a.cabins.length a_cabins_c)), (30, .v (.slice b_cabins_a b.cabins.length b_cabins_c))] (OPC (CA 28 #[.slice a_cabins_a a.cabins.length a_cabins_c, .slice b_cabins_a b.cabins.length b_cabins_c] (some 31) (RV (.bool (eqL eqCabin a.cabins b.cabins))) (fun w hw => eqCabinS_c w a.cabins a_cabins_a a_cabins_c (ha_cabins.fr hw.fr) b.cabins b_cabins_a b_cabins_c (hb_cabins.fr hw.fr)) ?_)))))))
     rintro ⟨⟩
     refine UU 1 [(32, B (!(eqL eqCabin a.cabins b.cabins)))] (NI (!(eqL eqCabin a.cabins b.cabins)) (fun bh5 => ?_) (fun bh5 => ?_))
     ·
      have h5 := notT bh5
      refine SEQ (RG (UU 1 [(4, B false)] (ENDOPS (NEXT (RF rfl (.bool false) () [] ?_ ?_)))))
      · (first | (simp [RV, eqHouse, *]; done) | (simp_all [RV, eqHouse]; done))
      · rfl
     ·
      have h5 := notF bh5
      refine SKIP (NEXT (SEQ (SEQ (RG (UU 4 [(34, .v (.slice a_todo_a a.todo.length a_todo_c)), (36, .v (.slice b_todo_a b.todo.length b_todo_c))] (OPC (CA 29 #[.slice a_todo_a a.todo.length a_todo_c, .slice b_todo_a b.todo.length b_todo_c] (some 37) (RV (.bool (eqInts a.todo b.todo))) (fun w hw => eqIntS_c w a.todo a_todo_a a_todo_c (ha_todo.fr hw.fr) b.todo b_todo_a b_todo_c (hb_todo.fr hw.fr)) ?_)))))))
      rintro ⟨⟩
      refine UU 1 [(38, B (!(eqInts a.todo b.todo)))] (NI (!(eqInts a.todo b.todo)) (fun bh6 => ?_) (fun bh6 => ?_))
      ·
       have h6 := notT bh6
       refine SEQ (RG (UU 1 [(4, B false)] (ENDOPS (NEXT (RF rfl (.bool false) () [] ?_ ?_)))))
       · (first | (simp [RV, eqHouse, *]; done) | (simp_all [RV, eqHouse]; done))
       · rfl
      ·
       have h6 := notF bh6
       refine SKIP (NEXT (SEQ (SEQ (RG (UU 4 [(40, .v (.slice a_jobs_a a.jobs.length a_jobs_c)), (42, .v (.slice b_jobs_a b.jobs.length b_jobs_c))] (OPC (CA 29 #[.slice a_jobs_a a.jobs.length a_jobs_c, .slice b_jobs_a b.jobs.length b_jobs_c] (some 43) (RV (.bool (eqInts a.jobs b.jobs))) (fun w hw => eqIntS_c w a.jobs a_jobs_a a_jobs_c (ha_jobs.fr hw.fr) b.jobs b_jobs_a b_jobs_c (hb_jobs.fr hw.fr)) ?_)))))))
       rintro ⟨⟩
       refine UU 1 [(44, B (!(eqInts a.jobs b.jobs)))] (NI (!(eqInts a.jobs b.jobs)) (fun bh7 => ?_) (fun bh7 => ?_))
       ·
        have h7 := notT bh7
        refine SEQ (RG (UU 1 [(4, B false)] (ENDOPS (NEXT (RF rfl (.bool false) () [] ?_ ?_)))))
        · (first | (simp [RV, eqHouse, *]; done) | (simp_all [RV, eqHouse]; done))
        · rfl
       ·
        have h7 := notF bh7
        refine SKIP (NEXT (SEQ (RG (UU 1 [(4, B true)] (ENDOPS (NEXT (RF rfl (.bool true) () [] ?_ ?_)))))))
        · (first | (simp [RV, eqHouse, *]; done) | (simp_all [RV, eqHouse]; done))
        · rfl

end SX
end Go.Proofs.YtgbfemglimebdaaGreatDoor
