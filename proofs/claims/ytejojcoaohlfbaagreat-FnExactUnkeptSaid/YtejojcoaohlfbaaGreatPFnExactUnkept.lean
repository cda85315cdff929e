/- The law FnExactUnkept holds for every input: the program's Unkept returns what the reference's returns. -/
import Derived.Test.YtejojcoaohlfbaaGreatGJ
import Derived.Test.YtejojcoaohlfbaaGreatSx9
import Derived.Test.YtejojcoaohlfbaaGreatRows
import Derived.ShutString
import Derived.ChangeOld
import Derived.Carry
namespace Go.Proofs.YtejojcoaohlfbaaGreat
namespace SX
open Go Go.RowKit Go.ChangeShapes Go.WideShapes Go.ChangeAt
open Go.ChangeMaps (open_string shut_string)
set_option linter.unusedVariables false
theorem openS_24 {H : Type} {enc : TypeId × Value → H} {w : World} {base : Nat} {spare : Nat → Bool} {held : Bool} {fuel : Nat} {cs : List Value} {x : DataW H × List MemPlace} (h : DataW.trod enc Tryz.prog w base spare held fuel 24 cs = some x) :
 ∃ (r : Rules) (r_seats_a : Option Addr) (r_seats_c : Nat), cs = [.slice r_seats_a r.seats.length r_seats_c, vi r.tiers, vi r.room, vi r.size, vi r.period, vi r.window, vi r.rest, vi r.tries, vi r.crew] ∧ Rd intL w r_seats_a r.seats ∧ r.seats.length ≤ r_seats_c := by
 have hl := struct_len Tryz.underlying24 h (n := 9) (by kernel_rfl)
 match cs, hl with
 | [c0, c1, c2, c3, c4, c5, c6, c7, c8], _ =>
   obtain ⟨_, _, g0⟩ := field_at Tryz.underlying24 h 0 22 0 1 (by kernel_rfl) (by kernel_rfl)
   obtain ⟨x0, f0, ⟨a0, k0, e0, hr0⟩, w0⟩ := (open_sl 3 (open_int' Tryz.underlying3) Tryz.underlying22 (by kernel_rfl) (by decide)) _ _ _ _ _ _ _ _ _ g0
   obtain rfl : c0 = .slice a0 x0.length k0 := by simpa using e0
   simp only [Bool.false_eq_true, if_false] at hr0
   obtain ⟨_, _, g1⟩ := field_at Tryz.underlying24 h 1 3 1 1 (by kernel_rfl) (by kernel_rfl)
   obtain ⟨x1, _, ⟨e1, _⟩, w1⟩ := open_int' Tryz.underlying3 _ _ _ _ _ _ _ _ _ g1
   obtain rfl : c1 = vi x1 := by simpa using e1
   obtain ⟨_, _, g2⟩ := field_at Tryz.underlying24 h 2 3 2 1 (by kernel_rfl) (by kernel_rfl)
   obtain ⟨x2, _, ⟨e2, _⟩, w2⟩ := open_int' Tryz.underlying3 _ _ _ _ _ _ _ _ _ g2
   obtain rfl : c2 = vi x2 := by simpa using e2
   obtain ⟨_, _, g3⟩ := field_at Tryz.underlying24 h 3 3 3 1 (by kernel_rfl) (by kernel_rfl)
   obtain ⟨x3, _, ⟨e3, _⟩, w3⟩ := open_int' Tryz.underlying3 _ _ _ _ _ _ _ _ _ g3
   obtain rfl : c3 = vi x3 := by simpa using e3
   obtain ⟨_, _, g4⟩ := field_at Tryz.underlying24 h 4 3 4 1 (by kernel_rfl) (by kernel_rfl)
   obtain ⟨x4, _, ⟨e4, _⟩, w4⟩ := open_int' Tryz.underlying3 _ _ _ _ _ _ _ _ _ g4
   obtain rfl : c4 = vi x4 := by simpa using e4
   obtain ⟨_, _, g5⟩ := field_at Tryz.underlying24 h 5 3 5 1 (by kernel_rfl) (by kernel_rfl)
   obtain ⟨x5, _, ⟨e5, _⟩, w5⟩ := open_int' Tryz.underlying3 _ _ _ _ _ _ _ _ _ g5
   obtain rfl : c5 = vi x5 := by simpa using e5
   obtain ⟨_, _, g6⟩ := field_at Tryz.underlying24 h 6 3 6 1 (by kernel_rfl) (by kernel_rfl)
   obtain ⟨x6, _, ⟨e6, _⟩, w6⟩ := open_int' Tryz.underlying3 _ _ _ _ _ _ _ _ _ g6
   obtain rfl : c6 = vi x6 := by simpa using e6
   obtain ⟨_, _, g7⟩ := field_at Tryz.underlying24 h 7 3 7 1 (by kernel_rfl) (by kernel_rfl)
   obtain ⟨x7, _, ⟨e7, _⟩, w7⟩ := open_int' Tryz.underlying3 _ _ _ _ _ _ _ _ _ g7
   obtain rfl : c7 = vi x7 := by simpa using e7
   obtain ⟨_, _, g8⟩ := field_at Tryz.underlying24 h 8 3 8 1 (by kernel_rfl) (by kernel_rfl)
   obtain ⟨x8, _, ⟨e8, _⟩, w8⟩ := open_int' Tryz.underlying3 _ _ _ _ _ _ _ _ _ g8
   obtain rfl : c8 = vi x8 := by simpa using e8
   exact ⟨⟨x0, x1, x2, x3, x4, x5, x6, x7, x8⟩, a0, k0, rfl, ⟨f0, hr0.2⟩, hr0.1⟩
theorem openS_180 {H : Type} {enc : TypeId × Value → H} {w : World} {base : Nat} {spare : Nat → Bool} {held : Bool} {fuel : Nat} {cs : List Value} {x : DataW H × List MemPlace} (h : DataW.trod enc Tryz.prog w base spare held fuel 180 cs = some x) :
 ∃ (r : Party), cs = [vi r.id, vi r.cabin, vi r.from', vi r.size, vi r.tier, vi r.since, vi r.turn, vi r.state, vi r.until', vi r.asked] := by
 have hl := struct_len Tryz.underlying180 h (n := 10) (by kernel_rfl)
 match cs, hl with
 | [c0, c1, c2, c3, c4, c5, c6, c7, c8, c9], _ =>
   obtain ⟨_, _, g0⟩ := field_at Tryz.underlying180 h 0 3 0 1 (by kernel_rfl) (by kernel_rfl)
   obtain ⟨x0, _, ⟨e0, _⟩, w0⟩ := open_int' Tryz.underlying3 _ _ _ _ _ _ _ _ _ g0
   obtain rfl : c0 = vi x0 := by simpa using e0
   obtain ⟨_, _, g1⟩ := field_at Tryz.underlying180 h 1 3 1 1 (by kernel_rfl) (by kernel_rfl)
   obtain ⟨x1, _, ⟨e1, _⟩, w1⟩ := open_int' Tryz.underlying3 _ _ _ _ _ _ _ _ _ g1
   obtain rfl : c1 = vi x1 := by simpa using e1
   obtain ⟨_, _, g2⟩ := field_at Tryz.underlying180 h 2 3 2 1 (by kernel_rfl) (by kernel_rfl)
   obtain ⟨x2, _, ⟨e2, _⟩, w2⟩ := open_int' Tryz.underlying3 _ _ _ _ _ _ _ _ _ g2
   obtain rfl : c2 = vi x2 := by simpa using e2
   obtain ⟨_, _, g3⟩ := field_at Tryz.underlying180 h 3 3 3 1 (by kernel_rfl) (by kernel_rfl)
   obtain ⟨x3, _, ⟨e3, _⟩, w3⟩ := open_int' Tryz.underlying3 _ _ _ _ _ _ _ _ _ g3
   obtain rfl : c3 = vi x3 := by simpa using e3
   obtain ⟨_, _, g4⟩ := field_at Tryz.underlying180 h 4 3 4 1 (by kernel_rfl) (by kernel_rfl)
   obtain ⟨x4, _, ⟨e4, _⟩, w4⟩ := open_int' Tryz.underlying3 _ _ _ _ _ _ _ _ _ g4
   obtain rfl : c4 = vi x4 := by simpa using e4
   obtain ⟨_, _, g5⟩ := field_at Tryz.underlying180 h 5 3 5 1 (by kernel_rfl) (by kernel_rfl)
   obtain ⟨x5, _, ⟨e5, _⟩, w5⟩ := open_int' Tryz.underlying3 _ _ _ _ _ _ _ _ _ g5
   obtain rfl : c5 = vi x5 := by simpa using e5
   obtain ⟨_, _, g6⟩ := field_at Tryz.underlying180 h 6 3 6 1 (by kernel_rfl) (by kernel_rfl)
   obtain ⟨x6, _, ⟨e6, _⟩, w6⟩ := open_int' Tryz.underlying3 _ _ _ _ _ _ _ _ _ g6
   obtain rfl : c6 = vi x6 := by simpa using e6
   obtain ⟨_, _, g7⟩ := field_at Tryz.underlying180 h 7 3 7 1 (by kernel_rfl) (by kernel_rfl)
   obtain ⟨x7, _, ⟨e7, _⟩, w7⟩ := open_int' Tryz.underlying3 _ _ _ _ _ _ _ _ _ g7
   obtain rfl : c7 = vi x7 := by simpa using e7
   obtain ⟨_, _, g8⟩ := field_at Tryz.underlying180 h 8 3 8 1 (by kernel_rfl) (by kernel_rfl)
   obtain ⟨x8, _, ⟨e8, _⟩, w8⟩ := open_int' Tryz.underlying3 _ _ _ _ _ _ _ _ _ g8
   obtain rfl : c8 = vi x8 := by simpa using e8
   obtain ⟨_, _, g9⟩ := field_at Tryz.underlying180 h 9 3 9 1 (by kernel_rfl) (by kernel_rfl)
   obtain ⟨x9, _, ⟨e9, _⟩, w9⟩ := open_int' Tryz.underlying3 _ _ _ _ _ _ _ _ _ g9
   obtain rfl : c9 = vi x9 := by simpa using e9
   exact ⟨⟨x0, x1, x2, x3, x4, x5, x6, x7, x8, x9⟩, rfl⟩
theorem open_party : Opens Tryz.prog 180 partyL (fun r => True) := by
 intro H enc w base spare held fuel cs x h
 obtain ⟨r, e⟩ := openS_180 h
 exact ⟨r, [], ⟨e, rfl⟩, trivial⟩
theorem openS_170 {H : Type} {enc : TypeId × Value → H} {w : World} {base : Nat} {spare : Nat → Bool} {held : Bool} {fuel : Nat} {cs : List Value} {x : DataW H × List MemPlace} (h : DataW.trod enc Tryz.prog w base spare held fuel 170 cs = some x) :
 ∃ (r : Ledger), cs = [vi r.total, vi r.free, vi r.held, vi r.sold, vi r.tied] := by
 have hl := struct_len Tryz.underlying170 h (n := 5) (by kernel_rfl)
 match cs, hl with
 | [c0, c1, c2, c3, c4], _ =>
   obtain ⟨_, _, g0⟩ := field_at Tryz.underlying170 h 0 3 0 1 (by kernel_rfl) (by kernel_rfl)
   obtain ⟨x0, _, ⟨e0, _⟩, w0⟩ := open_int' Tryz.underlying3 _ _ _ _ _ _ _ _ _ g0
   obtain rfl : c0 = vi x0 := by simpa using e0
   obtain ⟨_, _, g1⟩ := field_at Tryz.underlying170 h 1 3 1 1 (by kernel_rfl) (by kernel_rfl)
   obtain ⟨x1, _, ⟨e1, _⟩, w1⟩ := open_int' Tryz.underlying3 _ _ _ _ _ _ _ _ _ g1
   obtain rfl : c1 = vi x1 := by simpa using e1
   obtain ⟨_, _, g2⟩ := field_at Tryz.underlying170 h 2 3 2 1 (by kernel_rfl) (by kernel_rfl)
   obtain ⟨x2, _, ⟨e2, _⟩, w2⟩ := open_int' Tryz.underlying3 _ _ _ _ _ _ _ _ _ g2
   obtain rfl : c2 = vi x2 := by simpa using e2
   obtain ⟨_, _, g3⟩ := field_at Tryz.underlying170 h 3 3 3 1 (by kernel_rfl) (by kernel_rfl)
   obtain ⟨x3, _, ⟨e3, _⟩, w3⟩ := open_int' Tryz.underlying3 _ _ _ _ _ _ _ _ _ g3
   obtain rfl : c3 = vi x3 := by simpa using e3
   obtain ⟨_, _, g4⟩ := field_at Tryz.underlying170 h 4 3 4 1 (by kernel_rfl) (by kernel_rfl)
   obtain ⟨x4, _, ⟨e4, _⟩, w4⟩ := open_int' Tryz.underlying3 _ _ _ _ _ _ _ _ _ g4
   obtain rfl : c4 = vi x4 := by simpa using e4
   exact ⟨⟨x0, x1, x2, x3, x4⟩, rfl⟩
theorem open_ledger : Opens Tryz.prog 170 ledgerL (fun r => True) := by
 intro H enc w base spare held fuel cs x h
 obtain ⟨r, e⟩ := openS_170 h
 exact ⟨r, [], ⟨e, rfl⟩, trivial⟩
theorem openS_271 {H : Type} {enc : TypeId × Value → H} {w : World} {base : Nat} {spare : Nat → Bool} {held : Bool} {fuel : Nat} {cs : List Value} {x : DataW H × List MemPlace} (h : DataW.trod enc Tryz.prog w base spare held fuel 271 cs = some x) :
 ∃ (r : Entry), cs = [vi r.level, vi r.turn, vi r.id, vi r.size] := by
 have hl := struct_len Tryz.underlying271 h (n := 4) (by kernel_rfl)
 match cs, hl with
 | [c0, c1, c2, c3], _ =>
   obtain ⟨_, _, g0⟩ := field_at Tryz.underlying271 h 0 3 0 1 (by kernel_rfl) (by kernel_rfl)
   obtain ⟨x0, _, ⟨e0, _⟩, w0⟩ := open_int' Tryz.underlying3 _ _ _ _ _ _ _ _ _ g0
   obtain rfl : c0 = vi x0 := by simpa using e0
   obtain ⟨_, _, g1⟩ := field_at Tryz.underlying271 h 1 3 1 1 (by kernel_rfl) (by kernel_rfl)
   obtain ⟨x1, _, ⟨e1, _⟩, w1⟩ := open_int' Tryz.underlying3 _ _ _ _ _ _ _ _ _ g1
   obtain rfl : c1 = vi x1 := by simpa using e1
   obtain ⟨_, _, g2⟩ := field_at Tryz.underlying271 h 2 3 2 1 (by kernel_rfl) (by kernel_rfl)
   obtain ⟨x2, _, ⟨e2, _⟩, w2⟩ := open_int' Tryz.underlying3 _ _ _ _ _ _ _ _ _ g2
   obtain rfl : c2 = vi x2 := by simpa using e2
   obtain ⟨_, _, g3⟩ := field_at Tryz.underlying271 h 3 3 3 1 (by kernel_rfl) (by kernel_rfl)
   obtain ⟨x3, _, ⟨e3, _⟩, w3⟩ := open_int' Tryz.underlying3 _ _ _ _ _ _ _ _ _ g3
   obtain rfl : c3 = vi x3 := by simpa using e3
   exact ⟨⟨x0, x1, x2, x3⟩, rfl⟩
theorem open_entry : Opens Tryz.prog 271 entryL (fun r => True) := by
 intro H enc w base spare held fuel cs x h
 obtain ⟨r, e⟩ := openS_271 h
 exact ⟨r, [], ⟨e, rfl⟩, trivial⟩
theorem openS_301 {H : Type} {enc : TypeId × Value → H} {w : World} {base : Nat} {spare : Nat → Bool} {held : Bool} {fuel : Nat} {cs : List Value} {x : DataW H × List MemPlace} (h : DataW.trod enc Tryz.prog w base spare held fuel 301 cs = some x) :
 ∃ (r : Pin), cs = [vi r.at', vi r.id] := by
 have hl := struct_len Tryz.underlying301 h (n := 2) (by kernel_rfl)
 match cs, hl with
 | [c0, c1], _ =>
   obtain ⟨_, _, g0⟩ := field_at Tryz.underlying301 h 0 3 0 1 (by kernel_rfl) (by kernel_rfl)
   obtain ⟨x0, _, ⟨e0, _⟩, w0⟩ := open_int' Tryz.underlying3 _ _ _ _ _ _ _ _ _ g0
   obtain rfl : c0 = vi x0 := by simpa using e0
   obtain ⟨_, _, g1⟩ := field_at Tryz.underlying301 h 1 3 1 1 (by kernel_rfl) (by kernel_rfl)
   obtain ⟨x1, _, ⟨e1, _⟩, w1⟩ := open_int' Tryz.underlying3 _ _ _ _ _ _ _ _ _ g1
   obtain rfl : c1 = vi x1 := by simpa using e1
   exact ⟨⟨x0, x1⟩, rfl⟩
theorem open_pin : Opens Tryz.prog 301 pinL (fun r => True) := by
 intro H enc w base spare held fuel cs x h
 obtain ⟨r, e⟩ := openS_301 h
 exact ⟨r, [], ⟨e, rfl⟩, trivial⟩
theorem openS_174 {H : Type} {enc : TypeId × Value → H} {w : World} {base : Nat} {spare : Nat → Bool} {held : Bool} {fuel : Nat} {cs : List Value} {x : DataW H × List MemPlace} (h : DataW.trod enc Tryz.prog w base spare held fuel 174 cs = some x) :
 ∃ (r : Wheel) (r_spoke_a : Option Addr) (r_spoke_c : Nat), cs = [.slice r_spoke_a r.spoke.length r_spoke_c] ∧ Rd (sl 301 pinL) w r_spoke_a r.spoke ∧ r.spoke.length ≤ r_spoke_c := by
 have hl := struct_len Tryz.underlying174 h (n := 1) (by kernel_rfl)
 match cs, hl with
 | [c0], _ =>
   obtain ⟨_, _, g0⟩ := field_at Tryz.underlying174 h 0 172 0 1 (by kernel_rfl) (by kernel_rfl)
   obtain ⟨x0, f0, ⟨a0, k0, e0, hr0⟩, w0⟩ := (open_sl 292 (open_sl 301 open_pin Tryz.underlying292 (by kernel_rfl) (by decide)) Tryz.underlying172 (by kernel_rfl) (by decide)) _ _ _ _ _ _ _ _ _ g0
   obtain rfl : c0 = .slice a0 x0.length k0 := by simpa using e0
   simp only [Bool.false_eq_true, if_false] at hr0
   exact ⟨⟨x0⟩, a0, k0, rfl, ⟨f0, hr0.2⟩, hr0.1⟩
theorem openS_176 {H : Type} {enc : TypeId × Value → H} {w : World} {base : Nat} {spare : Nat → Bool} {held : Bool} {fuel : Nat} {cs : List Value} {x : DataW H × List MemPlace} (h : DataW.trod enc Tryz.prog w base spare held fuel 176 cs = some x) :
 ∃ (r : Cabin) (r_row_a : Option Addr) (r_row_c : Nat) (r_wheel_spoke_a : Option Addr) (r_wheel_spoke_c : Nat), cs = [vi r.seats.total, vi r.seats.free, vi r.seats.held, vi r.seats.sold, vi r.seats.tied, .slice r_row_a r.row.length r_row_c, .slice r_wheel_spoke_a r.wheel.spoke.length r_wheel_spoke_c] ∧ Rd entryL w r_row_a r.row ∧ Rd (sl 301 pinL) w r_wheel_spoke_a r.wheel.spoke ∧ r.row.length ≤ r_row_c ∧ r.wheel.spoke.length ≤ r_wheel_spoke_c := by
 have hl := struct_len Tryz.underlying176 h (n := 7) (by kernel_rfl)
 match cs, hl with
 | [c0, c1, c2, c3, c4, c5, c6], _ =>
   obtain ⟨_, _, g0⟩ := field_at Tryz.underlying176 h 0 170 0 5 (by kernel_rfl) (by kernel_rfl)
   obtain ⟨x0, e0⟩ := openS_170 g0
   simp only [List.drop, List.take, List.cons.injEq, and_true] at e0
   obtain ⟨rfl, rfl, rfl, rfl, rfl⟩ := e0
   obtain ⟨_, _, g1⟩ := field_at Tryz.underlying176 h 1 171 5 1 (by kernel_rfl) (by kernel_rfl)
   obtain ⟨x1, f1, ⟨a1, k1, e1, hr1⟩, w1⟩ := (open_sl 271 open_entry Tryz.underlying171 (by kernel_rfl) (by decide)) _ _ _ _ _ _ _ _ _ g1
   obtain rfl : c5 = .slice a1 x1.length k1 := by simpa using e1
   simp only [Bool.false_eq_true, if_false] at hr1
   obtain ⟨_, _, g2⟩ := field_at Tryz.underlying176 h 2 174 6 1 (by kernel_rfl) (by kernel_rfl)
   obtain ⟨x2, a2_0, k2_0, e2, hr2_0, hc2_0⟩ := openS_174 g2
   simp only [List.drop, List.take, List.cons.injEq, and_true] at e2
   obtain ⟨rfl⟩ := e2
   exact ⟨⟨x0, x1, x2⟩, a1, k1, a2_0, k2_0, rfl, ⟨f1, hr1.2⟩, hr2_0, hr1.1, hc2_0⟩
theorem open_cabin : Opens Tryz.prog 176 (cabinLx 271 292 301) (fun _ => True) := by
 intro H enc w base spare held fuel cs x h
 obtain ⟨r, a0, c0, a1, c1, rfl, ⟨f0, h0⟩, ⟨f1, h1⟩, p0, p1⟩ := openS_176 h
 exact ⟨r, _, cabinRepF h0 h1 p0 p1, trivial⟩
theorem openS_28 {H : Type} {enc : TypeId × Value → H} {w : World} {base : Nat} {spare : Nat → Bool} {held : Bool} {fuel : Nat} {cs : List Value} {x : DataW H × List MemPlace} (h : DataW.trod enc Tryz.prog w base spare held fuel 28 cs = some x) :
 ∃ (r : House) (r_rules_seats_a : Option Addr) (r_rules_seats_c : Nat) (r_parties_a : Option Addr) (r_parties_c : Nat) (r_cabins_a : Option Addr) (r_cabins_c : Nat) (r_todo_a : Option Addr) (r_todo_c : Nat) (r_jobs_a : Option Addr) (r_jobs_c : Nat), cs = [.slice r_rules_seats_a r.rules.seats.length r_rules_seats_c, vi r.rules.tiers, vi r.rules.room, vi r.rules.size, vi r.rules.period, vi r.rules.window, vi r.rules.rest, vi r.rules.tries, vi r.rules.crew, vi r.now, vi r.turn, .slice r_parties_a r.parties.length r_parties_c, .slice r_cabins_a r.cabins.length r_cabins_c, .slice r_todo_a r.todo.length r_todo_c, .slice r_jobs_a r.jobs.length r_jobs_c] ∧ Rd intL w r_rules_seats_a r.rules.seats ∧ Rd partyL w r_parties_a r.parties ∧ Rd (cabinLx 271 292 301) w r_cabins_a r.cabins ∧ Rd intL w r_todo_a r.todo ∧ Rd intL w r_jobs_a r.jobs ∧ r.rules.seats.length ≤ r_rules_seats_c ∧ r.parties.length ≤ r_parties_c ∧ r.cabins.length ≤ r_cabins_c ∧ r.todo.length ≤ r_todo_c ∧ r.jobs.length ≤ r_jobs_c := by
 have hl := struct_len Tryz.underlying28 h (n := 15) (by kernel_rfl)
 match cs, hl with
 | [c0, c1, c2, c3, c4, c5, c6, c7, c8, c9, c10, c11, c12, c13, c14], _ =>
   obtain ⟨_, _, g0⟩ := field_at Tryz.underlying28 h 0 24 0 9 (by kernel_rfl) (by kernel_rfl)
   obtain ⟨x0, a0_0, k0_0, e0, hr0_0, hc0_0⟩ := openS_24 g0
   simp only [List.drop, List.take, List.cons.injEq, and_true] at e0
   obtain ⟨rfl, rfl, rfl, rfl, rfl, rfl, rfl, rfl, rfl⟩ := e0
   obtain ⟨_, _, g1⟩ := field_at Tryz.underlying28 h 1 3 9 1 (by kernel_rfl) (by kernel_rfl)
   obtain ⟨x1, _, ⟨e1, _⟩, w1⟩ := open_int' Tryz.underlying3 _ _ _ _ _ _ _ _ _ g1
   obtain rfl : c9 = vi x1 := by simpa using e1
   obtain ⟨_, _, g2⟩ := field_at Tryz.underlying28 h 2 3 10 1 (by kernel_rfl) (by kernel_rfl)
   obtain ⟨x2, _, ⟨e2, _⟩, w2⟩ := open_int' Tryz.underlying3 _ _ _ _ _ _ _ _ _ g2
   obtain rfl : c10 = vi x2 := by simpa using e2
   obtain ⟨_, _, g3⟩ := field_at Tryz.underlying28 h 3 25 11 1 (by kernel_rfl) (by kernel_rfl)
   obtain ⟨x3, f3, ⟨a3, k3, e3, hr3⟩, w3⟩ := (open_sl 180 open_party Tryz.underlying25 (by kernel_rfl) (by decide)) _ _ _ _ _ _ _ _ _ g3
   obtain rfl : c11 = .slice a3 x3.length k3 := by simpa using e3
   simp only [Bool.false_eq_true, if_false] at hr3
   obtain ⟨_, _, g4⟩ := field_at Tryz.underlying28 h 4 26 12 1 (by kernel_rfl) (by kernel_rfl)
   obtain ⟨x4, f4, ⟨a4, k4, e4, hr4⟩, w4⟩ := (open_sl 176 open_cabin Tryz.underlying26 (by kernel_rfl) (by decide)) _ _ _ _ _ _ _ _ _ g4
   obtain rfl : c12 = .slice a4 x4.length k4 := by simpa using e4
   simp only [Bool.false_eq_true, if_false] at hr4
   obtain ⟨_, _, g5⟩ := field_at Tryz.underlying28 h 5 22 13 1 (by kernel_rfl) (by kernel_rfl)
   obtain ⟨x5, f5, ⟨a5, k5, e5, hr5⟩, w5⟩ := (open_sl 3 (open_int' Tryz.underlying3) Tryz.underlying22 (by kernel_rfl) (by decide)) _ _ _ _ _ _ _ _ _ g5
   obtain rfl : c13 = .slice a5 x5.length k5 := by simpa using e5
   simp only [Bool.false_eq_true, if_false] at hr5
   obtain ⟨_, _, g6⟩ := field_at Tryz.underlying28 h 6 22 14 1 (by kernel_rfl) (by kernel_rfl)
   obtain ⟨x6, f6, ⟨a6, k6, e6, hr6⟩, w6⟩ := (open_sl 3 (open_int' Tryz.underlying3) Tryz.underlying22 (by kernel_rfl) (by decide)) _ _ _ _ _ _ _ _ _ g6
   obtain rfl : c14 = .slice a6 x6.length k6 := by simpa using e6
   simp only [Bool.false_eq_true, if_false] at hr6
   exact ⟨⟨x0, x1, x2, x3, x4, x5, x6⟩, a0_0, k0_0, a3, k3, a4, k4, a5, k5, a6, k6, rfl, hr0_0, ⟨f3, hr3.2⟩, ⟨f4, hr4.2⟩, ⟨f5, hr5.2⟩, ⟨f6, hr6.2⟩, hc0_0, hr3.1, hr4.1, hr5.1, hr6.1⟩
theorem openS_117 {H : Type} {enc : TypeId × Value → H} {w : World} {base : Nat} {spare : Nat → Bool} {held : Bool} {fuel : Nat} {cs : List Value} {x : DataW H × List MemPlace} (h : DataW.trod enc Tryz.prog w base spare held fuel 117 cs = some x) :
 ∃ (r : Req), cs = [vi r.kind, vi r.id, vi r.cabin, vi r.from', vi r.size, vi r.tier] := by
 have hl := struct_len Tryz.underlying117 h (n := 6) (by kernel_rfl)
 match cs, hl with
 | [c0, c1, c2, c3, c4, c5], _ =>
   obtain ⟨_, _, g0⟩ := field_at Tryz.underlying117 h 0 3 0 1 (by kernel_rfl) (by kernel_rfl)
   obtain ⟨x0, _, ⟨e0, _⟩, w0⟩ := open_int' Tryz.underlying3 _ _ _ _ _ _ _ _ _ g0
   obtain rfl : c0 = vi x0 := by simpa using e0
   obtain ⟨_, _, g1⟩ := field_at Tryz.underlying117 h 1 3 1 1 (by kernel_rfl) (by kernel_rfl)
   obtain ⟨x1, _, ⟨e1, _⟩, w1⟩ := open_int' Tryz.underlying3 _ _ _ _ _ _ _ _ _ g1
   obtain rfl : c1 = vi x1 := by simpa using e1
   obtain ⟨_, _, g2⟩ := field_at Tryz.underlying117 h 2 3 2 1 (by kernel_rfl) (by kernel_rfl)
   obtain ⟨x2, _, ⟨e2, _⟩, w2⟩ := open_int' Tryz.underlying3 _ _ _ _ _ _ _ _ _ g2
   obtain rfl : c2 = vi x2 := by simpa using e2
   obtain ⟨_, _, g3⟩ := field_at Tryz.underlying117 h 3 3 3 1 (by kernel_rfl) (by kernel_rfl)
   obtain ⟨x3, _, ⟨e3, _⟩, w3⟩ := open_int' Tryz.underlying3 _ _ _ _ _ _ _ _ _ g3
   obtain rfl : c3 = vi x3 := by simpa using e3
   obtain ⟨_, _, g4⟩ := field_at Tryz.underlying117 h 4 3 4 1 (by kernel_rfl) (by kernel_rfl)
   obtain ⟨x4, _, ⟨e4, _⟩, w4⟩ := open_int' Tryz.underlying3 _ _ _ _ _ _ _ _ _ g4
   obtain rfl : c4 = vi x4 := by simpa using e4
   obtain ⟨_, _, g5⟩ := field_at Tryz.underlying117 h 5 3 5 1 (by kernel_rfl) (by kernel_rfl)
   obtain ⟨x5, _, ⟨e5, _⟩, w5⟩ := open_int' Tryz.underlying3 _ _ _ _ _ _ _ _ _ g5
   obtain rfl : c5 = vi x5 := by simpa using e5
   exact ⟨⟨x0, x1, x2, x3, x4, x5⟩, rfl⟩
theorem open_req : Opens Tryz.prog 117 reqL (fun r => True) := by
 intro H enc w base spare held fuel cs x h
 obtain ⟨r, e⟩ := openS_117 h
 exact ⟨r, [], ⟨e, rfl⟩, trivial⟩
theorem exUnkept_c_own : ownKnob Tryz.prog.godebug = none := by kernel_rfl
theorem exUnkept_c_laid : laidOutB Tryz.prog = true := by kernel_rfl
set_option maxRecDepth 100000 in
theorem exUnkept_c_lifted (os : Os) (started : os.Started) (H : Type) (enc : TypeId × Value → H) :
 ReturnsInHanded {} Tryz.checked os 4 .any (Rows.fnExactUnkeptSpec.pre6 enc Tryz.prog Tryz.f4 Rows.fnExactUnkeptRow.domain false) (Rows.fnExactUnkeptSpec.post enc Tryz.prog Tryz.f4 false true false false) := by
 refine returnsInHanded_of_change (C := Tryz.checked) exUnkept_c_own started (by kernel_rfl) Tryz.func4
  (ChangeSpec.witness6 (enc := enc) (C := Tryz.checked) false ⟨#[], #[.agg #[.slice none 0 0, .int .i64 0, .int .i64 0, .int .i64 0, .int .i64 0, .int .i64 0, .int .i64 0, .int .i64 0, .int .i64 0, .int .i64 0, .int .i64 0, .slice none 0 0, .slice none 0 0, .slice none 0 0, .slice none 0 0], .slice none 0 0], []⟩ 8 (by kernel_rfl) (by kernel_rfl) (by kernel_rfl) (by kernel_rfl)) ?_
 intro W base args ds gs before hval0 hW hcnd _
 have hval : ∀ (j : Nat) t v, Tryz.f4.params[j]? = some t → args[j]? = some v → Value.okWide Tryz.prog W .any base t v := hval0
 have hW' := hW
 obtain ⟨p, q, hA0, hV, rfl, hfz, hnd⟩ := hW
 have hA : DataW.TrodAll enc Tryz.prog W 0 (fun _ => true) true Tryz.f4.params.toList args.toList ds p := hA0
 rw [Tryz.params4] at hA hval
 obtain ⟨v0, vs0, d0, ds0, p0, q0, hargs, rfl, rfl, h0, r0⟩ := trodAll_cons hA
 obtain ⟨v1, vs1, d1, ds1, p1, q1, rfl, rfl, rfl, h1, r1⟩ := trodAll_cons r0
 obtain ⟨rfl, rfl, rfl⟩ := trodAll_nil r1
 obtain rfl : args = #[v0, v1] := by cases args; simp_all
 obtain ⟨rfl, rfl⟩ := trodVars_none hV
 have k0 := h0
 have lt0 : ∀ x ∈ p0, x.block < W.heap.size := by obtain ⟨m, hm⟩ := k0; exact DataW.trod_lt m _ _ _ hm
 obtain ⟨⟨cs0⟩, rfl, _⟩ := okWide_struct Tryz.underlying28 (hval 0 28 v0 rfl rfl)
 obtain ⟨fuel0, hf0⟩ := h0
 obtain ⟨a0, ha0_0, hk0_0, ha0_1, hk0_1, ha0_2, hk0_2, ha0_3, hk0_3, ha0_4, hk0_4, rfl, hr0_0, hr0_1, hr0_2, hr0_3, hr0_4, hc0_0, hc0_1, hc0_2, hc0_3, hc0_4⟩ := openS_28 (cs := cs0) hf0
 have k1 := h1
 have lt1 : ∀ x ∈ p1, x.block < W.heap.size := by obtain ⟨m, hm⟩ := k1; exact DataW.trod_lt m _ _ _ hm
 obtain ⟨ha1, len1, hk1, rfl⟩ := okWide_slice Tryz.underlying29 (hval 1 29 v1 rfl rfl)
 obtain ⟨fuel1, hf1⟩ := h1
 obtain ⟨a1, f1, ⟨b1, c1, e1, hr1⟩, _⟩ := (open_sl 117 open_req Tryz.underlying29 (by kernel_rfl) (by decide)) _ _ _ _ _ _ _ _ _ hf1
 simp only [Value.cells, List.cons.injEq, and_true, Value.slice.injEq] at e1
 obtain ⟨rfl, rfl, rfl⟩ := e1
 simp only [Bool.false_eq_true, if_false] at hr1
 clear hA0 hval0
 refine (Spec.law (exUnkept_c W a0 ha0_0 hk0_0 hr0_0 hc0_0 ha0_1 hk0_1 hr0_1 hc0_1 ha0_2 hk0_2 hr0_2 hc0_2 ha0_3 hk0_3 hr0_3 hc0_3 ha0_4 hk0_4 hr0_4 hc0_4 a1 ha1 hk1 ⟨f1, hr1.2⟩ hr1.1)).mono fun e W' ⟨he, bel⟩ => ?_
 subst he
 exact ⟨_, rfl, _, _, _, [], _, [], hW', trodAll_mk1 (shut_bool Tryz.underlying4 _), (trodAll_cons_mk (Below.trod exUnkept_c_laid (by kernel_rfl) (of_decide_eq_true (by kernel_rfl)) k0 bel lt0) (trodAll_cons_mk (Below.trod exUnkept_c_laid (by kernel_rfl) (of_decide_eq_true (by kernel_rfl)) k1 bel lt1) trodAll_mk0)), rfl, bel.frame _, fun h => by cases h⟩
theorem and_mk9 {a b : Bool} (h1 : a = true) (h2 : b = true) : (a && b) = true := by rw [h1, h2]; rfl
theorem exUnkept_c_named : Tryz.pinned.checked.prog.funcNamed Rows.fnExactUnkeptRow.func = some 4 := by kernel_rfl
set_option maxHeartbeats 0 in
set_option maxRecDepth 100000 in
theorem exUnkept_c_joined : joinedFacts Tryz.pinned.checked.prog 4 Tryz.f4 Rows.fnExactUnkeptSpec Rows.fnExactUnkeptRow = true := by
 unfold joinedFacts
 repeat' (with_reducible refine and_mk9 ?_ ?_)
 all_goals (as_aux_lemma => kernel_rfl)
theorem exUnkept_c_over : Rows.fnExactUnkeptRow.holds Tryz.pinned (OpenSpec.ofChange Rows.fnExactUnkeptSpec) :=
 OpenClaim.holds_of_wide 4 Tryz.f4 rfl rfl rfl rfl rfl rfl rfl ⟨rfl, rfl, rfl, rfl, rfl⟩ rfl rfl rfl rfl rfl exUnkept_c_named Tryz.func4 exUnkept_c_joined
  (of_decide_eq_true (by kernel_rfl)) (by unfold Func.isWrapper; first | (rw [if_pos (by decide +kernel)]; kernel_rfl) | (rw [if_neg (by decide +kernel)]; exact ⟨rfl, rfl⟩))
  (fun os started H enc _ => exUnkept_c_lifted os started H enc)
end SX
theorem exUnkept_holds : Rows.FnExactUnkeptSaid := SX.exUnkept_c_over
#print axioms exUnkept_holds
end Go.Proofs.YtejojcoaohlfbaaGreat
