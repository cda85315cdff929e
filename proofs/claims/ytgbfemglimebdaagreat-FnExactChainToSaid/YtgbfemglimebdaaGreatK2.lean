/- Walks, printed by program. -/
import Derived.Test.YtgbfemglimebdaaGreatMdlm
import Derived.Test.YtgbfemglimebdaaGreatSxd
import Derived.Test.YtgbfemglimebdaaGreatSxe
import Derived.Test.YtgbfemglimebdaaGreatSxc
import Derived.Test.YtgbfemglimebdaaGreatProg
namespace Go.Proofs.YtgbfemglimebdaaGreat
namespace SX
open Go Go.RowKit
set_option linter.unusedVariables false
set_option linter.unusedSimpArgs false
set_option maxRecDepth 10000
set_option maxHeartbeats 400000
theorem toIntS_c (W : World) (a : List Int) (a_a : Option Addr) (a_c : Nat) (ha : Rd intL W a_a a) (hb : a.length ≤ 1048576) : Spec Tryz.prog W [] 31 #[.slice a_a a.length a_c] (⟨HH, fun p => .slice p.1 a.length p.2, fun p => [slA 3 intL (.slice p.1 a.length p.2) a]⟩) := by
 refine ENTER0 (N := 22) (vs := [.slice a_a a.length a_c]) Tryz.func31 rfl rfl (NL rfl) ?_
 have ha_len := ha.len
 refine SEQ (REGION [0] rfl (RU 1 [] [] (by kernel_rfl) rfl (ENDOPS (NEXT (SEQ (REGION [0, 1, 2, 3] rfl (RU 2 [2, 3] [(6, I (a.length : Int))] (by kernel_rfl) rfl (OPC (MAKE 22 (.tmp 6) (.tmp 6) 7 22 (by kernel_rfl) (NL rfl) a.length (by kernel_rfl) (by kernel_rfl) 3 (by kernel_rfl) (fun z => [.int .i64 z]) (fun z => ⟨rfl, by simp [isCell]⟩) 0 (vi 0) 8 rfl (by kernel_rfl) (by decide) (by omega) (by simp only [maxLen]; omega) (fun a1 ha2 => (RU 1 [] [(3, .v (.slice a1 a.length a.length))] (by kernel_rfl) rfl (ENDOPS (NEXT (SEQ (SEQ (REGION [0] rfl (RU 1 [] [(4, I 0)] (by kernel_rfl) rfl (ENDOPS (NEXT (BLOCK (LOOP (ι := Nat × (List Int) × (List Int)) (fun j => [(0, .v (.slice a_a a.length a_c)), (3, .v (.slice a1 a.length a.length)), (4, I (j.1 : Int))]) (fun j => []) (fun j => [slA 3 intL (.slice a1 a.length a.length) j.2.2]) (fun j => j.1 + j.2.1.length = a.length ∧ a.drop j.1 = j.2.1 ∧ j.2.2 = a.take j.1 ++ List.replicate j.2.1.length 0) (fun j => j.2.1.length) (0, a, List.replicate a.length 0) [0, 3, 4] ⟨by simp, rfl, by simp⟩ (by kernel_rfl) rfl rfl ?_)))))))))))))))))))))
 rintro ⟨k, ys, out⟩ ⟨hk, hd, hv0⟩
 try dsimp only at hk hd hv0
 refine SEQ (SEQ (REGION [0, 1, 2, 3] rfl (RU 4 [] [(11, B (decide ((k : Int) < (a.length : Int))))] (by kernel_rfl) rfl (ENDOPS (NEXT (IF (decide ((k : Int) < (a.length : Int))) (by kernel_rfl) (fun bh3 => ?_) (fun bh3 => ?_)))))))
 ·
  have h3 := bh3
  have h3 := of_decide_eq_true h3
  obtain ⟨y4, ys5, rfl, hx_y4, hd_y4, hl_y4⟩ := drop_cons hd hk (by omega)
  refine SKIP (NEXT (SEQ (BLOCK (REGION [0, 1, 2, 3, 4, 5, 6, 7] rfl (RU 4 [4, 5, 6, 7] [(14, .v (.slice a1 a.length a.length)), (15, I (k : Int)), (16, .v (.slice a_a a.length a_c)), (17, I (k : Int))] (by kernel_rfl) rfl (OPC (INDEX 22 (.tmp 16) (.tmp 17) 18 0 (by kernel_rfl) (NL rfl) a_a a.length a_c .i64 (k : Int) 3 1 (by kernel_rfl) (by kernel_rfl) (by kernel_rfl) (by kernel_rfl) (Rd.some ha (by omega)) (by omega) (by omega) (OPC (LOADE 3 (.tmp 18) 19 3 (by kernel_rfl) (NL rfl) a_a (k * 1) 0 ([vi y4]) (vi y4) (by kernel_rfl) (fun w hw => (ha.fr hw.fr).flat hx_y4) (by kernel_rfl) (FACT (a.length = out.length) (fun w hw => (SlO.lenE (hw.own 0 rfl)).1) (fun hln6 => ?_)))))))))))
  obtain ⟨x7, hx8⟩ : ∃ y, out[k]? = some y := ⟨_, List.getElem?_eq_getElem (by omega)⟩
  refine OPC (INDEX 22 (.tmp 14) (.tmp 15) 20 0 (by kernel_rfl) (NL rfl) a1 a.length a.length .i64 (k : Int) 3 1 (by kernel_rfl) (by kernel_rfl) (by kernel_rfl) (by kernel_rfl) ha2 (by omega) (by omega) (OPC (STOREF 3 (.tmp 20) (.tmp 19) 0 (by kernel_rfl) 0 _ 3 a1 a.length a.length k 0 out rfl x7 y4 hx8 (vi y4) (by kernel_rfl) (by kernel_rfl) (by kernel_rfl) (ENDOPS (OUTN (NEXT (REGION [0, 1, 2] rfl (RU 2 [2] [(13, I (wr ((k : Int) + 1)))] (by kernel_rfl) rfl (CAST (d := 13) (vi (wr ((k : Int) + 1))) (vi ((k + 1 : Nat) : Int)) (by kernel_rfl) (vi_cast (by omega) (by omega)) (RU 1 [] [(4, I ((k + 1 : Nat) : Int))] (by kernel_rfl) rfl (ENDOPS (BACK (k + 1, ys5, out.set k y4) [0, 3, 4] 0 [0] _ ⟨hl_y4, hd_y4, by rw [hv0]; exact set_next hk hx_y4⟩ (by simp) (by kernel_rfl) rfl rfl rfl))))))))))))
 ·
  have h3 := bh3
  have h3 := of_decide_eq_false h3
  obtain rfl := drop_nil hk (by omega)
  refine EXIT (PASS trivial (PASS trivial (OUT (NEXT (SEQ (REGION [0, 1] rfl (RU 2 [] [(2, .v (.slice a1 a.length a.length))] (by kernel_rfl) rfl (ENDOPS (NEXT (RET ?_))))))))))
  have efin : a = out := by rw [hv0]; simp [show k = a.length by simpa using hk]
  refine FIN (.slice a1 a.length a.length) (by kernel_rfl) (a1, a.length) ?_ [0] ?_
  · (rw [efin] <;> rfl)
  · (rw [efin] <;> rfl)

theorem toRules_c (W : World) (a : Rules) (a_seats_a : Option Addr) (a_seats_c : Nat) (ha_seats : Rd intL W a_seats_a a.seats) (hb : a.seats.length ≤ 1048576) : Spec Tryz.prog W [] 28 #[.agg #[.slice a_seats_a a.seats.length a_seats_c, vi a.tiers, vi a.room, vi a.size, vi a.period, vi a.window, vi a.rest, vi a.tries, vi a.crew]] (⟨HH, fun p => .agg #[.slice p.1 a.seats.length p.2, vi a.tiers, vi a.room, vi a.size, vi a.period, vi a.window, vi a.rest, vi a.tries, vi a.crew], fun p => [slA 3 intL (.slice p.1 a.seats.length p.2) a.seats]⟩) := by
 refine ENTER0 (N := 33) (vs := [.agg #[.slice a_seats_a a.seats.length a_seats_c, vi a.tiers, vi a.room, vi a.size, vi a.period, vi a.window, vi a.rest, vi a.tries, vi a.crew]]) Tryz.func28 rfl rfl (NL rfl) ?_
 have ha_seats_len := ha_seats.len
 refine SEQ (REGION [0, 1] rfl (RUL 2 [] [(1, .p 0 0), (2, .p 1 0)] [(24, [.slice a_seats_a a.seats.length a_seats_c, vi a.tiers, vi a.room, vi a.size, vi a.period, vi a.window, vi a.rest, vi a.tries, vi a.crew]), (31, [.slice none 0 0, vi 0, vi 0, vi 0, vi 0, vi 0, vi 0, vi 0, vi 0])] (by kernel_rfl) rfl (ENDOPS (NEXT (SEQ (REGION [0] rfl (RUL 1 [] [(3, .p 2 0)] [(24, [.slice a_seats_a a.seats.length a_seats_c, vi a.tiers, vi a.room, vi a.size, vi a.period, vi a.window, vi a.rest, vi a.tries, vi a.crew]), (31, [.slice none 0 0, vi 0, vi 0, vi 0, vi 0, vi 0, vi 0, vi 0, vi 0]), (31, [.slice none 0 0, vi 0, vi 0, vi 0, vi 0, vi 0, vi 0, vi 0, vi 0])] (by kernel_rfl) rfl (ENDOPS (NEXT (SEQ (REGION [0, 1, 2, 3, 4] rfl (RU 2 [2, 3, 4] [(5, .v (.slice a_seats_a a.seats.length a_seats_c))] (by kernel_rfl) rfl (OPC (CALL 31 #[.slice a_seats_a a.seats.length a_seats_c] (some 6) (by kernel_rfl) [] [] _ rfl (⟨HH, fun p => .slice p.1 a.seats.length p.2, fun p => [slA 3 intL (.slice p.1 a.seats.length p.2) a.seats]⟩) (fun w hw => toIntS_c w a.seats a_seats_a a_seats_c (ha_seats.fr hw.fr) (by first | assumption | omega | (dsimp only; omega) | (simp only [List.length_append, List.length_cons, List.length_nil] at *; omega))) (NO rfl) ?_))))))))))))))
 rintro ⟨a1, c2⟩
 refine RUL 2 [] [] [(24, [.slice a_seats_a a.seats.length a_seats_c, vi a.tiers, vi a.room, vi a.size, vi a.period, vi a.window, vi a.rest, vi a.tries, vi a.crew]), (31, [.slice none 0 0, vi 0, vi 0, vi 0, vi 0, vi 0, vi 0, vi 0, vi 0]), (31, [.slice a1 a.seats.length c2, vi 0, vi 0, vi 0, vi 0, vi 0, vi 0, vi 0, vi 0])] (by kernel_rfl) rfl (ENDOPS (NEXT (SEQ (REGION [0, 1, 2, 3] rfl (RUL 4 [] [] [(24, [.slice a_seats_a a.seats.length a_seats_c, vi a.tiers, vi a.room, vi a.size, vi a.period, vi a.window, vi a.rest, vi a.tries, vi a.crew]), (31, [.slice none 0 0, vi 0, vi 0, vi 0, vi 0, vi 0, vi 0, vi 0, vi 0]), (31, [.slice a1 a.seats.length c2, vi a.tiers, vi 0, vi 0, vi 0, vi 0, vi 0, vi 0, vi 0])] (by kernel_rfl) rfl (ENDOPS (NEXT (SEQ (REGION [0, 1, 2, 3] rfl (RUL 4 [] [] [(24, [.slice a_seats_a a.seats.length a_seats_c, vi a.tiers, vi a.room, vi a.size, vi a.period, vi a.window, vi a.rest, vi a.tries, vi a.crew]), (31, [.slice none 0 0, vi 0, vi 0, vi 0, vi 0, vi 0, vi 0, vi 0, vi 0]), (31, [.slice a1 a.seats.length c2, vi a.tiers, vi a.room, vi 0, vi 0, vi 0, vi 0, vi 0, vi 0])] (by kernel_rfl) rfl (ENDOPS (NEXT (SEQ (REGION [0, 1, 2, 3] rfl (RUL 4 [] [] [(24, [.slice a_seats_a a.seats.length a_seats_c, vi a.tiers, vi a.room, vi a.size, vi a.period, vi a.window, vi a.rest, vi a.tries, vi a.crew]), (31, [.slice none 0 0, vi 0, vi 0, vi 0, vi 0, vi 0, vi 0, vi 0, vi 0]), (31, [.slice a1 a.seats.length c2, vi a.tiers, vi a.room, vi a.size, vi 0, vi 0, vi 0, vi 0, vi 0])] (by kernel_rfl) rfl (ENDOPS (NEXT (SEQ (REGION [0, 1, 2, 3] rfl ?_)))))))))))))))))))
 refine RUL 4 [] [] [(24, [.slice a_seats_a a.seats.length a_seats_c, vi a.tiers, vi a.room, vi a.size, vi a.period, vi a.window, vi a.rest, vi a.tries, vi a.crew]), (31, [.slice none 0 0, vi 0, vi 0, vi 0, vi 0, vi 0, vi 0, vi 0, vi 0]), (31, [.slice a1 a.seats.length c2, vi a.tiers, vi a.room, vi a.size, vi a.period, vi 0, vi 0, vi 0, vi 0])] (by kernel_rfl) rfl (ENDOPS (NEXT (SEQ (REGION [0, 1, 2, 3] rfl (RUL 4 [] [] [(24, [.slice a_seats_a a.seats.length a_seats_c, vi a.tiers, vi a.room, vi a.size, vi a.period, vi a.window, vi a.rest, vi a.tries, vi a.crew]), (31, [.slice none 0 0, vi 0, vi 0, vi 0, vi 0, vi 0, vi 0, vi 0, vi 0]), (31, [.slice a1 a.seats.length c2, vi a.tiers, vi a.room, vi a.size, vi a.period, vi a.window, vi 0, vi 0, vi 0])] (by kernel_rfl) rfl (ENDOPS (NEXT (SEQ (REGION [0, 1, 2, 3] rfl (RUL 4 [] [] [(24, [.slice a_seats_a a.seats.length a_seats_c, vi a.tiers, vi a.room, vi a.size, vi a.period, vi a.window, vi a.rest, vi a.tries, vi a.crew]), (31, [.slice none 0 0, vi 0, vi 0, vi 0, vi 0, vi 0, vi 0, vi 0, vi 0]), (31, [.slice a1 a.seats.length c2, vi a.tiers, vi a.room, vi a.size, vi a.period, vi a.window, vi a.rest, vi 0, vi 0])] (by kernel_rfl) rfl (ENDOPS (NEXT (SEQ (REGION [0, 1, 2, 3] rfl (RUL 4 [] [] [(24, [.slice a_seats_a a.seats.length a_seats_c, vi a.tiers, vi a.room, vi a.size, vi a.period, vi a.window, vi a.rest, vi a.tries, vi a.crew]), (31, [.slice none 0 0, vi 0, vi 0, vi 0, vi 0, vi 0, vi 0, vi 0, vi 0]), (31, [.slice a1 a.seats.length c2, vi a.tiers, vi a.room, vi a.size, vi a.period, vi a.window, vi a.rest, vi a.tries, vi 0])] (by kernel_rfl) rfl (ENDOPS (NEXT (SEQ (REGION [0, 1, 2, 3] rfl ?_)))))))))))))))))))
 refine RUL 4 [] [] [(24, [.slice a_seats_a a.seats.length a_seats_c, vi a.tiers, vi a.room, vi a.size, vi a.period, vi a.window, vi a.rest, vi a.tries, vi a.crew]), (31, [.slice none 0 0, vi 0, vi 0, vi 0, vi 0, vi 0, vi 0, vi 0, vi 0]), (31, [.slice a1 a.seats.length c2, vi a.tiers, vi a.room, vi a.size, vi a.period, vi a.window, vi a.rest, vi a.tries, vi a.crew])] (by kernel_rfl) rfl (ENDOPS (NEXT (SEQ (REGION [0, 1] rfl (RUL 2 [] [] [(24, [.slice a_seats_a a.seats.length a_seats_c, vi a.tiers, vi a.room, vi a.size, vi a.period, vi a.window, vi a.rest, vi a.tries, vi a.crew]), (31, [.slice a1 a.seats.length c2, vi a.tiers, vi a.room, vi a.size, vi a.period, vi a.window, vi a.rest, vi a.tries, vi a.crew]), (31, [.slice a1 a.seats.length c2, vi a.tiers, vi a.room, vi a.size, vi a.period, vi a.window, vi a.rest, vi a.tries, vi a.crew])] (by kernel_rfl) rfl (ENDOPS (NEXT (RET (FIN (.agg #[.slice a1 a.seats.length c2, vi a.tiers, vi a.room, vi a.size, vi a.period, vi a.window, vi a.rest, vi a.tries, vi a.crew]) (by kernel_rfl) (a1, c2) ?_ [0] ?_)))))))))
 · rfl
 · rfl

theorem toParty_c (W : World) (a : Party) : Spec Tryz.prog W [] 59 #[.agg #[vi a.id, vi a.cabin, vi a.from', vi a.size, vi a.tier, vi a.since, vi a.turn, vi a.state, vi a.until', vi a.asked]] (RV (.agg #[vi a.id, vi a.cabin, vi a.from', vi a.size, vi a.tier, vi a.since, vi a.turn, vi a.state, vi a.until', vi a.asked])) := by
 refine ENTER0 (N := 35) (vs := [.agg #[vi a.id, vi a.cabin, vi a.from', vi a.size, vi a.tier, vi a.since, vi a.turn, vi a.state, vi a.until', vi a.asked]]) Tryz.func59 rfl rfl (NL rfl) ?_
 refine SEQ (REGION [0, 1] rfl (RUL 2 [] [(1, .p 0 0), (2, .p 1 0)] [(89, partyE a), (54, [vi 0, vi 0, vi 0, vi 0, vi 0, vi 0, vi 0, vi 0, vi 0, vi 0])] (by kernel_rfl) rfl (ENDOPS (NEXT (SEQ (REGION [0] rfl (RUL 1 [] [(3, .p 2 0)] [(89, partyE a), (54, [vi 0, vi 0, vi 0, vi 0, vi 0, vi 0, vi 0, vi 0, vi 0, vi 0]), (54, [vi 0, vi 0, vi 0, vi 0, vi 0, vi 0, vi 0, vi 0, vi 0, vi 0])] (by kernel_rfl) rfl (ENDOPS (NEXT (SEQ (REGION [0, 1, 2, 3] rfl (RUL 4 [] [] [(89, partyE a), (54, [vi 0, vi 0, vi 0, vi 0, vi 0, vi 0, vi 0, vi 0, vi 0, vi 0]), (54, [vi a.id, vi 0, vi 0, vi 0, vi 0, vi 0, vi 0, vi 0, vi 0, vi 0])] (by kernel_rfl) rfl (ENDOPS (NEXT (SEQ (REGION [0, 1, 2, 3] rfl (RUL 4 [] [] [(89, partyE a), (54, [vi 0, vi 0, vi 0, vi 0, vi 0, vi 0, vi 0, vi 0, vi 0, vi 0]), (54, [vi a.id, vi a.cabin, vi 0, vi 0, vi 0, vi 0, vi 0, vi 0, vi 0, vi 0])] (by kernel_rfl) rfl (ENDOPS (NEXT (SEQ (REGION [0, 1, 2, 3] rfl (RUL 4 [] [] [(89, partyE a), (54, [vi 0, vi 0, vi 0, vi 0, vi 0, vi 0, vi 0, vi 0, vi 0, vi 0]), (54, [vi a.id, vi a.cabin, vi a.from', vi 0, vi 0, vi 0, vi 0, vi 0, vi 0, vi 0])] (by kernel_rfl) rfl (ENDOPS (NEXT (SEQ (REGION [0, 1, 2, 3] rfl (RUL 4 [] [] [(89, partyE a), (54, [vi 0, vi 0, vi 0, vi 0, vi 0, vi 0, vi 0, vi 0, vi 0, vi 0]), (54, [vi a.id, vi a.cabin, vi a.from', vi a.size, vi 0, vi 0, vi 0, vi 0, vi 0, vi 0])] (by kernel_rfl) rfl (ENDOPS (NEXT (SEQ (REGION [0, 1, 2, 3] rfl (RUL 4 [] [] [(89, partyE a), (54, [vi 0, vi 0, vi 0, vi 0, vi 0, vi 0, vi 0, vi 0, vi 0, vi 0]), (54, [vi a.id, vi a.cabin, vi a.from', vi a.size, vi a.tier, vi 0, vi 0, vi 0, vi 0, vi 0])] (by kernel_rfl) rfl (ENDOPS (NEXT (SEQ (REGION [0, 1, 2, 3] rfl ?_))))))))))))))))))))))))))))))))))))
 refine RUL 4 [] [] [(89, partyE a), (54, [vi 0, vi 0, vi 0, vi 0, vi 0, vi 0, vi 0, vi 0, vi 0, vi 0]), (54, [vi a.id, vi a.cabin, vi a.from', vi a.size, vi a.tier, vi a.since, vi 0, vi 0, vi 0, vi 0])] (by kernel_rfl) rfl (ENDOPS (NEXT (SEQ (REGION [0, 1, 2, 3] rfl (RUL 4 [] [] [(89, partyE a), (54, [vi 0, vi 0, vi 0, vi 0, vi 0, vi 0, vi 0, vi 0, vi 0, vi 0]), (54, [vi a.id, vi a.cabin, vi a.from', vi a.size, vi a.tier, vi a.since, vi a.turn, vi 0, vi 0, vi 0])] (by kernel_rfl) rfl (ENDOPS (NEXT (SEQ (REGION [0, 1, 2, 3] rfl (RUL 4 [] [] [(89, partyE a), (54, [vi 0, vi 0, vi 0, vi 0, vi 0, vi 0, vi 0, vi 0, vi 0, vi 0]), (54, [vi a.id, vi a.cabin, vi a.from', vi a.size, vi a.tier, vi a.since, vi a.turn, vi a.state, vi 0, vi 0])] (by kernel_rfl) rfl (ENDOPS (NEXT (SEQ (REGION [0, 1, 2, 3] rfl (RUL 4 [] [] [(89, partyE a), (54, [vi 0, vi 0, vi 0, vi 0, vi 0, vi 0, vi 0, vi 0, vi 0, vi 0]), (54, [vi a.id, vi a.cabin, vi a.from', vi a.size, vi a.tier, vi a.since, vi a.turn, vi a.state, vi a.until', vi 0])] (by kernel_rfl) rfl (ENDOPS (NEXT (SEQ (REGION [0, 1, 2, 3] rfl (RUL 4 [] [] [(89, partyE a), (54, [vi 0, vi 0, vi 0, vi 0, vi 0, vi 0, vi 0, vi 0, vi 0, vi 0]), (54, partyE a)] (by kernel_rfl) rfl (ENDOPS (NEXT (SEQ (REGION [0, 1] rfl (RUL 2 [] [] [(89, partyE a), (54, partyE a), (54, partyE a)] (by kernel_rfl) rfl (ENDOPS (NEXT (RET (FIN (.agg #[vi a.id, vi a.cabin, vi a.from', vi a.size, vi a.tier, vi a.since, vi a.turn, vi a.state, vi a.until', vi a.asked]) (by kernel_rfl) () ?_ [] ?_)))))))))))))))))))))))))))))
 · rfl
 · rfl

theorem toEntry_c (W : World) (a : Entry) : Spec Tryz.prog W [] 147 #[.agg #[vi a.level, vi a.turn, vi a.id, vi a.size]] (RV (.agg #[vi a.level, vi a.turn, vi a.id, vi a.size])) := by
 refine ENTER0 (N := 17) (vs := [.agg #[vi a.level, vi a.turn, vi a.id, vi a.size]]) Tryz.func147 rfl rfl (NL rfl) ?_
 refine SEQ (REGION [0, 1] rfl (RUL 2 [] [(1, .p 0 0), (2, .p 1 0)] [(156, entryE a), (114, [vi 0, vi 0, vi 0, vi 0])] (by kernel_rfl) rfl (ENDOPS (NEXT (SEQ (REGION [0] rfl (RUL 1 [] [(3, .p 2 0)] [(156, entryE a), (114, [vi 0, vi 0, vi 0, vi 0]), (114, [vi 0, vi 0, vi 0, vi 0])] (by kernel_rfl) rfl (ENDOPS (NEXT (SEQ (REGION [0, 1, 2, 3] rfl (RUL 4 [] [] [(156, entryE a), (114, [vi 0, vi 0, vi 0, vi 0]), (114, [vi a.level, vi 0, vi 0, vi 0])] (by kernel_rfl) rfl (ENDOPS (NEXT (SEQ (REGION [0, 1, 2, 3] rfl (RUL 4 [] [] [(156, entryE a), (114, [vi 0, vi 0, vi 0, vi 0]), (114, [vi a.level, vi a.turn, vi 0, vi 0])] (by kernel_rfl) rfl (ENDOPS (NEXT (SEQ (REGION [0, 1, 2, 3] rfl (RUL 4 [] [] [(156, entryE a), (114, [vi 0, vi 0, vi 0, vi 0]), (114, [vi a.level, vi a.turn, vi a.id, vi 0])] (by kernel_rfl) rfl (ENDOPS (NEXT (SEQ (REGION [0, 1, 2, 3] rfl (RUL 4 [] [] [(156, entryE a), (114, [vi 0, vi 0, vi 0, vi 0]), (114, entryE a)] (by kernel_rfl) rfl (ENDOPS (NEXT (SEQ (REGION [0, 1] rfl (RUL 2 [] [] [(156, entryE a), (114, entryE a), (114, entryE a)] (by kernel_rfl) rfl (ENDOPS (NEXT (RET (FIN (.agg #[vi a.level, vi a.turn, vi a.id, vi a.size]) (by kernel_rfl) () ?_ [] ?_))))))))))))))))))))))))))))))))))))
 · rfl
 · rfl

theorem toPin_c (W : World) (a : Pin) : Spec Tryz.prog W [] 214 #[.agg #[vi a.at', vi a.id]] (RV (.agg #[vi a.at', vi a.id])) := by
 refine ENTER0 (N := 11) (vs := [.agg #[vi a.at', vi a.id]]) Tryz.func214 rfl rfl (NL rfl) ?_
 refine SEQ (REGION [0, 1] rfl (RUL 2 [] [(1, .p 0 0), (2, .p 1 0)] [(202, pinE a), (127, [vi 0, vi 0])] (by kernel_rfl) rfl (ENDOPS (NEXT (SEQ (REGION [0] rfl (RUL 1 [] [(3, .p 2 0)] [(202, pinE a), (127, [vi 0, vi 0]), (127, [vi 0, vi 0])] (by kernel_rfl) rfl (ENDOPS (NEXT (SEQ (REGION [0, 1, 2, 3] rfl (RUL 4 [] [] [(202, pinE a), (127, [vi 0, vi 0]), (127, [vi a.at', vi 0])] (by kernel_rfl) rfl (ENDOPS (NEXT (SEQ (REGION [0, 1, 2, 3] rfl (RUL 4 [] [] [(202, pinE a), (127, [vi 0, vi 0]), (127, pinE a)] (by kernel_rfl) rfl (ENDOPS (NEXT (SEQ (REGION [0, 1] rfl (RUL 2 [] [] [(202, pinE a), (127, pinE a), (127, pinE a)] (by kernel_rfl) rfl (ENDOPS (NEXT (RET (FIN (.agg #[vi a.at', vi a.id]) (by kernel_rfl) () ?_ [] ?_))))))))))))))))))))))))))
 · rfl
 · rfl

theorem toLedger_c (W : World) (a : Ledger) : Spec Tryz.prog W [] 92 #[.agg #[vi a.total, vi a.free, vi a.held, vi a.sold, vi a.tied]] (RV (.agg #[vi a.total, vi a.free, vi a.held, vi a.sold, vi a.tied])) := by
 refine ENTER0 (N := 20) (vs := [.agg #[vi a.total, vi a.free, vi a.held, vi a.sold, vi a.tied]]) Tryz.func92 rfl rfl (NL rfl) ?_
 refine SEQ (REGION [0, 1] rfl (RUL 2 [] [(1, .p 0 0), (2, .p 1 0)] [(80, ledgerE a), (68, [vi 0, vi 0, vi 0, vi 0, vi 0])] (by kernel_rfl) rfl (ENDOPS (NEXT (SEQ (REGION [0] rfl (RUL 1 [] [(3, .p 2 0)] [(80, ledgerE a), (68, [vi 0, vi 0, vi 0, vi 0, vi 0]), (68, [vi 0, vi 0, vi 0, vi 0, vi 0])] (by kernel_rfl) rfl (ENDOPS (NEXT (SEQ (REGION [0, 1, 2, 3] rfl (RUL 4 [] [] [(80, ledgerE a), (68, [vi 0, vi 0, vi 0, vi 0, vi 0]), (68, [vi a.total, vi 0, vi 0, vi 0, vi 0])] (by kernel_rfl) rfl (ENDOPS (NEXT (SEQ (REGION [0, 1, 2, 3] rfl (RUL 4 [] [] [(80, ledgerE a), (68, [vi 0, vi 0, vi 0, vi 0, vi 0]), (68, [vi a.total, vi a.free, vi 0, vi 0, vi 0])] (by kernel_rfl) rfl (ENDOPS (NEXT (SEQ (REGION [0, 1, 2, 3] rfl (RUL 4 [] [] [(80, ledgerE a), (68, [vi 0, vi 0, vi 0, vi 0, vi 0]), (68, [vi a.total, vi a.free, vi a.held, vi 0, vi 0])] (by kernel_rfl) rfl (ENDOPS (NEXT (SEQ (REGION [0, 1, 2, 3] rfl (RUL 4 [] [] [(80, ledgerE a), (68, [vi 0, vi 0, vi 0, vi 0, vi 0]), (68, [vi a.total, vi a.free, vi a.held, vi a.sold, vi 0])] (by kernel_rfl) rfl (ENDOPS (NEXT (SEQ (REGION [0, 1, 2, 3] rfl (RUL 4 [] [] [(80, ledgerE a), (68, [vi 0, vi 0, vi 0, vi 0, vi 0]), (68, ledgerE a)] (by kernel_rfl) rfl (ENDOPS (NEXT (SEQ (REGION [0, 1] rfl (RUL 2 [] [] [(80, ledgerE a), (68, ledgerE a), (68, ledgerE a)] (by kernel_rfl) rfl (ENDOPS (NEXT (RET (FIN (.agg #[vi a.total, vi a.free, vi a.held, vi a.sold, vi a.tied]) (by kernel_rfl) () ?_ [] ?_)))))))))))))))))))))))))))))))))))))))))
 · rfl
 · rfl

theorem toPartyS_c (W : World) (a : List Party) (a_a : Option Addr) (a_c : Nat) (ha : Rd partyL W a_a a) (hb : a.length ≤ 1048576) : Spec Tryz.prog W [] 29 #[.slice a_a a.length a_c] (⟨HH, fun p => .slice p.1 a.length p.2, fun p => [slA 54 partyL (.slice p.1 a.length p.2) a]⟩) := by
 refine ENTER0 (N := 23) (vs := [.slice a_a a.length a_c]) Tryz.func29 rfl rfl (NL rfl) ?_
 have ha_len := ha.len
 refine SEQ (REGION [0] rfl (RU 1 [] [] (by kernel_rfl) rfl (ENDOPS (NEXT (SEQ (REGION [0, 1, 2, 3] rfl (RU 2 [2, 3] [(6, I (a.length : Int))] (by kernel_rfl) rfl (OPC (MAKE 32 (.tmp 6) (.tmp 6) 7 32 (by kernel_rfl) (NL rfl) a.length (by kernel_rfl) (by kernel_rfl) 54 (by kernel_rfl) partyE partyH (⟨0, 0, 0, 0, 0, 0, 0, 0, 0, 0⟩ : Party) (.agg #[vi 0, vi 0, vi 0, vi 0, vi 0, vi 0, vi 0, vi 0, vi 0, vi 0]) 80 rfl (by kernel_rfl) (by decide) (by omega) (by simp only [maxLen]; omega) (fun a1 ha2 => (RU 1 [] [(3, .v (.slice a1 a.length a.length))] (by kernel_rfl) rfl (ENDOPS (NEXT (SEQ (SEQ (REGION [0] rfl (RU 1 [] [(4, I 0)] (by kernel_rfl) rfl (ENDOPS (NEXT (BLOCK (LOOP (ι := Nat × (List Party) × (List Party)) (fun j => [(0, .v (.slice a_a a.length a_c)), (3, .v (.slice a1 a.length a.length)), (4, I (j.1 : Int))]) (fun j => []) (fun j => [slA 54 partyL (.slice a1 a.length a.length) j.2.2]) (fun j => j.1 + j.2.1.length = a.length ∧ a.drop j.1 = j.2.1 ∧ j.2.2 = a.take j.1 ++ List.replicate j.2.1.length (⟨0, 0, 0, 0, 0, 0, 0, 0, 0, 0⟩ : Party)) (fun j => j.2.1.length) (0, a, List.replicate a.length (⟨0, 0, 0, 0, 0, 0, 0, 0, 0, 0⟩ : Party)) [0, 3, 4] ⟨by simp, rfl, by simp⟩ (by kernel_rfl) rfl rfl ?_)))))))))))))))))))))
 rintro ⟨k, ys, out⟩ ⟨hk, hd, hv0⟩
 try dsimp only at hk hd hv0
 refine SEQ (SEQ (REGION [0, 1, 2, 3] rfl (RU 4 [] [(11, B (decide ((k : Int) < (a.length : Int))))] (by kernel_rfl) rfl (ENDOPS (NEXT (IF (decide ((k : Int) < (a.length : Int))) (by kernel_rfl) (fun bh3 => ?_) (fun bh3 => ?_)))))))
 ·
  have h3 := bh3
  have h3 := of_decide_eq_true h3
  obtain ⟨y4, ys5, rfl, hx_y4, hd_y4, hl_y4⟩ := drop_cons hd hk (by omega)
  refine SKIP (NEXT (SEQ (BLOCK (REGION [0, 1, 2, 3, 4, 5, 6, 7, 8] rfl (RU 4 [4, 5, 6, 7, 8] [(14, .v (.slice a1 a.length a.length)), (15, I (k : Int)), (16, .v (.slice a_a a.length a_c)), (17, I (k : Int))] (by kernel_rfl) rfl (OPC (INDEX 25 (.tmp 16) (.tmp 17) 18 0 (by kernel_rfl) (NL rfl) a_a a.length a_c .i64 (k : Int) 89 10 (by kernel_rfl) (by kernel_rfl) (by kernel_rfl) (by kernel_rfl) (Rd.some ha (by omega)) (by omega) (by omega) (OPC (LOADE 89 (.tmp 18) 19 89 (by kernel_rfl) (NL rfl) a_a (k * 10) 0 (partyE y4) (.agg (partyE y4).toArray) (by kernel_rfl) (fun w hw => (ha.fr hw.fr).flat hx_y4) (by kernel_rfl) (OPC (CALL 59 #[.agg #[vi y4.id, vi y4.cabin, vi y4.from', vi y4.size, vi y4.tier, vi y4.since, vi y4.turn, vi y4.state, vi y4.until', vi y4.asked]] (some 20) (by kernel_rfl) [] [] _ rfl (RV (.agg #[vi y4.id, vi y4.cabin, vi y4.from', vi y4.size, vi y4.tier, vi y4.since, vi y4.turn, vi y4.state, vi y4.until', vi y4.asked])) (fun w hw => toParty_c w y4) (NO rfl) ?_)))))))))))
  rintro ⟨⟩
  refine FACT (a.length = out.length) (fun w hw => (SlO.lenE (hw.own 0 rfl)).1) (fun hln6 => ?_)
  obtain ⟨x7, hx8⟩ : ∃ y, out[k]? = some y := ⟨_, List.getElem?_eq_getElem (by omega)⟩
  refine OPC (INDEX 32 (.tmp 14) (.tmp 15) 21 0 (by kernel_rfl) (NL rfl) a1 a.length a.length .i64 (k : Int) 54 10 (by kernel_rfl) (by kernel_rfl) (by kernel_rfl) (by kernel_rfl) ha2 (by omega) (by omega) (OPC (STOREF 54 (.tmp 21) (.tmp 20) 0 (by kernel_rfl) 0 _ 54 a1 a.length a.length k 0 out rfl x7 y4 hx8 (.agg #[vi y4.id, vi y4.cabin, vi y4.from', vi y4.size, vi y4.tier, vi y4.since, vi y4.turn, vi y4.state, vi y4.until', vi y4.asked]) (by kernel_rfl) (by kernel_rfl) (by kernel_rfl) (ENDOPS (OUTN (NEXT (REGION [0, 1, 2] rfl (RU 2 [2] [(13, I (wr ((k : Int) + 1)))] (by kernel_rfl) rfl (CAST (d := 13) (vi (wr ((k : Int) + 1))) (vi ((k + 1 : Nat) : Int)) (by kernel_rfl) (vi_cast (by omega) (by omega)) (RU 1 [] [(4, I ((k + 1 : Nat) : Int))] (by kernel_rfl) rfl (ENDOPS (BACK (k + 1, ys5, out.set k y4) [0, 3, 4] 0 [0] _ ⟨hl_y4, hd_y4, by rw [hv0]; exact set_next hk hx_y4⟩ (by simp) (by kernel_rfl) rfl rfl rfl))))))))))))
 ·
  have h3 := bh3
  have h3 := of_decide_eq_false h3
  obtain rfl := drop_nil hk (by omega)
  refine EXIT (PASS trivial (PASS trivial (OUT (NEXT (SEQ (REGION [0, 1] rfl (RU 2 [] [(2, .v (.slice a1 a.length a.length))] (by kernel_rfl) rfl (ENDOPS (NEXT (RET ?_))))))))))
  have efin : a = out := by rw [hv0]; simp [show k = a.length by simpa using hk]
  refine FIN (.slice a1 a.length a.length) (by kernel_rfl) (a1, a.length) ?_ [0] ?_
  · (rw [efin] <;> rfl)
  · (rw [efin] <;> rfl)

theorem toEntryS_c (W : World) (a : List Entry) (a_a : Option Addr) (a_c : Nat) (ha : Rd entryL W a_a a) (hb : a.length ≤ 1048576) : Spec Tryz.prog W [] 93 #[.slice a_a a.length a_c] (⟨HH, fun p => .slice p.1 a.length p.2, fun p => [slA 114 entryL (.slice p.1 a.length p.2) a]⟩) := by
 refine ENTER0 (N := 23) (vs := [.slice a_a a.length a_c]) Tryz.func93 rfl rfl (NL rfl) ?_
 have ha_len := ha.len
 refine SEQ (REGION [0] rfl (RU 1 [] [] (by kernel_rfl) rfl (ENDOPS (NEXT (SEQ (REGION [0, 1, 2, 3] rfl (RU 2 [2, 3] [(6, I (a.length : Int))] (by kernel_rfl) rfl (OPC (MAKE 69 (.tmp 6) (.tmp 6) 7 69 (by kernel_rfl) (NL rfl) a.length (by kernel_rfl) (by kernel_rfl) 114 (by kernel_rfl) entryE entryH (⟨0, 0, 0, 0⟩ : Entry) (.agg #[vi 0, vi 0, vi 0, vi 0]) 32 rfl (by kernel_rfl) (by decide) (by omega) (by simp only [maxLen]; omega) (fun a1 ha2 => (RU 1 [] [(3, .v (.slice a1 a.length a.length))] (by kernel_rfl) rfl (ENDOPS (NEXT (SEQ (SEQ (REGION [0] rfl (RU 1 [] [(4, I 0)] (by kernel_rfl) rfl (ENDOPS (NEXT (BLOCK (LOOP (ι := Nat × (List Entry) × (List Entry)) (fun j => [(0, .v (.slice a_a a.length a_c)), (3, .v (.slice a1 a.length a.length)), (4, I (j.1 : Int))]) (fun j => []) (fun j => [slA 114 entryL (.slice a1 a.length a.length) j.2.2]) (fun j => j.1 + j.2.1.length = a.length ∧ a.drop j.1 = j.2.1 ∧ j.2.2 = a.take j.1 ++ List.replicate j.2.1.length (⟨0, 0, 0, 0⟩ : Entry)) (fun j => j.2.1.length) (0, a, List.replicate a.length (⟨0, 0, 0, 0⟩ : Entry)) [0, 3, 4] ⟨by simp, rfl, by simp⟩ (by kernel_rfl) rfl rfl ?_)))))))))))))))))))))
 rintro ⟨k, ys, out⟩ ⟨hk, hd, hv0⟩
 try dsimp only at hk hd hv0
 refine SEQ (SEQ (REGION [0, 1, 2, 3] rfl (RU 4 [] [(11, B (decide ((k : Int) < (a.length : Int))))] (by kernel_rfl) rfl (ENDOPS (NEXT (IF (decide ((k : Int) < (a.length : Int))) (by kernel_rfl) (fun bh3 => ?_) (fun bh3 => ?_)))))))
 ·
  have h3 := bh3
  have h3 := of_decide_eq_true h3
  obtain ⟨y4, ys5, rfl, hx_y4, hd_y4, hl_y4⟩ := drop_cons hd hk (by omega)
  refine SKIP (NEXT (SEQ (BLOCK (REGION [0, 1, 2, 3, 4, 5, 6, 7, 8] rfl (RU 4 [4, 5, 6, 7, 8] [(14, .v (.slice a1 a.length a.length)), (15, I (k : Int)), (16, .v (.slice a_a a.length a_c)), (17, I (k : Int))] (by kernel_rfl) rfl (OPC (INDEX 81 (.tmp 16) (.tmp 17) 18 0 (by kernel_rfl) (NL rfl) a_a a.length a_c .i64 (k : Int) 156 4 (by kernel_rfl) (by kernel_rfl) (by kernel_rfl) (by kernel_rfl) (Rd.some ha (by omega)) (by omega) (by omega) (OPC (LOADE 156 (.tmp 18) 19 156 (by kernel_rfl) (NL rfl) a_a (k * 4) 0 (entryE y4) (.agg (entryE y4).toArray) (by kernel_rfl) (fun w hw => (ha.fr hw.fr).flat hx_y4) (by kernel_rfl) (OPC (CALL 147 #[.agg #[vi y4.level, vi y4.turn, vi y4.id, vi y4.size]] (some 20) (by kernel_rfl) [] [] _ rfl (RV (.agg #[vi y4.level, vi y4.turn, vi y4.id, vi y4.size])) (fun w hw => toEntry_c w y4) (NO rfl) ?_)))))))))))
  rintro ⟨⟩
  refine FACT (a.length = out.length) (fun w hw => (SlO.lenE (hw.own 0 rfl)).1) (fun hln6 => ?_)
  obtain ⟨x7, hx8⟩ : ∃ y, out[k]? = some y := ⟨_, List.getElem?_eq_getElem (by omega)⟩
  refine OPC (INDEX 69 (.tmp 14) (.tmp 15) 21 0 (by kernel_rfl) (NL rfl) a1 a.length a.length .i64 (k : Int) 114 4 (by kernel_rfl) (by kernel_rfl) (by kernel_rfl) (by kernel_rfl) ha2 (by omega) (by omega) (OPC (STOREF 114 (.tmp 21) (.tmp 20) 0 (by kernel_rfl) 0 _ 114 a1 a.length a.length k 0 out rfl x7 y4 hx8 (.agg #[vi y4.level, vi y4.turn, vi y4.id, vi y4.size]) (by kernel_rfl) (by kernel_rfl) (by kernel_rfl) (ENDOPS (OUTN (NEXT (REGION [0, 1, 2] rfl (RU 2 [2] [(13, I (wr ((k : Int) + 1)))] (by kernel_rfl) rfl (CAST (d := 13) (vi (wr ((k : Int) + 1))) (vi ((k + 1 : Nat) : Int)) (by kernel_rfl) (vi_cast (by omega) (by omega)) (RU 1 [] [(4, I ((k + 1 : Nat) : Int))] (by kernel_rfl) rfl (ENDOPS (BACK (k + 1, ys5, out.set k y4) [0, 3, 4] 0 [0] _ ⟨hl_y4, hd_y4, by rw [hv0]; exact set_next hk hx_y4⟩ (by simp) (by kernel_rfl) rfl rfl rfl))))))))))))
 ·
  have h3 := bh3
  have h3 := of_decide_eq_false h3
  obtain rfl := drop_nil hk (by omega)
  refine EXIT (PASS trivial (PASS trivial (OUT (NEXT (SEQ (REGION [0, 1] rfl (RU 2 [] [(2, .v (.slice a1 a.length a.length))] (by kernel_rfl) rfl (ENDOPS (NEXT (RET ?_))))))))))
  have efin : a = out := by rw [hv0]; simp [show k = a.length by simpa using hk]
  refine FIN (.slice a1 a.length a.length) (by kernel_rfl) (a1, a.length) ?_ [0] ?_
  · (rw [efin] <;> rfl)
  · (rw [efin] <;> rfl)

theorem toPinS_c (W : World) (a : List Pin) (a_a : Option Addr) (a_c : Nat) (ha : Rd pinL W a_a a) (hb : a.length ≤ 1048576) : Spec Tryz.prog W [] 195 #[.slice a_a a.length a_c] (⟨HH, fun p => .slice p.1 a.length p.2, fun p => [slA 127 pinL (.slice p.1 a.length p.2) a]⟩) := by
 refine ENTER0 (N := 23) (vs := [.slice a_a a.length a_c]) Tryz.func195 rfl rfl (NL rfl) ?_
 have ha_len := ha.len
 refine SEQ (REGION [0] rfl (RU 1 [] [] (by kernel_rfl) rfl (ENDOPS (NEXT (SEQ (REGION [0, 1, 2, 3] rfl (RU 2 [2, 3] [(6, I (a.length : Int))] (by kernel_rfl) rfl (OPC (MAKE 116 (.tmp 6) (.tmp 6) 7 116 (by kernel_rfl) (NL rfl) a.length (by kernel_rfl) (by kernel_rfl) 127 (by kernel_rfl) pinE pinH (⟨0, 0⟩ : Pin) (.agg #[vi 0, vi 0]) 16 rfl (by kernel_rfl) (by decide) (by omega) (by simp only [maxLen]; omega) (fun a1 ha2 => (RU 1 [] [(3, .v (.slice a1 a.length a.length))] (by kernel_rfl) rfl (ENDOPS (NEXT (SEQ (SEQ (REGION [0] rfl (RU 1 [] [(4, I 0)] (by kernel_rfl) rfl (ENDOPS (NEXT (BLOCK (LOOP (ι := Nat × (List Pin) × (List Pin)) (fun j => [(0, .v (.slice a_a a.length a_c)), (3, .v (.slice a1 a.length a.length)), (4, I (j.1 : Int))]) (fun j => []) (fun j => [slA 127 pinL (.slice a1 a.length a.length) j.2.2]) (fun j => j.1 + j.2.1.length = a.length ∧ a.drop j.1 = j.2.1 ∧ j.2.2 = a.take j.1 ++ List.replicate j.2.1.length (⟨0, 0⟩ : Pin)) (fun j => j.2.1.length) (0, a, List.replicate a.length (⟨0, 0⟩ : Pin)) [0, 3, 4] ⟨by simp, rfl, by simp⟩ (by kernel_rfl) rfl rfl ?_)))))))))))))))))))))
 rintro ⟨k, ys, out⟩ ⟨hk, hd, hv0⟩
 try dsimp only at hk hd hv0
 refine SEQ (SEQ (REGION [0, 1, 2, 3] rfl (RU 4 [] [(11, B (decide ((k : Int) < (a.length : Int))))] (by kernel_rfl) rfl (ENDOPS (NEXT (IF (decide ((k : Int) < (a.length : Int))) (by kernel_rfl) (fun bh3 => ?_) (fun bh3 => ?_)))))))
 ·
  have h3 := bh3
  have h3 := of_decide_eq_true h3
  obtain ⟨y4, ys5, rfl, hx_y4, hd_y4, hl_y4⟩ := drop_cons hd hk (by omega)
  refine SKIP (NEXT (SEQ (BLOCK (REGION [0, 1, 2, 3, 4, 5, 6, 7, 8] rfl (RU 4 [4, 5, 6, 7, 8] [(14, .v (.slice a1 a.length a.length)), (15, I (k : Int)), (16, .v (.slice a_a a.length a_c)), (17, I (k : Int))] (by kernel_rfl) rfl (OPC (INDEX 189 (.tmp 16) (.tmp 17) 18 0 (by kernel_rfl) (NL rfl) a_a a.length a_c .i64 (k : Int) 202 2 (by kernel_rfl) (by kernel_rfl) (by kernel_rfl) (by kernel_rfl) (Rd.some ha (by omega)) (by omega) (by omega) (OPC (LOADE 202 (.tmp 18) 19 202 (by kernel_rfl) (NL rfl) a_a (k * 2) 0 (pinE y4) (.agg (pinE y4).toArray) (by kernel_rfl) (fun w hw => (ha.fr hw.fr).flat hx_y4) (by kernel_rfl) (OPC (CALL 214 #[.agg #[vi y4.at', vi y4.id]] (some 20) (by kernel_rfl) [] [] _ rfl (RV (.agg #[vi y4.at', vi y4.id])) (fun w hw => toPin_c w y4) (NO rfl) ?_)))))))))))
  rintro ⟨⟩
  refine FACT (a.length = out.length) (fun w hw => (SlO.lenE (hw.own 0 rfl)).1) (fun hln6 => ?_)
  obtain ⟨x7, hx8⟩ : ∃ y, out[k]? = some y := ⟨_, List.getElem?_eq_getElem (by omega)⟩
  refine OPC (INDEX 116 (.tmp 14) (.tmp 15) 21 0 (by kernel_rfl) (NL rfl) a1 a.length a.length .i64 (k : Int) 127 2 (by kernel_rfl) (by kernel_rfl) (by kernel_rfl) (by kernel_rfl) ha2 (by omega) (by omega) (OPC (STOREF 127 (.tmp 21) (.tmp 20) 0 (by kernel_rfl) 0 _ 127 a1 a.length a.length k 0 out rfl x7 y4 hx8 (.agg #[vi y4.at', vi y4.id]) (by kernel_rfl) (by kernel_rfl) (by kernel_rfl) (ENDOPS (OUTN (NEXT (REGION [0, 1, 2] rfl (RU 2 [2] [(13, I (wr ((k : Int) + 1)))] (by kernel_rfl) rfl (CAST (d := 13) (vi (wr ((k : Int) + 1))) (vi ((k + 1 : Nat) : Int)) (by kernel_rfl) (vi_cast (by omega) (by omega)) (RU 1 [] [(4, I ((k + 1 : Nat) : Int))] (by kernel_rfl) rfl (ENDOPS (BACK (k + 1, ys5, out.set k y4) [0, 3, 4] 0 [0] _ ⟨hl_y4, hd_y4, by rw [hv0]; exact set_next hk hx_y4⟩ (by simp) (by kernel_rfl) rfl rfl rfl))))))))))))
 ·
  have h3 := bh3
  have h3 := of_decide_eq_false h3
  obtain rfl := drop_nil hk (by omega)
  refine EXIT (PASS trivial (PASS trivial (OUT (NEXT (SEQ (REGION [0, 1] rfl (RU 2 [] [(2, .v (.slice a1 a.length a.length))] (by kernel_rfl) rfl (ENDOPS (NEXT (RET ?_))))))))))
  have efin : a = out := by rw [hv0]; simp [show k = a.length by simpa using hk]
  refine FIN (.slice a1 a.length a.length) (by kernel_rfl) (a1, a.length) ?_ [0] ?_
  · (rw [efin] <;> rfl)
  · (rw [efin] <;> rfl)

theorem toPinSS_c (W : World) (a : List (List Pin)) (a_a : Option Addr) (a_c : Nat) (ha : Rd (sl 202 pinL) W a_a a) (hb : a.length ≤ 1048576) (hf : a.flatten.length ≤ 1048576) : Spec Tryz.prog W [] 148 #[.slice a_a a.length a_c] (⟨HH, fun p => .slice p.1 a.length p.2, fun p => [slA 116 (sl 127 pinL) (.slice p.1 a.length p.2) a]⟩) := by
 refine ENTER0 (N := 23) (vs := [.slice a_a a.length a_c]) Tryz.func148 rfl rfl (NL rfl) ?_
 have ha_len := ha.len
 refine SEQ (REGION [0] rfl (RU 1 [] [] (by kernel_rfl) rfl (ENDOPS (NEXT (SEQ (REGION [0, 1, 2, 3] rfl (RU 2 [2, 3] [(6, I (a.length : Int))] (by kernel_rfl) rfl (OPC (MAKEN 70 (.tmp 6) (.tmp 6) 7 70 (by kernel_rfl) (NL rfl) a.length (by kernel_rfl) (by kernel_rfl) 116 (by kernel_rfl) (sl 127 pinL) 1 rfl ([] : List Pin) (.slice none 0 0) 24 (fun w => slZ _ _ w) (by kernel_rfl) (by decide) (by omega) (by simp only [maxLen]; omega) (fun a1 ha2 => (RU 1 [] [(3, .v (.slice a1 a.length a.length))] (by kernel_rfl) rfl (ENDOPS (NEXT (SEQ (SEQ (REGION [0] rfl (RU 1 [] [(4, I 0)] (by kernel_rfl) rfl (ENDOPS (NEXT (BLOCK (LOOP (ι := Nat × (List (List Pin)) × (List (List Pin))) (fun j => [(0, .v (.slice a_a a.length a_c)), (3, .v (.slice a1 a.length a.length)), (4, I (j.1 : Int))]) (fun j => []) (fun j => [slA 116 (sl 127 pinL) (.slice a1 a.length a.length) j.2.2]) (fun j => j.1 + j.2.1.length = a.length ∧ a.drop j.1 = j.2.1 ∧ j.2.2 = a.take j.1 ++ List.replicate j.2.1.length ([] : List Pin)) (fun j => j.2.1.length) (0, a, List.replicate a.length ([] : List Pin)) [0, 3, 4] ⟨by simp, rfl, by simp⟩ (by kernel_rfl) rfl rfl ?_)))))))))))))))))))))
 rintro ⟨k, ys, out⟩ ⟨hk, hd, hv0⟩
 try dsimp only at hk hd hv0
 refine SEQ (SEQ (REGION [0, 1, 2, 3] rfl (RU 4 [] [(11, B (decide ((k : Int) < (a.length : Int))))] (by kernel_rfl) rfl (ENDOPS (NEXT (IF (decide ((k : Int) < (a.length : Int))) (by kernel_rfl) (fun bh3 => ?_) (fun bh3 => ?_)))))))
 ·
  have h3 := bh3
  have h3 := of_decide_eq_true h3
  obtain ⟨y4, ys5, rfl, hx_y4, hd_y4, hl_y4⟩ := drop_cons hd hk (by omega)
  have hfm := flat_mem hx_y4
  refine SKIP (NEXT (SEQ (BLOCK (REGION [0, 1, 2, 3, 4, 5, 6, 7, 8] rfl (RU 4 [4, 5, 6, 7, 8] [(14, .v (.slice a1 a.length a.length)), (15, I (k : Int)), (16, .v (.slice a_a a.length a_c)), (17, I (k : Int))] (by kernel_rfl) rfl ?_)))))
  obtain ⟨a6, c7, hel9, hi8, hi8_cap⟩ := sl_view ha hx_y4
  have hi8_len := hi8.len
  refine OPC (INDEX 82 (.tmp 16) (.tmp 17) 18 0 (by kernel_rfl) (NL rfl) a_a a.length a_c .i64 (k : Int) 189 1 (by kernel_rfl) (by kernel_rfl) (by kernel_rfl) (by kernel_rfl) (Rd.some ha (by omega)) (by omega) (by omega) (OPC (LOADE 189 (.tmp 18) 19 189 (by kernel_rfl) (NL rfl) a_a (k * 1) 0 ([.slice a6 y4.length c7]) (.slice a6 y4.length c7) (by kernel_rfl) (fun w hw => hel9.fr hw.fr) (by kernel_rfl) (OPC (CALL 195 #[.slice a6 y4.length c7] (some 20) (by kernel_rfl) [] [] _ rfl (⟨HH, fun p => .slice p.1 y4.length p.2, fun p => [slA 127 pinL (.slice p.1 y4.length p.2) y4]⟩) (fun w hw => toPinS_c w y4 a6 c7 (hi8.fr hw.fr) (by first | assumption | omega | (dsimp only; omega) | (simp only [List.length_append, List.length_cons, List.length_nil] at *; omega))) (NO rfl) ?_)))))
  rintro ⟨a10, c11⟩
  refine FACT (a.length = out.length) (fun w hw => (SlO.lenE (hw.own 0 rfl)).1) (fun hln12 => ?_)
  obtain ⟨x13, hx14⟩ : ∃ y, out[k]? = some y := ⟨_, List.getElem?_eq_getElem (by omega)⟩
  refine OPC (INDEX 70 (.tmp 14) (.tmp 15) 21 0 (by kernel_rfl) (NL rfl) a1 a.length a.length .i64 (k : Int) 116 1 (by kernel_rfl) (by kernel_rfl) (by kernel_rfl) (by kernel_rfl) ha2 (by omega) (by omega) (OPC (STOREN 116 (.tmp 21) (.tmp 20) 0 (by kernel_rfl) 116 (sl 127 pinL) a1 a.length a.length k out [0, 0] [slA 127 pinL (.slice a10 y4.length c11) y4] _ rfl y4 (by omega) (.slice a10 y4.length c11) (by kernel_rfl) (by kernel_rfl) (by kernel_rfl) (nestRep (e' := 0) (x := y4)) (ENDOPS (OUTN (NEXT (REGION [0, 1, 2] rfl (RU 2 [2] [(13, I (wr ((k : Int) + 1)))] (by kernel_rfl) rfl (CAST (d := 13) (vi (wr ((k : Int) + 1))) (vi ((k + 1 : Nat) : Int)) (by kernel_rfl) (vi_cast (by omega) (by omega)) (RU 1 [] [(4, I ((k + 1 : Nat) : Int))] (by kernel_rfl) rfl (ENDOPS (BACK (k + 1, ys5, out.set k y4) [0, 3, 4] 0 [0] _ ⟨hl_y4, hd_y4, by rw [hv0]; exact set_next hk hx_y4⟩ (by simp) (by kernel_rfl) rfl rfl rfl))))))))))))
 ·
  have h3 := bh3
  have h3 := of_decide_eq_false h3
  obtain rfl := drop_nil hk (by omega)
  refine EXIT (PASS trivial (PASS trivial (OUT (NEXT (SEQ (REGION [0, 1] rfl (RU 2 [] [(2, .v (.slice a1 a.length a.length))] (by kernel_rfl) rfl (ENDOPS (NEXT (RET ?_))))))))))
  have efin : a = out := by rw [hv0]; simp [show k = a.length by simpa using hk]
  refine FIN (.slice a1 a.length a.length) (by kernel_rfl) (a1, a.length) ?_ [0] ?_
  · (rw [efin] <;> rfl)
  · (rw [efin] <;> rfl)

theorem toWheel_c (W : World) (a : Wheel) (a_spoke_a : Option Addr) (a_spoke_c : Nat) (ha_spoke : Rd (sl 202 pinL) W a_spoke_a a.spoke) (hb : a.spoke.length ≤ 1048576) (hf : a.spoke.flatten.length ≤ 1048576) : Spec Tryz.prog W [] 94 #[.agg #[.slice a_spoke_a a.spoke.length a_spoke_c]] (⟨HH, fun p => .agg #[.slice p.1 a.spoke.length p.2], fun p => [slA 116 (sl 127 pinL) (.slice p.1 a.spoke.length p.2) a.spoke]⟩) := by
 refine ENTER0 (N := 9) (vs := [.agg #[.slice a_spoke_a a.spoke.length a_spoke_c]]) Tryz.func94 rfl rfl (NL rfl) ?_
 have ha_spoke_len := ha_spoke.len
 refine SEQ (REGION [0, 1] rfl (RUL 2 [] [(1, .p 0 0), (2, .p 1 0)] [(84, [.slice a_spoke_a a.spoke.length a_spoke_c]), (72, [.slice none 0 0])] (by kernel_rfl) rfl (ENDOPS (NEXT (SEQ (REGION [0] rfl (RUL 1 [] [(3, .p 2 0)] [(84, [.slice a_spoke_a a.spoke.length a_spoke_c]), (72, [.slice none 0 0]), (72, [.slice none 0 0])] (by kernel_rfl) rfl (ENDOPS (NEXT (SEQ (REGION [0, 1, 2, 3, 4] rfl (RU 2 [2, 3, 4] [(5, .v (.slice a_spoke_a a.spoke.length a_spoke_c))] (by kernel_rfl) rfl (OPC (CALL 148 #[.slice a_spoke_a a.spoke.length a_spoke_c] (some 6) (by kernel_rfl) [] [] _ rfl (⟨HH, fun p => .slice p.1 a.spoke.length p.2, fun p => [slA 116 (sl 127 pinL) (.slice p.1 a.spoke.length p.2) a.spoke]⟩) (fun w hw => toPinSS_c w a.spoke a_spoke_a a_spoke_c (ha_spoke.fr hw.fr) (by first | assumption | omega | (dsimp only; omega) | (simp only [List.length_append, List.length_cons, List.length_nil] at *; omega)) (by first | assumption | omega | (dsimp only; omega) | (simp only [List.length_append, List.length_cons, List.length_nil] at *; omega))) (NO rfl) ?_))))))))))))))
 rintro ⟨a1, c2⟩
 refine RUL 2 [] [] [(84, [.slice a_spoke_a a.spoke.length a_spoke_c]), (72, [.slice none 0 0]), (72, [.slice a1 a.spoke.length c2])] (by kernel_rfl) rfl (ENDOPS (NEXT (SEQ (REGION [0, 1] rfl (RUL 2 [] [] [(84, [.slice a_spoke_a a.spoke.length a_spoke_c]), (72, [.slice a1 a.spoke.length c2]), (72, [.slice a1 a.spoke.length c2])] (by kernel_rfl) rfl (ENDOPS (NEXT (RET (FIN (.agg #[.slice a1 a.spoke.length c2]) (by kernel_rfl) (a1, c2) ?_ [0] ?_)))))))))
 · rfl
 · rfl

theorem toCabin_c (W : World) (a : Cabin) (a_row_a : Option Addr) (a_row_c : Nat) (ha_row : Rd entryL W a_row_a a.row) (a_wheel_spoke_a : Option Addr) (a_wheel_spoke_c : Nat) (ha_wheel_spoke : Rd (sl 202 pinL) W a_wheel_spoke_a a.wheel.spoke) (hs : CabinSz a) : Spec Tryz.prog W [] 60 #[.agg #[vi a.seats.total, vi a.seats.free, vi a.seats.held, vi a.seats.sold, vi a.seats.tied, .slice a_row_a a.row.length a_row_c, .slice a_wheel_spoke_a a.wheel.spoke.length a_wheel_spoke_c]] (⟨HH × HH, fun p => .agg #[vi a.seats.total, vi a.seats.free, vi a.seats.held, vi a.seats.sold, vi a.seats.tied, .slice p.1.1 a.row.length p.1.2, .slice p.2.1 a.wheel.spoke.length p.2.2], fun p => [slA 114 entryL (.slice p.1.1 a.row.length p.1.2) a.row, slA 116 (sl 127 pinL) (.slice p.2.1 a.wheel.spoke.length p.2.2) a.wheel.spoke]⟩) := by
 refine ENTER0 (N := 17) (vs := [.agg #[vi a.seats.total, vi a.seats.free, vi a.seats.held, vi a.seats.sold, vi a.seats.tied, .slice a_row_a a.row.length a_row_c, .slice a_wheel_spoke_a a.wheel.spoke.length a_wheel_spoke_c]]) Tryz.func60 rfl rfl (NL rfl) ?_
 have hs9 : a.row.length ≤ 1048576 ∧ a.wheel.spoke.length ≤ 1048576 ∧ a.wheel.spoke.flatten.length ≤ 1048576 := hs
 have ha_row_len := ha_row.len
 have ha_wheel_spoke_len := ha_wheel_spoke.len
 refine SEQ (REGION [0, 1] rfl (RUL 2 [] [(1, .p 0 0), (2, .p 1 0)] [(86, [vi a.seats.total, vi a.seats.free, vi a.seats.held, vi a.seats.sold, vi a.seats.tied, .slice a_row_a a.row.length a_row_c, .slice a_wheel_spoke_a a.wheel.spoke.length a_wheel_spoke_c]), (74, [vi 0, vi 0, vi 0, vi 0, vi 0, .slice none 0 0, .slice none 0 0])] (by kernel_rfl) rfl (ENDOPS (NEXT (SEQ (REGION [0] rfl (RUL 1 [] [(3, .p 2 0)] [(86, [vi a.seats.total, vi a.seats.free, vi a.seats.held, vi a.seats.sold, vi a.seats.tied, .slice a_row_a a.row.length a_row_c, .slice a_wheel_spoke_a a.wheel.spoke.length a_wheel_spoke_c]), (74, [vi 0, vi 0, vi 0, vi 0, vi 0, .slice none 0 0, .slice none 0 0]), (74, [vi 0, vi 0, vi 0, vi 0, vi 0, .slice none 0 0, .slice none 0 0])] (by kernel_rfl) rfl (ENDOPS (NEXT (SEQ (REGION [0, 1, 2, 3, 4] rfl (RU 2 [2, 3, 4] [(5, .v (.agg (ledgerE a.seats).toArray))] (by kernel_rfl) rfl (OPC (CALL 92 #[.agg #[vi a.seats.total, vi a.seats.free, vi a.seats.held, vi a.seats.sold, vi a.seats.tied]] (some 6) (by kernel_rfl) [] [] _ rfl (RV (.agg #[vi a.seats.total, vi a.seats.free, vi a.seats.held, vi a.seats.sold, vi a.seats.tied])) (fun w hw => toLedger_c w a.seats) (NO rfl) ?_))))))))))))))
 rintro ⟨⟩
 refine RUL 2 [] [] [(86, [vi a.seats.total, vi a.seats.free, vi a.seats.held, vi a.seats.sold, vi a.seats.tied, .slice a_row_a a.row.length a_row_c, .slice a_wheel_spoke_a a.wheel.spoke.length a_wheel_spoke_c]), (74, [vi 0, vi 0, vi 0, vi 0, vi 0, .slice none 0 0, .slice none 0 0]), (74, [vi a.seats.total, vi a.seats.free, vi a.seats.held, vi a.seats.sold, vi a.seats.tied, .slice none 0 0, .slice none 0 0])] (by kernel_rfl) rfl (ENDOPS (NEXT (SEQ (REGION [0, 1, 2, 3, 4] rfl (RU 2 [2, 3, 4] [(9, .v (.slice a_row_a a.row.length a_row_c))] (by kernel_rfl) rfl (OPC (CALL 93 #[.slice a_row_a a.row.length a_row_c] (some 10) (by kernel_rfl) [] [] _ rfl (⟨HH, fun p => .slice p.1 a.row.length p.2, fun p => [slA 114 entryL (.slice p.1 a.row.length p.2) a.row]⟩) (fun w hw => toEntryS_c w a.row a_row_a a_row_c (ha_row.fr hw.fr) (by first | assumption | omega | (dsimp only; omega) | (simp only [List.length_append, List.length_cons, List.length_nil] at *; omega))) (NO rfl) ?_)))))))
 rintro ⟨a1, c2⟩
 refine RUL 2 [] [] [(86, [vi a.seats.total, vi a.seats.free, vi a.seats.held, vi a.seats.sold, vi a.seats.tied, .slice a_row_a a.row.length a_row_c, .slice a_wheel_spoke_a a.wheel.spoke.length a_wheel_spoke_c]), (74, [vi 0, vi 0, vi 0, vi 0, vi 0, .slice none 0 0, .slice none 0 0]), (74, [vi a.seats.total, vi a.seats.free, vi a.seats.held, vi a.seats.sold, vi a.seats.tied, .slice a1 a.row.length c2, .slice none 0 0])] (by kernel_rfl) rfl (ENDOPS (NEXT (SEQ (REGION [0, 1, 2, 3, 4] rfl (RU 2 [2, 3, 4] [(13, .v (.agg #[.slice a_wheel_spoke_a a.wheel.spoke.length a_wheel_spoke_c]))] (by kernel_rfl) rfl (OPC (CALL 94 #[.agg #[.slice a_wheel_spoke_a a.wheel.spoke.length a_wheel_spoke_c]] (some 14) (by kernel_rfl) [] [] _ rfl (⟨HH, fun p => .agg #[.slice p.1 a.wheel.spoke.length p.2], fun p => [slA 116 (sl 127 pinL) (.slice p.1 a.wheel.spoke.length p.2) a.wheel.spoke]⟩) (fun w hw => toWheel_c w a.wheel a_wheel_spoke_a a_wheel_spoke_c (ha_wheel_spoke.fr hw.fr) (by first | assumption | omega | (dsimp only; omega) | (simp only [List.length_append, List.length_cons, List.length_nil] at *; omega)) (by first | assumption | omega | (dsimp only; omega) | (simp only [List.length_append, List.length_cons, List.length_nil] at *; omega))) (NO rfl) ?_)))))))
 rintro ⟨a3, c4⟩
 refine RUL 2 [] [] [(86, [vi a.seats.total, vi a.seats.free, vi a.seats.held, vi a.seats.sold, vi a.seats.tied, .slice a_row_a a.row.length a_row_c, .slice a_wheel_spoke_a a.wheel.spoke.length a_wheel_spoke_c]), (74, [vi 0, vi 0, vi 0, vi 0, vi 0, .slice none 0 0, .slice none 0 0]), (74, [vi a.seats.total, vi a.seats.free, vi a.seats.held, vi a.seats.sold, vi a.seats.tied, .slice a1 a.row.length c2, .slice a3 a.wheel.spoke.length c4])] (by kernel_rfl) rfl (ENDOPS (NEXT (SEQ (REGION [0, 1] rfl (RUL 2 [] [] [(86, [vi a.seats.total, vi a.seats.free, vi a.seats.held, vi a.seats.sold, vi a.seats.tied, .slice a_row_a a.row.length a_row_c, .slice a_wheel_spoke_a a.wheel.spoke.length a_wheel_spoke_c]), (74, [vi a.seats.total, vi a.seats.free, vi a.seats.held, vi a.seats.sold, vi a.seats.tied, .slice a1 a.row.length c2, .slice a3 a.wheel.spoke.length c4]), (74, [vi a.seats.total, vi a.seats.free, vi a.seats.held, vi a.seats.sold, vi a.seats.tied, .slice a1 a.row.length c2, .slice a3 a.wheel.spoke.length c4])] (by kernel_rfl) rfl (ENDOPS (NEXT (RET (FIN (.agg #[vi a.seats.total, vi a.seats.free, vi a.seats.held, vi a.seats.sold, vi a.seats.tied, .slice a1 a.row.length c2, .slice a3 a.wheel.spoke.length c4]) (by kernel_rfl) ((a1, c2), (a3, c4)) ?_ [0, 0] ?_)))))))))
 · rfl
 · rfl

theorem toCabinS_c (W : World) (a : List Cabin) (a_a : Option Addr) (a_c : Nat) (ha : Rd (cabinLx 156 189 202) W a_a a) (hb : a.length ≤ 1048576) (hs : ∀ c ∈ a, CabinSz c) : Spec Tryz.prog W [] 30 #[.slice a_a a.length a_c] (⟨HH, fun p => .slice p.1 a.length p.2, fun p => [slA 74 (cabinLx 114 116 127) (.slice p.1 a.length p.2) a]⟩) := by
 refine ENTER0 (N := 23) (vs := [.slice a_a a.length a_c]) Tryz.func30 rfl rfl (NL rfl) ?_
 have ha_len := ha.len
 refine SEQ (REGION [0] rfl (RU 1 [] [] (by kernel_rfl) rfl (ENDOPS (NEXT (SEQ (REGION [0, 1, 2, 3] rfl (RU 2 [2, 3] [(6, I (a.length : Int))] (by kernel_rfl) rfl (OPC (MAKEN 33 (.tmp 6) (.tmp 6) 7 33 (by kernel_rfl) (NL rfl) a.length (by kernel_rfl) (by kernel_rfl) 74 (by kernel_rfl) (cabinLx 114 116 127) 7 rfl (⟨(⟨0, 0, 0, 0, 0⟩ : Ledger), [], (⟨[]⟩ : Wheel)⟩ : Cabin) (.agg #[vi 0, vi 0, vi 0, vi 0, vi 0, .slice none 0 0, .slice none 0 0]) 88 (fun w => cabinZ w) (by kernel_rfl) (by decide) (by omega) (by simp only [maxLen]; omega) (fun a1 ha2 => (RU 1 [] [(3, .v (.slice a1 a.length a.length))] (by kernel_rfl) rfl (ENDOPS (NEXT (SEQ (SEQ (REGION [0] rfl (RU 1 [] [(4, I 0)] (by kernel_rfl) rfl (ENDOPS (NEXT (BLOCK (LOOP (ι := Nat × (List Cabin) × (List Cabin)) (fun j => [(0, .v (.slice a_a a.length a_c)), (3, .v (.slice a1 a.length a.length)), (4, I (j.1 : Int))]) (fun j => []) (fun j => [slA 74 (cabinLx 114 116 127) (.slice a1 a.length a.length) j.2.2]) (fun j => j.1 + j.2.1.length = a.length ∧ a.drop j.1 = j.2.1 ∧ j.2.2 = a.take j.1 ++ List.replicate j.2.1.length (⟨⟨0, 0, 0, 0, 0⟩, [], ⟨[]⟩⟩ : Cabin)) (fun j => j.2.1.length) (0, a, List.replicate a.length (⟨(⟨0, 0, 0, 0, 0⟩ : Ledger), [], (⟨[]⟩ : Wheel)⟩ : Cabin)) [0, 3, 4] ⟨by simp, rfl, by simp⟩ (by kernel_rfl) rfl rfl ?_)))))))))))))))))))))
 rintro ⟨k, ys, out⟩ ⟨hk, hd, hv0⟩
 try dsimp only at hk hd hv0
 refine SEQ (SEQ (REGION [0, 1, 2, 3] rfl (RU 4 [] [(11, B (decide ((k : Int) < (a.length : Int))))] (by kernel_rfl) rfl (ENDOPS (NEXT (IF (decide ((k : Int) < (a.length : Int))) (by kernel_rfl) (fun bh3 => ?_) (fun bh3 => ?_)))))))
 ·
  have h3 := bh3
  have h3 := of_decide_eq_true h3
  obtain ⟨y4, ys5, rfl, hx_y4, hd_y4, hl_y4⟩ := drop_cons hd hk (by omega)
  have hcz := hs _ (List.mem_of_getElem? hx_y4)
  refine SKIP (NEXT (SEQ (BLOCK (REGION [0, 1, 2, 3, 4, 5, 6, 7, 8] rfl (RU 4 [4, 5, 6, 7, 8] [(14, .v (.slice a1 a.length a.length)), (15, I (k : Int)), (16, .v (.slice a_a a.length a_c)), (17, I (k : Int))] (by kernel_rfl) rfl ?_)))))
  obtain ⟨a6, c7, a9, c10, hel12, hi8, hi11, hi8_cap, hi11_cap⟩ := cabin_view ha hx_y4
  have hi8_len := hi8.len
  have hi11_len := hi11.len
  refine OPC (INDEX 26 (.tmp 16) (.tmp 17) 18 0 (by kernel_rfl) (NL rfl) a_a a.length a_c .i64 (k : Int) 86 7 (by kernel_rfl) (by kernel_rfl) (by kernel_rfl) (by kernel_rfl) (Rd.some ha (by omega)) (by omega) (by omega) (OPC (LOADE 86 (.tmp 18) 19 86 (by kernel_rfl) (NL rfl) a_a (k * 7) 0 ([vi y4.seats.total, vi y4.seats.free, vi y4.seats.held, vi y4.seats.sold, vi y4.seats.tied, .slice a6 y4.row.length c7, .slice a9 y4.wheel.spoke.length c10]) (.agg #[vi y4.seats.total, vi y4.seats.free, vi y4.seats.held, vi y4.seats.sold, vi y4.seats.tied, .slice a6 y4.row.length c7, .slice a9 y4.wheel.spoke.length c10]) (by kernel_rfl) (fun w hw => hel12.fr hw.fr) (by kernel_rfl) (OPC (CALL 60 #[.agg #[vi y4.seats.total, vi y4.seats.free, vi y4.seats.held, vi y4.seats.sold, vi y4.seats.tied, .slice a6 y4.row.length c7, .slice a9 y4.wheel.spoke.length c10]] (some 20) (by kernel_rfl) [] [] _ rfl (⟨HH × HH, fun p => .agg #[vi y4.seats.total, vi y4.seats.free, vi y4.seats.held, vi y4.seats.sold, vi y4.seats.tied, .slice p.1.1 y4.row.length p.1.2, .slice p.2.1 y4.wheel.spoke.length p.2.2], fun p => [slA 114 entryL (.slice p.1.1 y4.row.length p.1.2) y4.row, slA 116 (sl 127 pinL) (.slice p.2.1 y4.wheel.spoke.length p.2.2) y4.wheel.spoke]⟩) (fun w hw => toCabin_c w y4 a6 c7 (hi8.fr hw.fr) a9 c10 (hi11.fr hw.fr) (by first | assumption | exact hs _ (List.mem_of_getElem? (by assumption)))) (NO rfl) ?_)))))
  rintro ⟨⟨a13, c14⟩, ⟨a15, c16⟩⟩
  refine FACT (a.length = out.length) (fun w hw => (SlO.lenE (hw.own 0 rfl)).1) (fun hln17 => ?_)
  obtain ⟨x18, hx19⟩ : ∃ y, out[k]? = some y := ⟨_, List.getElem?_eq_getElem (by omega)⟩
  refine OPC (INDEX 33 (.tmp 14) (.tmp 15) 21 0 (by kernel_rfl) (NL rfl) a1 a.length a.length .i64 (k : Int) 74 7 (by kernel_rfl) (by kernel_rfl) (by kernel_rfl) (by kernel_rfl) ha2 (by omega) (by omega) (OPC (STOREN 74 (.tmp 21) (.tmp 20) 0 (by kernel_rfl) 74 (cabinLx 114 116 127) a1 a.length a.length k out [0, 0, 0] [slA 114 entryL (.slice a13 y4.row.length c14) y4.row, slA 116 (sl 127 pinL) (.slice a15 y4.wheel.spoke.length c16) y4.wheel.spoke] _ rfl y4 (by omega) (.agg #[vi y4.seats.total, vi y4.seats.free, vi y4.seats.held, vi y4.seats.sold, vi y4.seats.tied, .slice a13 y4.row.length c14, .slice a15 y4.wheel.spoke.length c16]) (by kernel_rfl) (by kernel_rfl) (by kernel_rfl) (cabinRep (c := y4)) (ENDOPS (OUTN (NEXT (REGION [0, 1, 2] rfl (RU 2 [2] [(13, I (wr ((k : Int) + 1)))] (by kernel_rfl) rfl (CAST (d := 13) (vi (wr ((k : Int) + 1))) (vi ((k + 1 : Nat) : Int)) (by kernel_rfl) (vi_cast (by omega) (by omega)) (RU 1 [] [(4, I ((k + 1 : Nat) : Int))] (by kernel_rfl) rfl (ENDOPS (BACK (k + 1, ys5, out.set k y4) [0, 3, 4] 0 [0] _ ⟨hl_y4, hd_y4, by rw [hv0]; exact set_next hk hx_y4⟩ (by simp) (by kernel_rfl) rfl rfl rfl))))))))))))
 ·
  have h3 := bh3
  have h3 := of_decide_eq_false h3
  obtain rfl := drop_nil hk (by omega)
  refine EXIT (PASS trivial (PASS trivial (OUT (NEXT (SEQ (REGION [0, 1] rfl (RU 2 [] [(2, .v (.slice a1 a.length a.length))] (by kernel_rfl) rfl (ENDOPS (NEXT (RET ?_))))))))))
  have efin : a = out := by rw [hv0]; simp [show k = a.length by simpa using hk]
  refine FIN (.slice a1 a.length a.length) (by kernel_rfl) (a1, a.length) ?_ [0] ?_
  · (rw [efin] <;> rfl)
  · (rw [efin] <;> rfl)

theorem toHouse_c (W : World) (a : House) (a_rules_seats_a : Option Addr) (a_rules_seats_c : Nat) (ha_rules_seats : Rd intL W a_rules_seats_a a.rules.seats) (a_parties_a : Option Addr) (a_parties_c : Nat) (ha_parties : Rd partyL W a_parties_a a.parties) (a_cabins_a : Option Addr) (a_cabins_c : Nat) (ha_cabins : Rd (cabinLx 156 189 202) W a_cabins_a a.cabins) (a_todo_a : Option Addr) (a_todo_c : Nat) (ha_todo : Rd intL W a_todo_a a.todo) (a_jobs_a : Option Addr) (a_jobs_c : Nat) (ha_jobs : Rd intL W a_jobs_a a.jobs) (hs : HouseSz a) : Spec Tryz.prog W [] 9 #[.agg #[.slice a_rules_seats_a a.rules.seats.length a_rules_seats_c, vi a.rules.tiers, vi a.rules.room, vi a.rules.size, vi a.rules.period, vi a.rules.window, vi a.rules.rest, vi a.rules.tries, vi a.rules.crew, vi a.now, vi a.turn, .slice a_parties_a a.parties.length a_parties_c, .slice a_cabins_a a.cabins.length a_cabins_c, .slice a_todo_a a.todo.length a_todo_c, .slice a_jobs_a a.jobs.length a_jobs_c]] (⟨HH × HH × HH × HH × HH, fun p => .agg #[.slice p.1.1 a.rules.seats.length p.1.2, vi a.rules.tiers, vi a.rules.room, vi a.rules.size, vi a.rules.period, vi a.rules.window, vi a.rules.rest, vi a.rules.tries, vi a.rules.crew, vi a.now, vi a.turn, .slice p.2.1.1 a.parties.length p.2.1.2, .slice p.2.2.1.1 a.cabins.length p.2.2.1.2, .slice p.2.2.2.1.1 a.todo.length p.2.2.2.1.2, .slice p.2.2.2.2.1 a.jobs.length p.2.2.2.2.2], fun p => [slA 3 intL (.slice p.1.1 a.rules.seats.length p.1.2) a.rules.seats, slA 54 partyL (.slice p.2.1.1 a.parties.length p.2.1.2) a.parties, slA 74 (cabinLx 114 116 127) (.slice p.2.2.1.1 a.cabins.length p.2.2.1.2) a.cabins, slA 3 intL (.slice p.2.2.2.1.1 a.todo.length p.2.2.2.1.2) a.todo, slA 3 intL (.slice p.2.2.2.2.1 a.jobs.length p.2.2.2.2.2) a.jobs]⟩) := by
 refine ENTER0 (N := 31) (vs := [.agg #[.slice a_rules_seats_a a.rules.seats.length a_rules_seats_c, vi a.rules.tiers, vi a.rules.room, vi a.rules.size, vi a.rules.period, vi a.rules.window, vi a.rules.rest, vi a.rules.tries, vi a.rules.crew, vi a.now, vi a.turn, .slice a_parties_a a.parties.length a_parties_c, .slice a_cabins_a a.cabins.length a_cabins_c, .slice a_todo_a a.todo.length a_todo_c, .slice a_jobs_a a.jobs.length a_jobs_c]]) Tryz.func9 rfl rfl (NL rfl) ?_
 have hs9 := hs.1; have hs8 := hs.2.1; have hs7 := hs.2.2.1; have hs6 := hs.2.2.2.1; have hs5 := hs.2.2.2.2.1
 have ha_rules_seats_len := ha_rules_seats.len
 have ha_parties_len := ha_parties.len
 have ha_cabins_len := ha_cabins.len
 have ha_todo_len := ha_todo.len
 have ha_jobs_len := ha_jobs.len
 refine SEQ (REGION [0, 1] rfl (RUL 2 [] [(1, .p 0 0), (2, .p 1 0)] [(28, [.slice a_rules_seats_a a.rules.seats.length a_rules_seats_c, vi a.rules.tiers, vi a.rules.room, vi a.rules.size, vi a.rules.period, vi a.rules.window, vi a.rules.rest, vi a.rules.tries, vi a.rules.crew, vi a.now, vi a.turn, .slice a_parties_a a.parties.length a_parties_c, .slice a_cabins_a a.cabins.length a_cabins_c, .slice a_todo_a a.todo.length a_todo_c, .slice a_jobs_a a.jobs.length a_jobs_c]), (35, [.slice none 0 0, vi 0, vi 0, vi 0, vi 0, vi 0, vi 0, vi 0, vi 0, vi 0, vi 0, .slice none 0 0, .slice none 0 0, .slice none 0 0, .slice none 0 0])] (by kernel_rfl) rfl (ENDOPS (NEXT (SEQ (REGION [0] rfl (RUL 1 [] [(3, .p 2 0)] [(28, [.slice a_rules_seats_a a.rules.seats.length a_rules_seats_c, vi a.rules.tiers, vi a.rules.room, vi a.rules.size, vi a.rules.period, vi a.rules.window, vi a.rules.rest, vi a.rules.tries, vi a.rules.crew, vi a.now, vi a.turn, .slice a_parties_a a.parties.length a_parties_c, .slice a_cabins_a a.cabins.length a_cabins_c, .slice a_todo_a a.todo.length a_todo_c, .slice a_jobs_a a.jobs.length a_jobs_c]), (35, [.slice none 0 0, vi 0, vi 0, vi 0, vi 0, vi 0, vi 0, vi 0, vi 0, vi 0, vi 0, .slice none 0 0, .slice none 0 0, .slice none 0 0, .slice none 0 0]), (35, [.slice none 0 0, vi 0, vi 0, vi 0, vi 0, vi 0, vi 0, vi 0, vi 0, vi 0, vi 0, .slice none 0 0, .slice none 0 0, .slice none 0 0, .slice none 0 0])] (by kernel_rfl) rfl (ENDOPS (NEXT (SEQ (REGION [0, 1, 2, 3, 4] rfl (RU 2 [2, 3, 4] [(5, .v (.agg #[.slice a_rules_seats_a a.rules.seats.length a_rules_seats_c, vi a.rules.tiers, vi a.rules.room, vi a.rules.size, vi a.rules.period, vi a.rules.window, vi a.rules.rest, vi a.rules.tries, vi a.rules.crew]))] (by kernel_rfl) rfl ?_))))))))))))
 refine OPC (CALL 28 #[.agg #[.slice a_rules_seats_a a.rules.seats.length a_rules_seats_c, vi a.rules.tiers, vi a.rules.room, vi a.rules.size, vi a.rules.period, vi a.rules.window, vi a.rules.rest, vi a.rules.tries, vi a.rules.crew]] (some 6) (by kernel_rfl) [] [] _ rfl (⟨HH, fun p => .agg #[.slice p.1 a.rules.seats.length p.2, vi a.rules.tiers, vi a.rules.room, vi a.rules.size, vi a.rules.period, vi a.rules.window, vi a.rules.rest, vi a.rules.tries, vi a.rules.crew], fun p => [slA 3 intL (.slice p.1 a.rules.seats.length p.2) a.rules.seats]⟩) (fun w hw => toRules_c w a.rules a_rules_seats_a a_rules_seats_c (ha_rules_seats.fr hw.fr) (by first | omega | (simp only [List.length_append, List.length_cons, List.length_nil, List.length_take, List.length_drop] at *; omega))) (NO rfl) ?_)
 rintro ⟨a1, c2⟩
 refine RUL 2 [] [] [(28, [.slice a_rules_seats_a a.rules.seats.length a_rules_seats_c, vi a.rules.tiers, vi a.rules.room, vi a.rules.size, vi a.rules.period, vi a.rules.window, vi a.rules.rest, vi a.rules.tries, vi a.rules.crew, vi a.now, vi a.turn, .slice a_parties_a a.parties.length a_parties_c, .slice a_cabins_a a.cabins.length a_cabins_c, .slice a_todo_a a.todo.length a_todo_c, .slice a_jobs_a a.jobs.length a_jobs_c]), (35, [.slice none 0 0, vi 0, vi 0, vi 0, vi 0, vi 0, vi 0, vi 0, vi 0, vi 0, vi 0, .slice none 0 0, .slice none 0 0, .slice none 0 0, .slice none 0 0]), (35, [.slice a1 a.rules.seats.length c2, vi a.rules.tiers, vi a.rules.room, vi a.rules.size, vi a.rules.period, vi a.rules.window, vi a.rules.rest, vi a.rules.tries, vi a.rules.crew, vi 0, vi 0, .slice none 0 0, .slice none 0 0, .slice none 0 0, .slice none 0 0])] (by kernel_rfl) rfl (ENDOPS (NEXT (SEQ (REGION [0, 1, 2, 3] rfl (RUL 4 [] [] [(28, [.slice a_rules_seats_a a.rules.seats.length a_rules_seats_c, vi a.rules.tiers, vi a.rules.room, vi a.rules.size, vi a.rules.period, vi a.rules.window, vi a.rules.rest, vi a.rules.tries, vi a.rules.crew, vi a.now, vi a.turn, .slice a_parties_a a.parties.length a_parties_c, .slice a_cabins_a a.cabins.length a_cabins_c, .slice a_todo_a a.todo.length a_todo_c, .slice a_jobs_a a.jobs.length a_jobs_c]), (35, [.slice none 0 0, vi 0, vi 0, vi 0, vi 0, vi 0, vi 0, vi 0, vi 0, vi 0, vi 0, .slice none 0 0, .slice none 0 0, .slice none 0 0, .slice none 0 0]), (35, [.slice a1 a.rules.seats.length c2, vi a.rules.tiers, vi a.rules.room, vi a.rules.size, vi a.rules.period, vi a.rules.window, vi a.rules.rest, vi a.rules.tries, vi a.rules.crew, vi a.now, vi 0, .slice none 0 0, .slice none 0 0, .slice none 0 0, .slice none 0 0])] (by kernel_rfl) rfl (ENDOPS (NEXT (SEQ (REGION [0, 1, 2, 3] rfl ?_)))))))))
 refine RUL 4 [] [] [(28, [.slice a_rules_seats_a a.rules.seats.length a_rules_seats_c, vi a.rules.tiers, vi a.rules.room, vi a.rules.size, vi a.rules.period, vi a.rules.window, vi a.rules.rest, vi a.rules.tries, vi a.rules.crew, vi a.now, vi a.turn, .slice a_parties_a a.parties.length a_parties_c, .slice a_cabins_a a.cabins.length a_cabins_c, .slice a_todo_a a.todo.length a_todo_c, .slice a_jobs_a a.jobs.length a_jobs_c]), (35, [.slice none 0 0, vi 0, vi 0, vi 0, vi 0, vi 0, vi 0, vi 0, vi 0, vi 0, vi 0, .slice none 0 0, .slice none 0 0, .slice none 0 0, .slice none 0 0]), (35, [.slice a1 a.rules.seats.length c2, vi a.rules.tiers, vi a.rules.room, vi a.rules.size, vi a.rules.period, vi a.rules.window, vi a.rules.rest, vi a.rules.tries, vi a.rules.crew, vi a.now, vi a.turn, .slice none 0 0, .slice none 0 0, .slice none 0 0, .slice none 0 0])] (by kernel_rfl) rfl (ENDOPS (NEXT (SEQ (REGION [0, 1, 2, 3, 4] rfl (RU 2 [2, 3, 4] [(15, .v (.slice a_parties_a a.parties.length a_parties_c))] (by kernel_rfl) rfl (OPC (CALL 29 #[.slice a_parties_a a.parties.length a_parties_c] (some 16) (by kernel_rfl) [] [] _ rfl (⟨HH, fun p => .slice p.1 a.parties.length p.2, fun p => [slA 54 partyL (.slice p.1 a.parties.length p.2) a.parties]⟩) (fun w hw => toPartyS_c w a.parties a_parties_a a_parties_c (ha_parties.fr hw.fr) (by first | assumption | omega | (dsimp only; omega) | (simp only [List.length_append, List.length_cons, List.length_nil] at *; omega))) (NO rfl) ?_)))))))
 rintro ⟨a3, c4⟩
 refine RUL 2 [] [] [(28, [.slice a_rules_seats_a a.rules.seats.length a_rules_seats_c, vi a.rules.tiers, vi a.rules.room, vi a.rules.size, vi a.rules.period, vi a.rules.window, vi a.rules.rest, vi a.rules.tries, vi a.rules.crew, vi a.now, vi a.turn, .slice a_parties_a a.parties.length a_parties_c, .slice a_cabins_a a.cabins.length a_cabins_c, .slice a_todo_a a.todo.length a_todo_c, .slice a_jobs_a a.jobs.length a_jobs_c]), (35, [.slice none 0 0, vi 0, vi 0, vi 0, vi 0, vi 0, vi 0, vi 0, vi 0, vi 0, vi 0, .slice none 0 0, .slice none 0 0, .slice none 0 0, .slice none 0 0]), (35, [.slice a1 a.rules.seats.length c2, vi a.rules.tiers, vi a.rules.room, vi a.rules.size, vi a.rules.period, vi a.rules.window, vi a.rules.rest, vi a.rules.tries, vi a.rules.crew, vi a.now, vi a.turn, .slice a3 a.parties.length c4, .slice none 0 0, .slice none 0 0, .slice none 0 0])] (by kernel_rfl) rfl (ENDOPS (NEXT (SEQ (REGION [0, 1, 2, 3, 4] rfl (RU 2 [2, 3, 4] [(19, .v (.slice a_cabins_a a.cabins.length a_cabins_c))] (by kernel_rfl) rfl (OPC (CALL 30 #[.slice a_cabins_a a.cabins.length a_cabins_c] (some 20) (by kernel_rfl) [] [] _ rfl (⟨HH, fun p => .slice p.1 a.cabins.length p.2, fun p => [slA 74 (cabinLx 114 116 127) (.slice p.1 a.cabins.length p.2) a.cabins]⟩) (fun w hw => toCabinS_c w a.cabins a_cabins_a a_cabins_c (ha_cabins.fr hw.fr) (by first | assumption | omega | (dsimp only; omega) | (simp only [List.length_append, List.length_cons, List.length_nil] at *; omega)) (by first | assumption | exact hs.2.2.2.2.2)) (NO rfl) ?_)))))))
 rintro ⟨a5, c6⟩
 refine RUL 2 [] [] [(28, [.slice a_rules_seats_a a.rules.seats.length a_rules_seats_c, vi a.rules.tiers, vi a.rules.room, vi a.rules.size, vi a.rules.period, vi a.rules.window, vi a.rules.rest, vi a.rules.tries, vi a.rules.crew, vi a.now, vi a.turn, .slice a_parties_a a.parties.length a_parties_c, .slice a_cabins_a a.cabins.length a_cabins_c, .slice a_todo_a a.todo.length a_todo_c, .slice a_jobs_a a.jobs.length a_jobs_c]), (35, [.slice none 0 0, vi 0, vi 0, vi 0, vi 0, vi 0, vi 0, vi 0, vi 0, vi 0, vi 0, .slice none 0 0, .slice none 0 0, .slice none 0 0, .slice none 0 0]), (35, [.slice a1 a.rules.seats.length c2, vi a.rules.tiers, vi a.rules.room, vi a.rules.size, vi a.rules.period, vi a.rules.window, vi a.rules.rest, vi a.rules.tries, vi a.rules.crew, vi a.now, vi a.turn, .slice a3 a.parties.length c4, .slice a5 a.cabins.length c6, .slice none 0 0, .slice none 0 0])] (by kernel_rfl) rfl (ENDOPS (NEXT (SEQ (REGION [0, 1, 2, 3, 4] rfl (RU 2 [2, 3, 4] [(23, .v (.slice a_todo_a a.todo.length a_todo_c))] (by kernel_rfl) rfl (OPC (CALL 31 #[.slice a_todo_a a.todo.length a_todo_c] (some 24) (by kernel_rfl) [] [] _ rfl (⟨HH, fun p => .slice p.1 a.todo.length p.2, fun p => [slA 3 intL (.slice p.1 a.todo.length p.2) a.todo]⟩) (fun w hw => toIntS_c w a.todo a_todo_a a_todo_c (ha_todo.fr hw.fr) (by first | assumption | omega | (dsimp only; omega) | (simp only [List.length_append, List.length_cons, List.length_nil] at *; omega))) (NO rfl) ?_)))))))
 rintro ⟨a7, c8⟩
 refine RUL 2 [] [] [(28, [.slice a_rules_seats_a a.rules.seats.length a_rules_seats_c, vi a.rules.tiers, vi a.rules.room, vi a.rules.size, vi a.rules.period, vi a.rules.window, vi a.rules.rest, vi a.rules.tries, vi a.rules.crew, vi a.now, vi a.turn, .slice a_parties_a a.parties.length a_parties_c, .slice a_cabins_a a.cabins.length a_cabins_c, .slice a_todo_a a.todo.length a_todo_c, .slice a_jobs_a a.jobs.length a_jobs_c]), (35, [.slice none 0 0, vi 0, vi 0, vi 0, vi 0, vi 0, vi 0, vi 0, vi 0, vi 0, vi 0, .slice none 0 0, .slice none 0 0, .slice none 0 0, .slice none 0 0]), (35, [.slice a1 a.rules.seats.length c2, vi a.rules.tiers, vi a.rules.room, vi a.rules.size, vi a.rules.period, vi a.rules.window, vi a.rules.rest, vi a.rules.tries, vi a.rules.crew, vi a.now, vi a.turn, .slice a3 a.parties.length c4, .slice a5 a.cabins.length c6, .slice a7 a.todo.length c8, .slice none 0 0])] (by kernel_rfl) rfl (ENDOPS (NEXT (SEQ (REGION [0, 1, 2, 3, 4] rfl (RU 2 [2, 3, 4] [(27, .v (.slice a_jobs_a a.jobs.length a_jobs_c))] (by kernel_rfl) rfl (OPC (CALL 31 #[.slice a_jobs_a a.jobs.length a_jobs_c] (some 28) (by kernel_rfl) [] [] _ rfl (⟨HH, fun p => .slice p.1 a.jobs.length p.2, fun p => [slA 3 intL (.slice p.1 a.jobs.length p.2) a.jobs]⟩) (fun w hw => toIntS_c w a.jobs a_jobs_a a_jobs_c (ha_jobs.fr hw.fr) (by first | assumption | omega | (dsimp only; omega) | (simp only [List.length_append, List.length_cons, List.length_nil] at *; omega))) (NO rfl) ?_)))))))
 rintro ⟨a9, c10⟩
 refine RUL 2 [] [] [(28, [.slice a_rules_seats_a a.rules.seats.length a_rules_seats_c, vi a.rules.tiers, vi a.rules.room, vi a.rules.size, vi a.rules.period, vi a.rules.window, vi a.rules.rest, vi a.rules.tries, vi a.rules.crew, vi a.now, vi a.turn, .slice a_parties_a a.parties.length a_parties_c, .slice a_cabins_a a.cabins.length a_cabins_c, .slice a_todo_a a.todo.length a_todo_c, .slice a_jobs_a a.jobs.length a_jobs_c]), (35, [.slice none 0 0, vi 0, vi 0, vi 0, vi 0, vi 0, vi 0, vi 0, vi 0, vi 0, vi 0, .slice none 0 0, .slice none 0 0, .slice none 0 0, .slice none 0 0]), (35, [.slice a1 a.rules.seats.length c2, vi a.rules.tiers, vi a.rules.room, vi a.rules.size, vi a.rules.period, vi a.rules.window, vi a.rules.rest, vi a.rules.tries, vi a.rules.crew, vi a.now, vi a.turn, .slice a3 a.parties.length c4, .slice a5 a.cabins.length c6, .slice a7 a.todo.length c8, .slice a9 a.jobs.length c10])] (by kernel_rfl) rfl (ENDOPS (NEXT (SEQ (REGION [0, 1] rfl (RUL 2 [] [] [(28, [.slice a_rules_seats_a a.rules.seats.length a_rules_seats_c, vi a.rules.tiers, vi a.rules.room, vi a.rules.size, vi a.rules.period, vi a.rules.window, vi a.rules.rest, vi a.rules.tries, vi a.rules.crew, vi a.now, vi a.turn, .slice a_parties_a a.parties.length a_parties_c, .slice a_cabins_a a.cabins.length a_cabins_c, .slice a_todo_a a.todo.length a_todo_c, .slice a_jobs_a a.jobs.length a_jobs_c]), (35, [.slice a1 a.rules.seats.length c2, vi a.rules.tiers, vi a.rules.room, vi a.rules.size, vi a.rules.period, vi a.rules.window, vi a.rules.rest, vi a.rules.tries, vi a.rules.crew, vi a.now, vi a.turn, .slice a3 a.parties.length c4, .slice a5 a.cabins.length c6, .slice a7 a.todo.length c8, .slice a9 a.jobs.length c10]), (35, [.slice a1 a.rules.seats.length c2, vi a.rules.tiers, vi a.rules.room, vi a.rules.size, vi a.rules.period, vi a.rules.window, vi a.rules.rest, vi a.rules.tries, vi a.rules.crew, vi a.now, vi a.turn, .slice a3 a.parties.length c4, .slice a5 a.cabins.length c6, .slice a7 a.todo.length c8, .slice a9 a.jobs.length c10])] (by kernel_rfl) rfl (ENDOPS (NEXT (RET ?_))))))))
 refine FIN (.agg #[.slice a1 a.rules.seats.length c2, vi a.rules.tiers, vi a.rules.room, vi a.rules.size, vi a.rules.period, vi a.rules.window, vi a.rules.rest, vi a.rules.tries, vi a.rules.crew, vi a.now, vi a.turn, .slice a3 a.parties.length c4, .slice a5 a.cabins.length c6, .slice a7 a.todo.length c8, .slice a9 a.jobs.length c10]) (by kernel_rfl) ((a1, c2), (a3, c4), (a5, c6), (a7, c8), (a9, c10)) ?_ [0, 0, 0, 0, 0] ?_
 · rfl
 · rfl

theorem eqIntS_c (W : World) (a : List Int) (a_a : Option Addr) (a_c : Nat) (ha : Rd intL W a_a a) (b : List Int) (b_a : Option Addr) (b_c : Nat) (hb : Rd intL W b_a b) : Spec Tryz.prog W [] 11 #[.slice a_a a.length a_c, .slice b_a b.length b_c] (RV (.bool (eqInts a b))) := by
 refine ENTER0 (N := 26) (vs := [.slice a_a a.length a_c, .slice b_a b.length b_c]) Tryz.func11 rfl rfl (NL rfl) ?_
 have ha_len := ha.len
 have hb_len := hb.len
 refine SEQ (REGION [0] rfl (RU 1 [] [] (by kernel_rfl) rfl (ENDOPS (NEXT (SEQ (SEQ (REGION [0, 1, 2, 3, 4] rfl (RU 5 [] [(10, B ((a.length : Int) != (b.length : Int)))] (by kernel_rfl) rfl (ENDOPS (NEXT (IF ((a.length : Int) != (b.length : Int)) (by kernel_rfl) (fun bh1 => ?_) (fun bh1 => ?_))))))))))))
 ·
  have h1 := bh1
  have h1 := bne_iff_ne.1 h1
  refine SEQ (REGION [0] rfl (RU 1 [] [(4, B false)] (by kernel_rfl) rfl (ENDOPS (NEXT (RET (PASS trivial (FIN (.bool false) (by kernel_rfl) () ?_ [] ?_)))))))
  · simp [RV, eqInts_ne (a := a) (b := b) (by omega)]
  · rfl
 ·
  have h1 := bh1
  have h1 := bneF h1
  refine SKIP (NEXT (SEQ (SEQ (REGION [0] rfl (RU 1 [] [(5, I 0)] (by kernel_rfl) rfl (ENDOPS (NEXT (BLOCK (LOOP (ι := Nat × (List Int)) (fun j => [(0, .v (.slice a_a a.length a_c)), (1, .v (.slice b_a b.length b_c)), (5, I (j.1 : Int))]) (fun j => []) (fun j => []) (fun j => j.1 + j.2.length = a.length ∧ a.drop j.1 = j.2 ∧ eqInts a b = eqInts j.2 (b.drop j.1)) (fun j => j.2.length) (0, a) [0, 1, 5] ⟨by simp, rfl, rfl⟩ (by kernel_rfl) rfl rfl ?_)))))))))
  rintro ⟨k, ys⟩ ⟨hk, hd, hv0⟩
  try dsimp only at hk hd hv0
  refine SEQ (SEQ (REGION [0, 1, 2, 3] rfl (RU 4 [] [(14, B (decide ((k : Int) < (a.length : Int))))] (by kernel_rfl) rfl (ENDOPS (NEXT (IF (decide ((k : Int) < (a.length : Int))) (by kernel_rfl) (fun bh2 => ?_) (fun bh2 => ?_)))))))
  ·
   have h2 := bh2
   have h2 := of_decide_eq_true h2
   obtain ⟨y3, ys4, rfl, hx_y3, hd_y3, hl_y3⟩ := drop_cons hd hk (by omega)
   refine SKIP (NEXT (SEQ (BLOCK (SEQ (REGIONQ (by kernel_rfl) (by kernel_rfl) (QRU 2 0 2 [(17, .v (.slice a_a a.length a_c)), (18, I (k : Int))] (by kernel_rfl) rfl (QINDEX 22 (.tmp 17) (.tmp 18) 19 0 (by kernel_rfl) (NL rfl) a_a a.length a_c .i64 (k : Int) 3 1 (by kernel_rfl) (by kernel_rfl) (by kernel_rfl) (by kernel_rfl) (Rd.some ha (by omega)) (by omega) (by omega) (QLOADE 3 (.tmp 19) 20 3 (by kernel_rfl) (NL rfl) a_a (k * 1) 0 ([vi y3]) (vi y3) (by kernel_rfl) (fun w hw => (ha.fr hw.fr).flat hx_y3) (by kernel_rfl) (QRU 2 4 6 [(21, .v (.slice b_a b.length b_c)), (22, I (k : Int))] (by kernel_rfl) rfl ?_)))))))))
   obtain ⟨x5, hx6⟩ : ∃ y, b[k]? = some y := ⟨_, List.getElem?_eq_getElem (by omega)⟩
   refine QINDEX 22 (.tmp 21) (.tmp 22) 23 0 (by kernel_rfl) (NL rfl) b_a b.length b_c .i64 (k : Int) 3 1 (by kernel_rfl) (by kernel_rfl) (by kernel_rfl) (by kernel_rfl) (Rd.some hb (by omega)) (by omega) (by omega) (QLOADE 3 (.tmp 23) 24 3 (by kernel_rfl) (NL rfl) b_a (k * 1) 0 ([vi x5]) (vi x5) (by kernel_rfl) (fun w hw => (hb.fr hw.fr).flat hx6) (by kernel_rfl) (QRU 1 8 9 [(25, B (y3 != x5))] (by kernel_rfl) rfl (QEND rfl (NEXT (IF (y3 != x5) (by kernel_rfl) (fun bh7 => ?_) (fun bh7 => ?_))))))
   ·
    have h7 := bh7
    have h7 := bne_iff_ne.1 h7
    refine SEQ (REGION [0] rfl (RU 1 [] [(4, B false)] (by kernel_rfl) rfl (ENDOPS (NEXT (RET (OUTR (PASS trivial (PASS trivial (OUTR (PASS trivial (FIN (.bool false) (by kernel_rfl) () ?_ [] ?_)))))))))))
    · simp [RV, hv0, drop_get ‹b[k]? = some _›, eqInts, *]
    · rfl
   ·
    have h7 := bh7
    have h7 := bneF h7
    refine SKIP (OUTN (NEXT (REGION [0, 1, 2] rfl (RU 2 [2] [(16, I (wr ((k : Int) + 1)))] (by kernel_rfl) rfl (CAST (d := 16) (vi (wr ((k : Int) + 1))) (vi ((k + 1 : Nat) : Int)) (by kernel_rfl) (vi_cast (by omega) (by omega)) (RU 1 [] [(5, I ((k + 1 : Nat) : Int))] (by kernel_rfl) rfl (ENDOPS (BACK (k + 1, ys4) [0, 1, 5] 0 [] _ ⟨hl_y3, hd_y3, hv0.trans (by simp [eqInts, drop_get ‹b[k]? = some _›, *])⟩ (by simp) (by kernel_rfl) rfl rfl rfl))))))))
  ·
   have h2 := bh2
   have h2 := of_decide_eq_false h2
   obtain rfl := drop_nil hk (by omega)
   refine EXIT (PASS trivial (PASS trivial (OUT (NEXT (SEQ (REGION [0] rfl (RU 1 [] [(4, B true)] (by kernel_rfl) rfl (ENDOPS (NEXT (RET (FIN (.bool true) (by kernel_rfl) () ?_ [] ?_)))))))))))
   · simp [RV, hv0, eqInts, List.drop_eq_nil_of_le (show b.length ≤ k by simp at hk; omega)]
   · rfl

theorem eqRules_c (W : World) (a : Rules) (a_seats_a : Option Addr) (a_seats_c : Nat) (ha_seats : Rd intL W a_seats_a a.seats) (b : Rules) (b_seats_a : Option Addr) (b_seats_c : Nat) (hb_seats : Rd intL W b_seats_a b.seats) : Spec Tryz.prog W [] 35 #[.agg #[.slice a_seats_a a.seats.length a_seats_c, vi a.tiers, vi a.room, vi a.size, vi a.period, vi a.window, vi a.rest, vi a.tries, vi a.crew], .agg #[.slice b_seats_a b.seats.length b_seats_c, vi b.tiers, vi b.room, vi b.size, vi b.period, vi b.window, vi b.rest, vi b.tries, vi b.crew]] (RV (.bool (eqRules a b))) := by
 refine ENTER0 (N := 51) (vs := [.agg #[.slice a_seats_a a.seats.length a_seats_c, vi a.tiers, vi a.room, vi a.size, vi a.period, vi a.window, vi a.rest, vi a.tries, vi a.crew], .agg #[.slice b_seats_a b.seats.length b_seats_c, vi b.tiers, vi b.room, vi b.size, vi b.period, vi b.window, vi b.rest, vi b.tries, vi b.crew]]) Tryz.func35 rfl rfl (NL rfl) ?_
 have ha_seats_len := ha_seats.len
 have hb_seats_len := hb_seats.len
 refine SEQ (REGION [0, 1, 2] rfl (RUL 3 [] [(2, .p 0 0), (3, .p 1 0)] [(31, [.slice a_seats_a a.seats.length a_seats_c, vi a.tiers, vi a.room, vi a.size, vi a.period, vi a.window, vi a.rest, vi a.tries, vi a.crew]), (31, [.slice b_seats_a b.seats.length b_seats_c, vi b.tiers, vi b.room, vi b.size, vi b.period, vi b.window, vi b.rest, vi b.tries, vi b.crew])] (by kernel_rfl) rfl (ENDOPS (NEXT (SEQ (SEQ (REGION [0, 1, 2, 3, 4, 5] rfl (RU 4 [4, 5] [(6, .v (.slice a_seats_a a.seats.length a_seats_c)), (8, .v (.slice b_seats_a b.seats.length b_seats_c))] (by kernel_rfl) rfl (OPC (CALL 11 #[.slice a_seats_a a.seats.length a_seats_c, .slice b_seats_a b.seats.length b_seats_c] (some 9) (by kernel_rfl) [] [] _ rfl (RV (.bool (eqInts a.seats b.seats))) (fun w hw => eqIntS_c w a.seats a_seats_a a_seats_c (ha_seats.fr hw.fr) b.seats b_seats_a b_seats_c (hb_seats.fr hw.fr)) (NO rfl) ?_))))))))))
 rintro ⟨⟩
 refine RU 1 [] [(10, B (!(eqInts a.seats b.seats)))] (by kernel_rfl) rfl (ENDOPS (NEXT (IF (!(eqInts a.seats b.seats)) (by kernel_rfl) (fun bh1 => ?_) (fun bh1 => ?_))))
 ·
  have h1 := bh1
  have h1 := notT h1
  refine SEQ (REGION [0] rfl (RU 1 [] [(4, B false)] (by kernel_rfl) rfl (ENDOPS (NEXT (RET (PASS trivial (FIN (.bool false) (by kernel_rfl) () ?_ [] ?_)))))))
  · simp [RV, eqRules, *]
  · rfl
 ·
  have h1 := bh1
  have h1 := notF h1
  refine SKIP (NEXT (SEQ (SEQ (REGION [0, 1, 2, 3, 4] rfl (RU 5 [] [(15, B (a.tiers != b.tiers))] (by kernel_rfl) rfl (ENDOPS (NEXT (IF (a.tiers != b.tiers) (by kernel_rfl) (fun bh2 => ?_) (fun bh2 => ?_)))))))))
  ·
   have h2 := bh2
   have h2 := bne_iff_ne.1 h2
   refine SEQ (REGION [0] rfl (RU 1 [] [(4, B false)] (by kernel_rfl) rfl (ENDOPS (NEXT (RET (PASS trivial (FIN (.bool false) (by kernel_rfl) () ?_ [] ?_)))))))
   · simp [RV, eqRules, *]
   · rfl
  ·
   have h2 := bh2
   have h2 := bneF h2
   refine SKIP (NEXT (SEQ (SEQ (REGION [0, 1, 2, 3, 4] rfl (RU 5 [] [(20, B (a.room != b.room))] (by kernel_rfl) rfl (ENDOPS (NEXT (IF (a.room != b.room) (by kernel_rfl) (fun bh3 => ?_) (fun bh3 => ?_)))))))))
   ·
    have h3 := bh3
    have h3 := bne_iff_ne.1 h3
    refine SEQ (REGION [0] rfl (RU 1 [] [(4, B false)] (by kernel_rfl) rfl (ENDOPS (NEXT (RET (PASS trivial (FIN (.bool false) (by kernel_rfl) () ?_ [] ?_)))))))
    · simp [RV, eqRules, *]
    · rfl
   ·
    have h3 := bh3
    have h3 := bneF h3
    refine SKIP (NEXT (SEQ (SEQ (REGION [0, 1, 2, 3, 4] rfl (RU 5 [] [(25, B (a.size != b.size))] (by kernel_rfl) rfl (ENDOPS (NEXT (IF (a.size != b.size) (by kernel_rfl) (fun bh4 => ?_) (fun bh4 => ?_)))))))))
    ·
     have h4 := bh4
     have h4 := bne_iff_ne.1 h4
     refine SEQ (REGION [0] rfl (RU 1 [] [(4, B false)] (by kernel_rfl) rfl (ENDOPS (NEXT (RET (PASS trivial (FIN (.bool false) (by kernel_rfl) () ?_ [] ?_)))))))
     · simp [RV, eqRules, *]
     · rfl
    ·
     have h4 := bh4
     have h4 := bneF h4
     refine SKIP (NEXT (SEQ (SEQ (REGION [0, 1, 2, 3, 4] rfl (RU 5 [] [(30, B (a.period != b.period))] (by kernel_rfl) rfl (ENDOPS (NEXT (IF (a.period != b.period) (by kernel_rfl) (fun bh5 => ?_) (fun bh5 => ?_)))))))))
     ·
      have h5 := bh5
      have h5 := bne_iff_ne.1 h5
      refine SEQ (REGION [0] rfl (RU 1 [] [(4, B false)] (by kernel_rfl) rfl (ENDOPS (NEXT (RET (PASS trivial (FIN (.bool false) (by kernel_rfl) () ?_ [] ?_)))))))
      · simp [RV, eqRules, *]
      · rfl
     ·
      have h5 := bh5
      have h5 := bneF h5
      refine SKIP (NEXT (SEQ (SEQ (REGION [0, 1, 2, 3, 4] rfl (RU 5 [] [(35, B (a.window != b.window))] (by kernel_rfl) rfl (ENDOPS (NEXT (IF (a.window != b.window) (by kernel_rfl) (fun bh6 => ?_) (fun bh6 => ?_)))))))))
      ·
       have h6 := bh6
       have h6 := bne_iff_ne.1 h6
       refine SEQ (REGION [0] rfl (RU 1 [] [(4, B false)] (by kernel_rfl) rfl (ENDOPS (NEXT (RET (PASS trivial (FIN (.bool false) (by kernel_rfl) () ?_ [] ?_)))))))
       · simp [RV, eqRules, *]
       · rfl
      ·
       have h6 := bh6
       have h6 := bneF h6
       refine SKIP (NEXT (SEQ (SEQ (REGION [0, 1, 2, 3, 4] rfl (RU 5 [] [(40, B (a.rest != b.rest))] (by kernel_rfl) rfl (ENDOPS (NEXT (IF (a.rest != b.rest) (by kernel_rfl) (fun bh7 => ?_) (fun bh7 => ?_)))))))))
       ·
        have h7 := bh7
        have h7 := bne_iff_ne.1 h7
        refine SEQ (REGION [0] rfl (RU 1 [] [(4, B false)] (by kernel_rfl) rfl (ENDOPS (NEXT (RET (PASS trivial (FIN (.bool false) (by kernel_rfl) () ?_ [] ?_)))))))
        · simp [RV, eqRules, *]
        · rfl
       ·
        have h7 := bh7
        have h7 := bneF h7
        refine SKIP (NEXT (SEQ (SEQ (REGION [0, 1, 2, 3, 4] rfl (RU 5 [] [(45, B (a.tries != b.tries))] (by kernel_rfl) rfl (ENDOPS (NEXT (IF (a.tries != b.tries) (by kernel_rfl) (fun bh8 => ?_) (fun bh8 => ?_)))))))))
        ·
         have h8 := bh8
         have h8 := bne_iff_ne.1 h8
         refine SEQ (REGION [0] rfl (RU 1 [] [(4, B false)] (by kernel_rfl) rfl (ENDOPS (NEXT (RET (PASS trivial (FIN (.bool false) (by kernel_rfl) () ?_ [] ?_)))))))
         · simp [RV, eqRules, *]
         · rfl
        ·
         have h8 := bh8
         have h8 := bneF h8
         refine SKIP (NEXT (SEQ (SEQ (REGION [0, 1, 2, 3, 4] rfl (RU 5 [] [(50, B (a.crew != b.crew))] (by kernel_rfl) rfl (ENDOPS (NEXT (IF (a.crew != b.crew) (by kernel_rfl) (fun bh9 => ?_) (fun bh9 => ?_)))))))))
         ·
          have h9 := bh9
          have h9 := bne_iff_ne.1 h9
          refine SEQ (REGION [0] rfl (RU 1 [] [(4, B false)] (by kernel_rfl) rfl (ENDOPS (NEXT (RET (PASS trivial (FIN (.bool false) (by kernel_rfl) () ?_ [] ?_)))))))
          · simp [RV, eqRules, *]
          · rfl
         ·
          have h9 := bh9
          have h9 := bneF h9
          refine SKIP (NEXT (SEQ (REGION [0] rfl (RU 1 [] [(4, B true)] (by kernel_rfl) rfl (ENDOPS (NEXT (RET (FIN (.bool true) (by kernel_rfl) () ?_ [] ?_))))))))
          · simp [RV, eqRules, *]
          · rfl

theorem eqParty_c (W : World) (a : Party) (b : Party) : Spec Tryz.prog W [] 63 #[.agg #[vi a.id, vi a.cabin, vi a.from', vi a.size, vi a.tier, vi a.since, vi a.turn, vi a.state, vi a.until', vi a.asked], .agg #[vi b.id, vi b.cabin, vi b.from', vi b.size, vi b.tier, vi b.since, vi b.turn, vi b.state, vi b.until', vi b.asked]] (RV (.bool (eqParty a b))) := by
 refine ENTER0 (N := 55) (vs := [.agg #[vi a.id, vi a.cabin, vi a.from', vi a.size, vi a.tier, vi a.since, vi a.turn, vi a.state, vi a.until', vi a.asked], .agg #[vi b.id, vi b.cabin, vi b.from', vi b.size, vi b.tier, vi b.since, vi b.turn, vi b.state, vi b.until', vi b.asked]]) Tryz.func63 rfl rfl (NL rfl) ?_
 refine SEQ (REGION [0, 1, 2] rfl (RUL 3 [] [(2, .p 0 0), (3, .p 1 0)] [(54, partyE a), (54, partyE b)] (by kernel_rfl) rfl (ENDOPS (NEXT (SEQ (SEQ (REGION [0, 1, 2, 3, 4] rfl (RU 5 [] [(9, B (a.id != b.id))] (by kernel_rfl) rfl (ENDOPS (NEXT (IF (a.id != b.id) (by kernel_rfl) (fun bh1 => ?_) (fun bh1 => ?_))))))))))))
 ·
  have h1 := bh1
  have h1 := bne_iff_ne.1 h1
  refine SEQ (REGION [0] rfl (RU 1 [] [(4, B false)] (by kernel_rfl) rfl (ENDOPS (NEXT (RET (PASS trivial (FIN (.bool false) (by kernel_rfl) () ?_ [] ?_)))))))
  · (first | (simp [RV, eqParty, *]; done) | (simp_all [RV, eqParty]; done))
  · rfl
 ·
  have h1 := bh1
  have h1 := bneF h1
  refine SKIP (NEXT (SEQ (SEQ (REGION [0, 1, 2, 3, 4] rfl (RU 5 [] [(14, B (a.cabin != b.cabin))] (by kernel_rfl) rfl (ENDOPS (NEXT (IF (a.cabin != b.cabin) (by kernel_rfl) (fun bh2 => ?_) (fun bh2 => ?_)))))))))
  ·
   have h2 := bh2
   have h2 := bne_iff_ne.1 h2
   refine SEQ (REGION [0] rfl (RU 1 [] [(4, B false)] (by kernel_rfl) rfl (ENDOPS (NEXT (RET (PASS trivial (FIN (.bool false) (by kernel_rfl) () ?_ [] ?_)))))))
   · (first | (simp [RV, eqParty, *]; done) | (simp_all [RV, eqParty]; done))
   · rfl
  ·
   have h2 := bh2
   have h2 := bneF h2
   refine SKIP (NEXT (SEQ (SEQ (REGION [0, 1, 2, 3, 4] rfl (RU 5 [] [(19, B (a.from' != b.from'))] (by kernel_rfl) rfl (ENDOPS (NEXT (IF (a.from' != b.from') (by kernel_rfl) (fun bh3 => ?_) (fun bh3 => ?_)))))))))
   ·
    have h3 := bh3
    have h3 := bne_iff_ne.1 h3
    refine SEQ (REGION [0] rfl (RU 1 [] [(4, B false)] (by kernel_rfl) rfl (ENDOPS (NEXT (RET (PASS trivial (FIN (.bool false) (by kernel_rfl) () ?_ [] ?_)))))))
    · (first | (simp [RV, eqParty, *]; done) | (simp_all [RV, eqParty]; done))
    · rfl
   ·
    have h3 := bh3
    have h3 := bneF h3
    refine SKIP (NEXT (SEQ (SEQ (REGION [0, 1, 2, 3, 4] rfl (RU 5 [] [(24, B (a.size != b.size))] (by kernel_rfl) rfl (ENDOPS (NEXT (IF (a.size != b.size) (by kernel_rfl) (fun bh4 => ?_) (fun bh4 => ?_)))))))))
    ·
     have h4 := bh4
     have h4 := bne_iff_ne.1 h4
     refine SEQ (REGION [0] rfl (RU 1 [] [(4, B false)] (by kernel_rfl) rfl (ENDOPS (NEXT (RET (PASS trivial (FIN (.bool false) (by kernel_rfl) () ?_ [] ?_)))))))
     · (first | (simp [RV, eqParty, *]; done) | (simp_all [RV, eqParty]; done))
     · rfl
    ·
     have h4 := bh4
     have h4 := bneF h4
     refine SKIP (NEXT (SEQ (SEQ (REGION [0, 1, 2, 3, 4] rfl (RU 5 [] [(29, B (a.tier != b.tier))] (by kernel_rfl) rfl (ENDOPS (NEXT (IF (a.tier != b.tier) (by kernel_rfl) (fun bh5 => ?_) (fun bh5 => ?_)))))))))
     ·
      have h5 := bh5
      have h5 := bne_iff_ne.1 h5
      refine SEQ (REGION [0] rfl (RU 1 [] [(4, B false)] (by kernel_rfl) rfl (ENDOPS (NEXT (RET (PASS trivial (FIN (.bool false) (by kernel_rfl) () ?_ [] ?_)))))))
      · (first | (simp [RV, eqParty, *]; done) | (simp_all [RV, eqParty]; done))
      · rfl
     ·
      have h5 := bh5
      have h5 := bneF h5
      refine SKIP (NEXT (SEQ (SEQ (REGION [0, 1, 2, 3, 4] rfl (RU 5 [] [(34, B (a.since != b.since))] (by kernel_rfl) rfl (ENDOPS (NEXT (IF (a.since != b.since) (by kernel_rfl) (fun bh6 => ?_) (fun bh6 => ?_)))))))))
      ·
       have h6 := bh6
       have h6 := bne_iff_ne.1 h6
       refine SEQ (REGION [0] rfl (RU 1 [] [(4, B false)] (by kernel_rfl) rfl (ENDOPS (NEXT (RET (PASS trivial (FIN (.bool false) (by kernel_rfl) () ?_ [] ?_)))))))
       · (first | (simp [RV, eqParty, *]; done) | (simp_all [RV, eqParty]; done))
       · rfl
      ·
       have h6 := bh6
       have h6 := bneF h6
       refine SKIP (NEXT (SEQ (SEQ (REGION [0, 1, 2, 3, 4] rfl (RU 5 [] [(39, B (a.turn != b.turn))] (by kernel_rfl) rfl (ENDOPS (NEXT (IF (a.turn != b.turn) (by kernel_rfl) (fun bh7 => ?_) (fun bh7 => ?_)))))))))
       ·
        have h7 := bh7
        have h7 := bne_iff_ne.1 h7
        refine SEQ (REGION [0] rfl (RU 1 [] [(4, B false)] (by kernel_rfl) rfl (ENDOPS (NEXT (RET (PASS trivial (FIN (.bool false) (by kernel_rfl) () ?_ [] ?_)))))))
        · (first | (simp [RV, eqParty, *]; done) | (simp_all [RV, eqParty]; done))
        · rfl
       ·
        have h7 := bh7
        have h7 := bneF h7
        refine SKIP (NEXT (SEQ (SEQ (REGION [0, 1, 2, 3, 4] rfl (RU 5 [] [(44, B (a.state != b.state))] (by kernel_rfl) rfl (ENDOPS (NEXT (IF (a.state != b.state) (by kernel_rfl) (fun bh8 => ?_) (fun bh8 => ?_)))))))))
        ·
         have h8 := bh8
         have h8 := bne_iff_ne.1 h8
         refine SEQ (REGION [0] rfl (RU 1 [] [(4, B false)] (by kernel_rfl) rfl (ENDOPS (NEXT (RET (PASS trivial (FIN (.bool false) (by kernel_rfl) () ?_ [] ?_)))))))
         · (first | (simp [RV, eqParty, *]; done) | (simp_all [RV, eqParty]; done))
         · rfl
        ·
         have h8 := bh8
         have h8 := bneF h8
         refine SKIP (NEXT (SEQ (SEQ (REGION [0, 1, 2, 3, 4] rfl (RU 5 [] [(49, B (a.until' != b.until'))] (by kernel_rfl) rfl (ENDOPS (NEXT (IF (a.until' != b.until') (by kernel_rfl) (fun bh9 => ?_) (fun bh9 => ?_)))))))))
         ·
          have h9 := bh9
          have h9 := bne_iff_ne.1 h9
          refine SEQ (REGION [0] rfl (RU 1 [] [(4, B false)] (by kernel_rfl) rfl (ENDOPS (NEXT (RET (PASS trivial (FIN (.bool false) (by kernel_rfl) () ?_ [] ?_)))))))
          · (first | (simp [RV, eqParty, *]; done) | (simp_all [RV, eqParty]; done))
          · rfl
         ·
          have h9 := bh9
          have h9 := bneF h9
          refine SKIP (NEXT (SEQ (SEQ (REGION [0, 1, 2, 3, 4] rfl (RU 5 [] [(54, B (a.asked != b.asked))] (by kernel_rfl) rfl (ENDOPS (NEXT (IF (a.asked != b.asked) (by kernel_rfl) (fun bh10 => ?_) (fun bh10 => ?_)))))))))
          ·
           have h10 := bh10
           have h10 := bne_iff_ne.1 h10
           refine SEQ (REGION [0] rfl (RU 1 [] [(4, B false)] (by kernel_rfl) rfl (ENDOPS (NEXT (RET (PASS trivial (FIN (.bool false) (by kernel_rfl) () ?_ [] ?_)))))))
           · (first | (simp [RV, eqParty, *]; done) | (simp_all [RV, eqParty]; done))
           · rfl
          ·
           have h10 := bh10
           have h10 := bneF h10
           refine SKIP (NEXT (SEQ (REGION [0] rfl (RU 1 [] [(4, B true)] (by kernel_rfl) rfl (ENDOPS (NEXT (RET (FIN (.bool true) (by kernel_rfl) () ?_ [] ?_))))))))
           · (first | (simp [RV, eqParty, *]; done) | (simp_all [RV, eqParty]; done))
           · rfl

theorem eqEntry_c (W : World) (a : Entry) (b : Entry) : Spec Tryz.prog W [] 149 #[.agg #[vi a.level, vi a.turn, vi a.id, vi a.size], .agg #[vi b.level, vi b.turn, vi b.id, vi b.size]] (RV (.bool (eqEntry a b))) := by
 refine ENTER0 (N := 25) (vs := [.agg #[vi a.level, vi a.turn, vi a.id, vi a.size], .agg #[vi b.level, vi b.turn, vi b.id, vi b.size]]) Tryz.func149 rfl rfl (NL rfl) ?_
 refine SEQ (REGION [0, 1, 2] rfl (RUL 3 [] [(2, .p 0 0), (3, .p 1 0)] [(114, entryE a), (114, entryE b)] (by kernel_rfl) rfl (ENDOPS (NEXT (SEQ (SEQ (REGION [0, 1, 2, 3, 4] rfl (RU 5 [] [(9, B (a.level != b.level))] (by kernel_rfl) rfl (ENDOPS (NEXT (IF (a.level != b.level) (by kernel_rfl) (fun bh1 => ?_) (fun bh1 => ?_))))))))))))
 ·
  have h1 := bh1
  have h1 := bne_iff_ne.1 h1
  refine SEQ (REGION [0] rfl (RU 1 [] [(4, B false)] (by kernel_rfl) rfl (ENDOPS (NEXT (RET (PASS trivial (FIN (.bool false) (by kernel_rfl) () ?_ [] ?_)))))))
  · (first | (simp [RV, eqEntry, *]; done) | (simp_all [RV, eqEntry]; done))
  · rfl
 ·
  have h1 := bh1
  have h1 := bneF h1
  refine SKIP (NEXT (SEQ (SEQ (REGION [0, 1, 2, 3, 4] rfl (RU 5 [] [(14, B (a.turn != b.turn))] (by kernel_rfl) rfl (ENDOPS (NEXT (IF (a.turn != b.turn) (by kernel_rfl) (fun bh2 => ?_) (fun bh2 => ?_)))))))))
  ·
   have h2 := bh2
   have h2 := bne_iff_ne.1 h2
   refine SEQ (REGION [0] rfl (RU 1 [] [(4, B false)] (by kernel_rfl) rfl (ENDOPS (NEXT (RET (PASS trivial (FIN (.bool false) (by kernel_rfl) () ?_ [] ?_)))))))
   · (first | (simp [RV, eqEntry, *]; done) | (simp_all [RV, eqEntry]; done))
   · rfl
  ·
   have h2 := bh2
   have h2 := bneF h2
   refine SKIP (NEXT (SEQ (SEQ (REGION [0, 1, 2, 3, 4] rfl (RU 5 [] [(19, B (a.id != b.id))] (by kernel_rfl) rfl (ENDOPS (NEXT (IF (a.id != b.id) (by kernel_rfl) (fun bh3 => ?_) (fun bh3 => ?_)))))))))
   ·
    have h3 := bh3
    have h3 := bne_iff_ne.1 h3
    refine SEQ (REGION [0] rfl (RU 1 [] [(4, B false)] (by kernel_rfl) rfl (ENDOPS (NEXT (RET (PASS trivial (FIN (.bool false) (by kernel_rfl) () ?_ [] ?_)))))))
    · (first | (simp [RV, eqEntry, *]; done) | (simp_all [RV, eqEntry]; done))
    · rfl
   ·
    have h3 := bh3
    have h3 := bneF h3
    refine SKIP (NEXT (SEQ (SEQ (REGION [0, 1, 2, 3, 4] rfl (RU 5 [] [(24, B (a.size != b.size))] (by kernel_rfl) rfl (ENDOPS (NEXT (IF (a.size != b.size) (by kernel_rfl) (fun bh4 => ?_) (fun bh4 => ?_)))))))))
    ·
     have h4 := bh4
     have h4 := bne_iff_ne.1 h4
     refine SEQ (REGION [0] rfl (RU 1 [] [(4, B false)] (by kernel_rfl) rfl (ENDOPS (NEXT (RET (PASS trivial (FIN (.bool false) (by kernel_rfl) () ?_ [] ?_)))))))
     · (first | (simp [RV, eqEntry, *]; done) | (simp_all [RV, eqEntry]; done))
     · rfl
    ·
     have h4 := bh4
     have h4 := bneF h4
     refine SKIP (NEXT (SEQ (REGION [0] rfl (RU 1 [] [(4, B true)] (by kernel_rfl) rfl (ENDOPS (NEXT (RET (FIN (.bool true) (by kernel_rfl) () ?_ [] ?_))))))))
     · (first | (simp [RV, eqEntry, *]; done) | (simp_all [RV, eqEntry]; done))
     · rfl

theorem eqPin_c (W : World) (a : Pin) (b : Pin) : Spec Tryz.prog W [] 215 #[.agg #[vi a.at', vi a.id], .agg #[vi b.at', vi b.id]] (RV (.bool (eqPin a b))) := by
 refine ENTER0 (N := 15) (vs := [.agg #[vi a.at', vi a.id], .agg #[vi b.at', vi b.id]]) Tryz.func215 rfl rfl (NL rfl) ?_
 refine SEQ (REGION [0, 1, 2] rfl (RUL 3 [] [(2, .p 0 0), (3, .p 1 0)] [(127, pinE a), (127, pinE b)] (by kernel_rfl) rfl (ENDOPS (NEXT (SEQ (SEQ (REGION [0, 1, 2, 3, 4] rfl (RU 5 [] [(9, B (a.at' != b.at'))] (by kernel_rfl) rfl (ENDOPS (NEXT (IF (a.at' != b.at') (by kernel_rfl) (fun bh1 => ?_) (fun bh1 => ?_))))))))))))
 ·
  have h1 := bh1
  have h1 := bne_iff_ne.1 h1
  refine SEQ (REGION [0] rfl (RU 1 [] [(4, B false)] (by kernel_rfl) rfl (ENDOPS (NEXT (RET (PASS trivial (FIN (.bool false) (by kernel_rfl) () ?_ [] ?_)))))))
  · (first | (simp [RV, eqPin, *]; done) | (simp_all [RV, eqPin]; done))
  · rfl
 ·
  have h1 := bh1
  have h1 := bneF h1
  refine SKIP (NEXT (SEQ (SEQ (REGION [0, 1, 2, 3, 4] rfl (RU 5 [] [(14, B (a.id != b.id))] (by kernel_rfl) rfl (ENDOPS (NEXT (IF (a.id != b.id) (by kernel_rfl) (fun bh2 => ?_) (fun bh2 => ?_)))))))))
  ·
   have h2 := bh2
   have h2 := bne_iff_ne.1 h2
   refine SEQ (REGION [0] rfl (RU 1 [] [(4, B false)] (by kernel_rfl) rfl (ENDOPS (NEXT (RET (PASS trivial (FIN (.bool false) (by kernel_rfl) () ?_ [] ?_)))))))
   · (first | (simp [RV, eqPin, *]; done) | (simp_all [RV, eqPin]; done))
   · rfl
  ·
   have h2 := bh2
   have h2 := bneF h2
   refine SKIP (NEXT (SEQ (REGION [0] rfl (RU 1 [] [(4, B true)] (by kernel_rfl) rfl (ENDOPS (NEXT (RET (FIN (.bool true) (by kernel_rfl) () ?_ [] ?_))))))))
   · (first | (simp [RV, eqPin, *]; done) | (simp_all [RV, eqPin]; done))
   · rfl

theorem eqLedger_c (W : World) (a : Ledger) (b : Ledger) : Spec Tryz.prog W [] 95 #[.agg #[vi a.total, vi a.free, vi a.held, vi a.sold, vi a.tied], .agg #[vi b.total, vi b.free, vi b.held, vi b.sold, vi b.tied]] (RV (.bool (eqLedger a b))) := by
 refine ENTER0 (N := 30) (vs := [.agg #[vi a.total, vi a.free, vi a.held, vi a.sold, vi a.tied], .agg #[vi b.total, vi b.free, vi b.held, vi b.sold, vi b.tied]]) Tryz.func95 rfl rfl (NL rfl) ?_
 refine SEQ (REGION [0, 1, 2] rfl (RUL 3 [] [(2, .p 0 0), (3, .p 1 0)] [(68, ledgerE a), (68, ledgerE b)] (by kernel_rfl) rfl (ENDOPS (NEXT (SEQ (SEQ (REGION [0, 1, 2, 3, 4] rfl (RU 5 [] [(9, B (a.total != b.total))] (by kernel_rfl) rfl (ENDOPS (NEXT (IF (a.total != b.total) (by kernel_rfl) (fun bh1 => ?_) (fun bh1 => ?_))))))))))))
 ·
  have h1 := bh1
  have h1 := bne_iff_ne.1 h1
  refine SEQ (REGION [0] rfl (RU 1 [] [(4, B false)] (by kernel_rfl) rfl (ENDOPS (NEXT (RET (PASS trivial (FIN (.bool false) (by kernel_rfl) () ?_ [] ?_)))))))
  · (first | (simp [RV, eqLedger, *]; done) | (simp_all [RV, eqLedger]; done))
  · rfl
 ·
  have h1 := bh1
  have h1 := bneF h1
  refine SKIP (NEXT (SEQ (SEQ (REGION [0, 1, 2, 3, 4] rfl (RU 5 [] [(14, B (a.free != b.free))] (by kernel_rfl) rfl (ENDOPS (NEXT (IF (a.free != b.free) (by kernel_rfl) (fun bh2 => ?_) (fun bh2 => ?_)))))))))
  ·
   have h2 := bh2
   have h2 := bne_iff_ne.1 h2
   refine SEQ (REGION [0] rfl (RU 1 [] [(4, B false)] (by kernel_rfl) rfl (ENDOPS (NEXT (RET (PASS trivial (FIN (.bool false) (by kernel_rfl) () ?_ [] ?_)))))))
   · (first | (simp [RV, eqLedger, *]; done) | (simp_all [RV, eqLedger]; done))
   · rfl
  ·
   have h2 := bh2
   have h2 := bneF h2
   refine SKIP (NEXT (SEQ (SEQ (REGION [0, 1, 2, 3, 4] rfl (RU 5 [] [(19, B (a.held != b.held))] (by kernel_rfl) rfl (ENDOPS (NEXT (IF (a.held != b.held) (by kernel_rfl) (fun bh3 => ?_) (fun bh3 => ?_)))))))))
   ·
    have h3 := bh3
    have h3 := bne_iff_ne.1 h3
    refine SEQ (REGION [0] rfl (RU 1 [] [(4, B false)] (by kernel_rfl) rfl (ENDOPS (NEXT (RET (PASS trivial (FIN (.bool false) (by kernel_rfl) () ?_ [] ?_)))))))
    · (first | (simp [RV, eqLedger, *]; done) | (simp_all [RV, eqLedger]; done))
    · rfl
   ·
    have h3 := bh3
    have h3 := bneF h3
    refine SKIP (NEXT (SEQ (SEQ (REGION [0, 1, 2, 3, 4] rfl (RU 5 [] [(24, B (a.sold != b.sold))] (by kernel_rfl) rfl (ENDOPS (NEXT (IF (a.sold != b.sold) (by kernel_rfl) (fun bh4 => ?_) (fun bh4 => ?_)))))))))
    ·
     have h4 := bh4
     have h4 := bne_iff_ne.1 h4
     refine SEQ (REGION [0] rfl (RU 1 [] [(4, B false)] (by kernel_rfl) rfl (ENDOPS (NEXT (RET (PASS trivial (FIN (.bool false) (by kernel_rfl) () ?_ [] ?_)))))))
     · (first | (simp [RV, eqLedger, *]; done) | (simp_all [RV, eqLedger]; done))
     · rfl
    ·
     have h4 := bh4
     have h4 := bneF h4
     refine SKIP (NEXT (SEQ (SEQ (REGION [0, 1, 2, 3, 4] rfl (RU 5 [] [(29, B (a.tied != b.tied))] (by kernel_rfl) rfl (ENDOPS (NEXT (IF (a.tied != b.tied) (by kernel_rfl) (fun bh5 => ?_) (fun bh5 => ?_)))))))))
     ·
      have h5 := bh5
      have h5 := bne_iff_ne.1 h5
      refine SEQ (REGION [0] rfl (RU 1 [] [(4, B false)] (by kernel_rfl) rfl (ENDOPS (NEXT (RET (PASS trivial (FIN (.bool false) (by kernel_rfl) () ?_ [] ?_)))))))
      · (first | (simp [RV, eqLedger, *]; done) | (simp_all [RV, eqLedger]; done))
      · rfl
     ·
      have h5 := bh5
      have h5 := bneF h5
      refine SKIP (NEXT (SEQ (REGION [0] rfl (RU 1 [] [(4, B true)] (by kernel_rfl) rfl (ENDOPS (NEXT (RET (FIN (.bool true) (by kernel_rfl) () ?_ [] ?_))))))))
      · (first | (simp [RV, eqLedger, *]; done) | (simp_all [RV, eqLedger]; done))
      · rfl

theorem eqPartyS_c (W : World) (a : List Party) (a_a : Option Addr) (a_c : Nat) (ha : Rd partyL W a_a a) (b : List Party) (b_a : Option Addr) (b_c : Nat) (hb : Rd partyL W b_a b) : Spec Tryz.prog W [] 36 #[.slice a_a a.length a_c, .slice b_a b.length b_c] (RV (.bool (eqL eqParty a b))) := by
 refine ENTER0 (N := 27) (vs := [.slice a_a a.length a_c, .slice b_a b.length b_c]) Tryz.func36 rfl rfl (NL rfl) ?_
 have ha_len := ha.len
 have hb_len := hb.len
 refine SEQ (REGION [0] rfl (RU 1 [] [] (by kernel_rfl) rfl (ENDOPS (NEXT (SEQ (SEQ (REGION [0, 1, 2, 3, 4] rfl (RU 5 [] [(10, B ((a.length : Int) != (b.length : Int)))] (by kernel_rfl) rfl (ENDOPS (NEXT (IF ((a.length : Int) != (b.length : Int)) (by kernel_rfl) (fun bh1 => ?_) (fun bh1 => ?_))))))))))))
 ·
  have h1 := bh1
  have h1 := bne_iff_ne.1 h1
  refine SEQ (REGION [0] rfl (RU 1 [] [(4, B false)] (by kernel_rfl) rfl (ENDOPS (NEXT (RET (PASS trivial (FIN (.bool false) (by kernel_rfl) () ?_ [] ?_)))))))
  · simp [RV, eqL_ne (f := eqParty) (a := a) (b := b) (by omega)]
  · rfl
 ·
  have h1 := bh1
  have h1 := bneF h1
  refine SKIP (NEXT (SEQ (SEQ (REGION [0] rfl (RU 1 [] [(5, I 0)] (by kernel_rfl) rfl (ENDOPS (NEXT (BLOCK (LOOP (ι := Nat × (List Party)) (fun j => [(0, .v (.slice a_a a.length a_c)), (1, .v (.slice b_a b.length b_c)), (5, I (j.1 : Int))]) (fun j => []) (fun j => []) (fun j => j.1 + j.2.length = a.length ∧ a.drop j.1 = j.2 ∧ eqL eqParty a b = eqL eqParty j.2 (b.drop j.1)) (fun j => j.2.length) (0, a) [0, 1, 5] ⟨by simp, rfl, rfl⟩ (by kernel_rfl) rfl rfl ?_)))))))))
  rintro ⟨k, ys⟩ ⟨hk, hd, hv0⟩
  try dsimp only at hk hd hv0
  refine SEQ (SEQ (REGION [0, 1, 2, 3] rfl (RU 4 [] [(14, B (decide ((k : Int) < (a.length : Int))))] (by kernel_rfl) rfl (ENDOPS (NEXT (IF (decide ((k : Int) < (a.length : Int))) (by kernel_rfl) (fun bh2 => ?_) (fun bh2 => ?_)))))))
  ·
   have h2 := bh2
   have h2 := of_decide_eq_true h2
   obtain ⟨y3, ys4, rfl, hx_y3, hd_y3, hl_y3⟩ := drop_cons hd hk (by omega)
   refine SKIP (NEXT (SEQ (BLOCK (SEQ (REGIONQ (by kernel_rfl) (by kernel_rfl) (QRU 2 0 2 [(17, .v (.slice a_a a.length a_c)), (18, I (k : Int))] (by kernel_rfl) rfl (QINDEX 32 (.tmp 17) (.tmp 18) 19 0 (by kernel_rfl) (NL rfl) a_a a.length a_c .i64 (k : Int) 54 10 (by kernel_rfl) (by kernel_rfl) (by kernel_rfl) (by kernel_rfl) (Rd.some ha (by omega)) (by omega) (by omega) (QLOADE 54 (.tmp 19) 20 54 (by kernel_rfl) (NL rfl) a_a (k * 10) 0 (partyE y3) (.agg (partyE y3).toArray) (by kernel_rfl) (fun w hw => (ha.fr hw.fr).flat hx_y3) (by kernel_rfl) (QRU 2 4 6 [(21, .v (.slice b_a b.length b_c)), (22, I (k : Int))] (by kernel_rfl) rfl ?_)))))))))
   obtain ⟨x5, hx6⟩ : ∃ y, b[k]? = some y := ⟨_, List.getElem?_eq_getElem (by omega)⟩
   refine QINDEX 32 (.tmp 21) (.tmp 22) 23 0 (by kernel_rfl) (NL rfl) b_a b.length b_c .i64 (k : Int) 54 10 (by kernel_rfl) (by kernel_rfl) (by kernel_rfl) (by kernel_rfl) (Rd.some hb (by omega)) (by omega) (by omega) (QLOADE 54 (.tmp 23) 24 54 (by kernel_rfl) (NL rfl) b_a (k * 10) 0 (partyE x5) (.agg (partyE x5).toArray) (by kernel_rfl) (fun w hw => (hb.fr hw.fr).flat hx6) (by kernel_rfl) (QCALL 63 #[.agg #[vi y3.id, vi y3.cabin, vi y3.from', vi y3.size, vi y3.tier, vi y3.since, vi y3.turn, vi y3.state, vi y3.until', vi y3.asked], .agg #[vi x5.id, vi x5.cabin, vi x5.from', vi x5.size, vi x5.tier, vi x5.since, vi x5.turn, vi x5.state, vi x5.until', vi x5.asked]] (some 25) (by kernel_rfl) (.bool (eqParty y3 x5)) (fun w hw => eqParty_c w y3 x5) (NO rfl) (QRU 1 9 10 [(26, B (!(eqParty y3 x5)))] (by kernel_rfl) rfl (QEND rfl (NEXT (IF (!(eqParty y3 x5)) (by kernel_rfl) (fun bh7 => ?_) (fun bh7 => ?_)))))))
   ·
    have h7 := bh7
    have h7 := notT h7
    refine SEQ (REGION [0] rfl (RU 1 [] [(4, B false)] (by kernel_rfl) rfl (ENDOPS (NEXT (RET (OUTR (PASS trivial (PASS trivial (OUTR (PASS trivial (FIN (.bool false) (by kernel_rfl) () ?_ [] ?_)))))))))))
    · simp [RV, hv0, drop_get ‹b[k]? = some _›, eqL, *]
    · rfl
   ·
    have h7 := bh7
    have h7 := notF h7
    refine SKIP (OUTN (NEXT (REGION [0, 1, 2] rfl (RU 2 [2] [(16, I (wr ((k : Int) + 1)))] (by kernel_rfl) rfl (CAST (d := 16) (vi (wr ((k : Int) + 1))) (vi ((k + 1 : Nat) : Int)) (by kernel_rfl) (vi_cast (by omega) (by omega)) (RU 1 [] [(5, I ((k + 1 : Nat) : Int))] (by kernel_rfl) rfl (ENDOPS (BACK (k + 1, ys4) [0, 1, 5] 0 [] _ ⟨hl_y3, hd_y3, hv0.trans (by simp [eqL, drop_get ‹b[k]? = some _›, *])⟩ (by simp) (by kernel_rfl) rfl rfl rfl))))))))
  ·
   have h2 := bh2
   have h2 := of_decide_eq_false h2
   obtain rfl := drop_nil hk (by omega)
   refine EXIT (PASS trivial (PASS trivial (OUT (NEXT (SEQ (REGION [0] rfl (RU 1 [] [(4, B true)] (by kernel_rfl) rfl (ENDOPS (NEXT (RET (FIN (.bool true) (by kernel_rfl) () ?_ [] ?_)))))))))))
   · simp [RV, hv0, eqL, List.drop_eq_nil_of_le (show b.length ≤ k by simp at hk; omega)]
   · rfl

theorem eqEntryS_c (W : World) (a : List Entry) (a_a : Option Addr) (a_c : Nat) (ha : Rd entryL W a_a a) (b : List Entry) (b_a : Option Addr) (b_c : Nat) (hb : Rd entryL W b_a b) : Spec Tryz.prog W [] 96 #[.slice a_a a.length a_c, .slice b_a b.length b_c] (RV (.bool (eqL eqEntry a b))) := by
 refine ENTER0 (N := 27) (vs := [.slice a_a a.length a_c, .slice b_a b.length b_c]) Tryz.func96 rfl rfl (NL rfl) ?_
 have ha_len := ha.len
 have hb_len := hb.len
 refine SEQ (REGION [0] rfl (RU 1 [] [] (by kernel_rfl) rfl (ENDOPS (NEXT (SEQ (SEQ (REGION [0, 1, 2, 3, 4] rfl (RU 5 [] [(10, B ((a.length : Int) != (b.length : Int)))] (by kernel_rfl) rfl (ENDOPS (NEXT (IF ((a.length : Int) != (b.length : Int)) (by kernel_rfl) (fun bh1 => ?_) (fun bh1 => ?_))))))))))))
 ·
  have h1 := bh1
  have h1 := bne_iff_ne.1 h1
  refine SEQ (REGION [0] rfl (RU 1 [] [(4, B false)] (by kernel_rfl) rfl (ENDOPS (NEXT (RET (PASS trivial (FIN (.bool false) (by kernel_rfl) () ?_ [] ?_)))))))
  · simp [RV, eqL_ne (f := eqEntry) (a := a) (b := b) (by omega)]
  · rfl
 ·
  have h1 := bh1
  have h1 := bneF h1
  refine SKIP (NEXT (SEQ (SEQ (REGION [0] rfl (RU 1 [] [(5, I 0)] (by kernel_rfl) rfl (ENDOPS (NEXT (BLOCK (LOOP (ι := Nat × (List Entry)) (fun j => [(0, .v (.slice a_a a.length a_c)), (1, .v (.slice b_a b.length b_c)), (5, I (j.1 : Int))]) (fun j => []) (fun j => []) (fun j => j.1 + j.2.length = a.length ∧ a.drop j.1 = j.2 ∧ eqL eqEntry a b = eqL eqEntry j.2 (b.drop j.1)) (fun j => j.2.length) (0, a) [0, 1, 5] ⟨by simp, rfl, rfl⟩ (by kernel_rfl) rfl rfl ?_)))))))))
  rintro ⟨k, ys⟩ ⟨hk, hd, hv0⟩
  try dsimp only at hk hd hv0
  refine SEQ (SEQ (REGION [0, 1, 2, 3] rfl (RU 4 [] [(14, B (decide ((k : Int) < (a.length : Int))))] (by kernel_rfl) rfl (ENDOPS (NEXT (IF (decide ((k : Int) < (a.length : Int))) (by kernel_rfl) (fun bh2 => ?_) (fun bh2 => ?_)))))))
  ·
   have h2 := bh2
   have h2 := of_decide_eq_true h2
   obtain ⟨y3, ys4, rfl, hx_y3, hd_y3, hl_y3⟩ := drop_cons hd hk (by omega)
   refine SKIP (NEXT (SEQ (BLOCK (SEQ (REGIONQ (by kernel_rfl) (by kernel_rfl) (QRU 2 0 2 [(17, .v (.slice a_a a.length a_c)), (18, I (k : Int))] (by kernel_rfl) rfl (QINDEX 69 (.tmp 17) (.tmp 18) 19 0 (by kernel_rfl) (NL rfl) a_a a.length a_c .i64 (k : Int) 114 4 (by kernel_rfl) (by kernel_rfl) (by kernel_rfl) (by kernel_rfl) (Rd.some ha (by omega)) (by omega) (by omega) (QLOADE 114 (.tmp 19) 20 114 (by kernel_rfl) (NL rfl) a_a (k * 4) 0 (entryE y3) (.agg (entryE y3).toArray) (by kernel_rfl) (fun w hw => (ha.fr hw.fr).flat hx_y3) (by kernel_rfl) (QRU 2 4 6 [(21, .v (.slice b_a b.length b_c)), (22, I (k : Int))] (by kernel_rfl) rfl ?_)))))))))
   obtain ⟨x5, hx6⟩ : ∃ y, b[k]? = some y := ⟨_, List.getElem?_eq_getElem (by omega)⟩
   refine QINDEX 69 (.tmp 21) (.tmp 22) 23 0 (by kernel_rfl) (NL rfl) b_a b.length b_c .i64 (k : Int) 114 4 (by kernel_rfl) (by kernel_rfl) (by kernel_rfl) (by kernel_rfl) (Rd.some hb (by omega)) (by omega) (by omega) (QLOADE 114 (.tmp 23) 24 114 (by kernel_rfl) (NL rfl) b_a (k * 4) 0 (entryE x5) (.agg (entryE x5).toArray) (by kernel_rfl) (fun w hw => (hb.fr hw.fr).flat hx6) (by kernel_rfl) (QCALL 149 #[.agg #[vi y3.level, vi y3.turn, vi y3.id, vi y3.size], .agg #[vi x5.level, vi x5.turn, vi x5.id, vi x5.size]] (some 25) (by kernel_rfl) (.bool (eqEntry y3 x5)) (fun w hw => eqEntry_c w y3 x5) (NO rfl) (QRU 1 9 10 [(26, B (!(eqEntry y3 x5)))] (by kernel_rfl) rfl (QEND rfl (NEXT (IF (!(eqEntry y3 x5)) (by kernel_rfl) (fun bh7 => ?_) (fun bh7 => ?_)))))))
   ·
    have h7 := bh7
    have h7 := notT h7
    refine SEQ (REGION [0] rfl (RU 1 [] [(4, B false)] (by kernel_rfl) rfl (ENDOPS (NEXT (RET (OUTR (PASS trivial (PASS trivial (OUTR (PASS trivial (FIN (.bool false) (by kernel_rfl) () ?_ [] ?_)))))))))))
    · simp [RV, hv0, drop_get ‹b[k]? = some _›, eqL, *]
    · rfl
   ·
    have h7 := bh7
    have h7 := notF h7
    refine SKIP (OUTN (NEXT (REGION [0, 1, 2] rfl (RU 2 [2] [(16, I (wr ((k : Int) + 1)))] (by kernel_rfl) rfl (CAST (d := 16) (vi (wr ((k : Int) + 1))) (vi ((k + 1 : Nat) : Int)) (by kernel_rfl) (vi_cast (by omega) (by omega)) (RU 1 [] [(5, I ((k + 1 : Nat) : Int))] (by kernel_rfl) rfl (ENDOPS (BACK (k + 1, ys4) [0, 1, 5] 0 [] _ ⟨hl_y3, hd_y3, hv0.trans (by simp [eqL, drop_get ‹b[k]? = some _›, *])⟩ (by simp) (by kernel_rfl) rfl rfl rfl))))))))
  ·
   have h2 := bh2
   have h2 := of_decide_eq_false h2
   obtain rfl := drop_nil hk (by omega)
   refine EXIT (PASS trivial (PASS trivial (OUT (NEXT (SEQ (REGION [0] rfl (RU 1 [] [(4, B true)] (by kernel_rfl) rfl (ENDOPS (NEXT (RET (FIN (.bool true) (by kernel_rfl) () ?_ [] ?_)))))))))))
   · simp [RV, hv0, eqL, List.drop_eq_nil_of_le (show b.length ≤ k by simp at hk; omega)]
   · rfl

theorem eqPinS_c (W : World) (a : List Pin) (a_a : Option Addr) (a_c : Nat) (ha : Rd pinL W a_a a) (b : List Pin) (b_a : Option Addr) (b_c : Nat) (hb : Rd pinL W b_a b) : Spec Tryz.prog W [] 196 #[.slice a_a a.length a_c, .slice b_a b.length b_c] (RV (.bool (eqL eqPin a b))) := by
 refine ENTER0 (N := 27) (vs := [.slice a_a a.length a_c, .slice b_a b.length b_c]) Tryz.func196 rfl rfl (NL rfl) ?_
 have ha_len := ha.len
 have hb_len := hb.len
 refine SEQ (REGION [0] rfl (RU 1 [] [] (by kernel_rfl) rfl (ENDOPS (NEXT (SEQ (SEQ (REGION [0, 1, 2, 3, 4] rfl (RU 5 [] [(10, B ((a.length : Int) != (b.length : Int)))] (by kernel_rfl) rfl (ENDOPS (NEXT (IF ((a.length : Int) != (b.length : Int)) (by kernel_rfl) (fun bh1 => ?_) (fun bh1 => ?_))))))))))))
 ·
  have h1 := bh1
  have h1 := bne_iff_ne.1 h1
  refine SEQ (REGION [0] rfl (RU 1 [] [(4, B false)] (by kernel_rfl) rfl (ENDOPS (NEXT (RET (PASS trivial (FIN (.bool false) (by kernel_rfl) () ?_ [] ?_)))))))
  · simp [RV, eqL_ne (f := eqPin) (a := a) (b := b) (by omega)]
  · rfl
 ·
  have h1 := bh1
  have h1 := bneF h1
  refine SKIP (NEXT (SEQ (SEQ (REGION [0] rfl (RU 1 [] [(5, I 0)] (by kernel_rfl) rfl (ENDOPS (NEXT (BLOCK (LOOP (ι := Nat × (List Pin)) (fun j => [(0, .v (.slice a_a a.length a_c)), (1, .v (.slice b_a b.length b_c)), (5, I (j.1 : Int))]) (fun j => []) (fun j => []) (fun j => j.1 + j.2.length = a.length ∧ a.drop j.1 = j.2 ∧ eqL eqPin a b = eqL eqPin j.2 (b.drop j.1)) (fun j => j.2.length) (0, a) [0, 1, 5] ⟨by simp, rfl, rfl⟩ (by kernel_rfl) rfl rfl ?_)))))))))
  rintro ⟨k, ys⟩ ⟨hk, hd, hv0⟩
  try dsimp only at hk hd hv0
  refine SEQ (SEQ (REGION [0, 1, 2, 3] rfl (RU 4 [] [(14, B (decide ((k : Int) < (a.length : Int))))] (by kernel_rfl) rfl (ENDOPS (NEXT (IF (decide ((k : Int) < (a.length : Int))) (by kernel_rfl) (fun bh2 => ?_) (fun bh2 => ?_)))))))
  ·
   have h2 := bh2
   have h2 := of_decide_eq_true h2
   obtain ⟨y3, ys4, rfl, hx_y3, hd_y3, hl_y3⟩ := drop_cons hd hk (by omega)
   refine SKIP (NEXT (SEQ (BLOCK (SEQ (REGIONQ (by kernel_rfl) (by kernel_rfl) (QRU 2 0 2 [(17, .v (.slice a_a a.length a_c)), (18, I (k : Int))] (by kernel_rfl) rfl (QINDEX 116 (.tmp 17) (.tmp 18) 19 0 (by kernel_rfl) (NL rfl) a_a a.length a_c .i64 (k : Int) 127 2 (by kernel_rfl) (by kernel_rfl) (by kernel_rfl) (by kernel_rfl) (Rd.some ha (by omega)) (by omega) (by omega) (QLOADE 127 (.tmp 19) 20 127 (by kernel_rfl) (NL rfl) a_a (k * 2) 0 (pinE y3) (.agg (pinE y3).toArray) (by kernel_rfl) (fun w hw => (ha.fr hw.fr).flat hx_y3) (by kernel_rfl) (QRU 2 4 6 [(21, .v (.slice b_a b.length b_c)), (22, I (k : Int))] (by kernel_rfl) rfl ?_)))))))))
   obtain ⟨x5, hx6⟩ : ∃ y, b[k]? = some y := ⟨_, List.getElem?_eq_getElem (by omega)⟩
   refine QINDEX 116 (.tmp 21) (.tmp 22) 23 0 (by kernel_rfl) (NL rfl) b_a b.length b_c .i64 (k : Int) 127 2 (by kernel_rfl) (by kernel_rfl) (by kernel_rfl) (by kernel_rfl) (Rd.some hb (by omega)) (by omega) (by omega) (QLOADE 127 (.tmp 23) 24 127 (by kernel_rfl) (NL rfl) b_a (k * 2) 0 (pinE x5) (.agg (pinE x5).toArray) (by kernel_rfl) (fun w hw => (hb.fr hw.fr).flat hx6) (by kernel_rfl) (QCALL 215 #[.agg #[vi y3.at', vi y3.id], .agg #[vi x5.at', vi x5.id]] (some 25) (by kernel_rfl) (.bool (eqPin y3 x5)) (fun w hw => eqPin_c w y3 x5) (NO rfl) (QRU 1 9 10 [(26, B (!(eqPin y3 x5)))] (by kernel_rfl) rfl (QEND rfl (NEXT (IF (!(eqPin y3 x5)) (by kernel_rfl) (fun bh7 => ?_) (fun bh7 => ?_)))))))
   ·
    have h7 := bh7
    have h7 := notT h7
    refine SEQ (REGION [0] rfl (RU 1 [] [(4, B false)] (by kernel_rfl) rfl (ENDOPS (NEXT (RET (OUTR (PASS trivial (PASS trivial (OUTR (PASS trivial (FIN (.bool false) (by kernel_rfl) () ?_ [] ?_)))))))))))
    · simp [RV, hv0, drop_get ‹b[k]? = some _›, eqL, *]
    · rfl
   ·
    have h7 := bh7
    have h7 := notF h7
    refine SKIP (OUTN (NEXT (REGION [0, 1, 2] rfl (RU 2 [2] [(16, I (wr ((k : Int) + 1)))] (by kernel_rfl) rfl (CAST (d := 16) (vi (wr ((k : Int) + 1))) (vi ((k + 1 : Nat) : Int)) (by kernel_rfl) (vi_cast (by omega) (by omega)) (RU 1 [] [(5, I ((k + 1 : Nat) : Int))] (by kernel_rfl) rfl (ENDOPS (BACK (k + 1, ys4) [0, 1, 5] 0 [] _ ⟨hl_y3, hd_y3, hv0.trans (by simp [eqL, drop_get ‹b[k]? = some _›, *])⟩ (by simp) (by kernel_rfl) rfl rfl rfl))))))))
  ·
   have h2 := bh2
   have h2 := of_decide_eq_false h2
   obtain rfl := drop_nil hk (by omega)
   refine EXIT (PASS trivial (PASS trivial (OUT (NEXT (SEQ (REGION [0] rfl (RU 1 [] [(4, B true)] (by kernel_rfl) rfl (ENDOPS (NEXT (RET (FIN (.bool true) (by kernel_rfl) () ?_ [] ?_)))))))))))
   · simp [RV, hv0, eqL, List.drop_eq_nil_of_le (show b.length ≤ k by simp at hk; omega)]
   · rfl

theorem eqPinSS_c (W : World) (a : List (List Pin)) (a_a : Option Addr) (a_c : Nat) (ha : Rd (sl 127 pinL) W a_a a) (b : List (List Pin)) (b_a : Option Addr) (b_c : Nat) (hb : Rd (sl 127 pinL) W b_a b) : Spec Tryz.prog W [] 150 #[.slice a_a a.length a_c, .slice b_a b.length b_c] (RV (.bool (eqL (eqL eqPin) a b))) := by
 refine ENTER0 (N := 27) (vs := [.slice a_a a.length a_c, .slice b_a b.length b_c]) Tryz.func150 rfl rfl (NL rfl) ?_
 have ha_len := ha.len
 have hb_len := hb.len
 refine SEQ (REGION [0] rfl (RU 1 [] [] (by kernel_rfl) rfl (ENDOPS (NEXT (SEQ (SEQ (REGION [0, 1, 2, 3, 4] rfl (RU 5 [] [(10, B ((a.length : Int) != (b.length : Int)))] (by kernel_rfl) rfl (ENDOPS (NEXT (IF ((a.length : Int) != (b.length : Int)) (by kernel_rfl) (fun bh1 => ?_) (fun bh1 => ?_))))))))))))
 ·
  have h1 := bh1
  have h1 := bne_iff_ne.1 h1
  refine SEQ (REGION [0] rfl (RU 1 [] [(4, B false)] (by kernel_rfl) rfl (ENDOPS (NEXT (RET (PASS trivial (FIN (.bool false) (by kernel_rfl) () ?_ [] ?_)))))))
  · simp [RV, eqL_ne (f := (eqL eqPin)) (a := a) (b := b) (by omega)]
  · rfl
 ·
  have h1 := bh1
  have h1 := bneF h1
  refine SKIP (NEXT (SEQ (SEQ (REGION [0] rfl (RU 1 [] [(5, I 0)] (by kernel_rfl) rfl (ENDOPS (NEXT (BLOCK (LOOP (ι := Nat × (List (List Pin))) (fun j => [(0, .v (.slice a_a a.length a_c)), (1, .v (.slice b_a b.length b_c)), (5, I (j.1 : Int))]) (fun j => []) (fun j => []) (fun j => j.1 + j.2.length = a.length ∧ a.drop j.1 = j.2 ∧ eqL (eqL eqPin) a b = eqL (eqL eqPin) j.2 (b.drop j.1)) (fun j => j.2.length) (0, a) [0, 1, 5] ⟨by simp, rfl, rfl⟩ (by kernel_rfl) rfl rfl ?_)))))))))
  rintro ⟨k, ys⟩ ⟨hk, hd, hv0⟩
  try dsimp only at hk hd hv0
  refine SEQ (SEQ (REGION [0, 1, 2, 3] rfl (RU 4 [] [(14, B (decide ((k : Int) < (a.length : Int))))] (by kernel_rfl) rfl (ENDOPS (NEXT (IF (decide ((k : Int) < (a.length : Int))) (by kernel_rfl) (fun bh2 => ?_) (fun bh2 => ?_)))))))
  ·
   have h2 := bh2
   have h2 := of_decide_eq_true h2
   obtain ⟨y3, ys4, rfl, hx_y3, hd_y3, hl_y3⟩ := drop_cons hd hk (by omega)
   refine SKIP (NEXT (SEQ (BLOCK (SEQ (REGIONQ (by kernel_rfl) (by kernel_rfl) (QRU 2 0 2 [(17, .v (.slice a_a a.length a_c)), (18, I (k : Int))] (by kernel_rfl) rfl ?_))))))
   obtain ⟨a5, c6, hel8, hi7, hi7_cap⟩ := sl_view ha hx_y3
   have hi7_len := hi7.len
   refine QINDEX 70 (.tmp 17) (.tmp 18) 19 0 (by kernel_rfl) (NL rfl) a_a a.length a_c .i64 (k : Int) 116 1 (by kernel_rfl) (by kernel_rfl) (by kernel_rfl) (by kernel_rfl) (Rd.some ha (by omega)) (by omega) (by omega) (QLOADE 116 (.tmp 19) 20 116 (by kernel_rfl) (NL rfl) a_a (k * 1) 0 ([.slice a5 y3.length c6]) (.slice a5 y3.length c6) (by kernel_rfl) (fun w hw => hel8.fr hw.fr) (by kernel_rfl) (QRU 2 4 6 [(21, .v (.slice b_a b.length b_c)), (22, I (k : Int))] (by kernel_rfl) rfl ?_))
   obtain ⟨x9, hx10⟩ : ∃ y, b[k]? = some y := ⟨_, List.getElem?_eq_getElem (by omega)⟩
   obtain ⟨a11, c12, hel14, hi13, hi13_cap⟩ := sl_view hb hx10
   have hi13_len := hi13.len
   refine QINDEX 70 (.tmp 21) (.tmp 22) 23 0 (by kernel_rfl) (NL rfl) b_a b.length b_c .i64 (k : Int) 116 1 (by kernel_rfl) (by kernel_rfl) (by kernel_rfl) (by kernel_rfl) (Rd.some hb (by omega)) (by omega) (by omega) (QLOADE 116 (.tmp 23) 24 116 (by kernel_rfl) (NL rfl) b_a (k * 1) 0 ([.slice a11 x9.length c12]) (.slice a11 x9.length c12) (by kernel_rfl) (fun w hw => hel14.fr hw.fr) (by kernel_rfl) (QCALL 196 #[.slice a5 y3.length c6, .slice a11 x9.length c12] (some 25) (by kernel_rfl) (.bool (eqL eqPin y3 x9)) (fun w hw => eqPinS_c w y3 a5 c6 (hi7.fr hw.fr) x9 a11 c12 (hi13.fr hw.fr)) (NO rfl) (QRU 1 9 10 [(26, B (!(eqL eqPin y3 x9)))] (by kernel_rfl) rfl (QEND rfl (NEXT (IF (!(eqL eqPin y3 x9)) (by kernel_rfl) (fun bh15 => ?_) (fun bh15 => ?_)))))))
   ·
    have h15 := bh15
    have h15 := notT h15
    refine SEQ (REGION [0] rfl (RU 1 [] [(4, B false)] (by kernel_rfl) rfl (ENDOPS (NEXT (RET (OUTR (PASS trivial (PASS trivial (OUTR (PASS trivial (FIN (.bool false) (by kernel_rfl) () ?_ [] ?_)))))))))))
    · simp [RV, hv0, drop_get ‹b[k]? = some _›, eqL, *]
    · rfl
   ·
    have h15 := bh15
    have h15 := notF h15
    refine SKIP (OUTN (NEXT (REGION [0, 1, 2] rfl (RU 2 [2] [(16, I (wr ((k : Int) + 1)))] (by kernel_rfl) rfl (CAST (d := 16) (vi (wr ((k : Int) + 1))) (vi ((k + 1 : Nat) : Int)) (by kernel_rfl) (vi_cast (by omega) (by omega)) (RU 1 [] [(5, I ((k + 1 : Nat) : Int))] (by kernel_rfl) rfl (ENDOPS (BACK (k + 1, ys4) [0, 1, 5] 0 [] _ ⟨hl_y3, hd_y3, hv0.trans (by simp [eqL, drop_get ‹b[k]? = some _›, *])⟩ (by simp) (by kernel_rfl) rfl rfl rfl))))))))
  ·
   have h2 := bh2
   have h2 := of_decide_eq_false h2
   obtain rfl := drop_nil hk (by omega)
   refine EXIT (PASS trivial (PASS trivial (OUT (NEXT (SEQ (REGION [0] rfl (RU 1 [] [(4, B true)] (by kernel_rfl) rfl (ENDOPS (NEXT (RET (FIN (.bool true) (by kernel_rfl) () ?_ [] ?_)))))))))))
   · simp [RV, hv0, eqL, List.drop_eq_nil_of_le (show b.length ≤ k by simp at hk; omega)]
   · rfl

theorem eqWheel_c (W : World) (a : Wheel) (a_spoke_a : Option Addr) (a_spoke_c : Nat) (ha_spoke : Rd (sl 127 pinL) W a_spoke_a a.spoke) (b : Wheel) (b_spoke_a : Option Addr) (b_spoke_c : Nat) (hb_spoke : Rd (sl 127 pinL) W b_spoke_a b.spoke) : Spec Tryz.prog W [] 97 #[.agg #[.slice a_spoke_a a.spoke.length a_spoke_c], .agg #[.slice b_spoke_a b.spoke.length b_spoke_c]] (RV (.bool (eqL (eqL eqPin) (a).spoke (b).spoke))) := by
 refine ENTER0 (N := 11) (vs := [.agg #[.slice a_spoke_a a.spoke.length a_spoke_c], .agg #[.slice b_spoke_a b.spoke.length b_spoke_c]]) Tryz.func97 rfl rfl (NL rfl) ?_
 have ha_spoke_len := ha_spoke.len
 have hb_spoke_len := hb_spoke.len
 refine SEQ (REGION [0, 1, 2] rfl (RUL 3 [] [(2, .p 0 0), (3, .p 1 0)] [(72, [.slice a_spoke_a a.spoke.length a_spoke_c]), (72, [.slice b_spoke_a b.spoke.length b_spoke_c])] (by kernel_rfl) rfl (ENDOPS (NEXT (SEQ (SEQ (REGION [0, 1, 2, 3, 4, 5] rfl (RU 4 [4, 5] [(6, .v (.slice a_spoke_a a.spoke.length a_spoke_c)), (8, .v (.slice b_spoke_a b.spoke.length b_spoke_c))] (by kernel_rfl) rfl (OPC (CALL 150 #[.slice a_spoke_a a.spoke.length a_spoke_c, .slice b_spoke_a b.spoke.length b_spoke_c] (some 9) (by kernel_rfl) [] [] _ rfl (RV (.bool (eqL (eqL eqPin) a.spoke b.spoke))) (fun w hw => eqPinSS_c w a.spoke a_spoke_a a_spoke_c (ha_spoke.fr hw.fr) b.spoke b_spoke_a b_spoke_c (hb_spoke.fr hw.fr)) (NO rfl) ?_))))))))))
 rintro ⟨⟩
 refine RU 1 [] [(10, B (!(eqL (eqL eqPin) a.spoke b.spoke)))] (by kernel_rfl) rfl (ENDOPS (NEXT (IF (!(eqL (eqL eqPin) a.spoke b.spoke)) (by kernel_rfl) (fun bh1 => ?_) (fun bh1 => ?_))))
 ·
  have h1 := bh1
  have h1 := notT h1
  refine SEQ (REGION [0] rfl (RU 1 [] [(4, B false)] (by kernel_rfl) rfl (ENDOPS (NEXT (RET (PASS trivial (FIN (.bool false) (by kernel_rfl) () ?_ [] ?_)))))))
  · (first | (simp [RV, eqL, *]; done) | (simp_all [RV, eqL]; done))
  · rfl
 ·
  have h1 := bh1
  have h1 := notF h1
  refine SKIP (NEXT (SEQ (REGION [0] rfl (RU 1 [] [(4, B true)] (by kernel_rfl) rfl (ENDOPS (NEXT (RET (FIN (.bool true) (by kernel_rfl) () ?_ [] ?_))))))))
  · (first | (simp [RV, eqL, *]; done) | (simp_all [RV, eqL]; done))
  · rfl

theorem eqCabin_c (W : World) (a : Cabin) (a_row_a : Option Addr) (a_row_c : Nat) (ha_row : Rd entryL W a_row_a a.row) (a_wheel_spoke_a : Option Addr) (a_wheel_spoke_c : Nat) (ha_wheel_spoke : Rd (sl 127 pinL) W a_wheel_spoke_a a.wheel.spoke) (b : Cabin) (b_row_a : Option Addr) (b_row_c : Nat) (hb_row : Rd entryL W b_row_a b.row) (b_wheel_spoke_a : Option Addr) (b_wheel_spoke_c : Nat) (hb_wheel_spoke : Rd (sl 127 pinL) W b_wheel_spoke_a b.wheel.spoke) : Spec Tryz.prog W [] 64 #[.agg #[vi a.seats.total, vi a.seats.free, vi a.seats.held, vi a.seats.sold, vi a.seats.tied, .slice a_row_a a.row.length a_row_c, .slice a_wheel_spoke_a a.wheel.spoke.length a_wheel_spoke_c], .agg #[vi b.seats.total, vi b.seats.free, vi b.seats.held, vi b.seats.sold, vi b.seats.tied, .slice b_row_a b.row.length b_row_c, .slice b_wheel_spoke_a b.wheel.spoke.length b_wheel_spoke_c]] (RV (.bool (eqCabin a b))) := by
 refine ENTER0 (N := 23) (vs := [.agg #[vi a.seats.total, vi a.seats.free, vi a.seats.held, vi a.seats.sold, vi a.seats.tied, .slice a_row_a a.row.length a_row_c, .slice a_wheel_spoke_a a.wheel.spoke.length a_wheel_spoke_c], .agg #[vi b.seats.total, vi b.seats.free, vi b.seats.held, vi b.seats.sold, vi b.seats.tied, .slice b_row_a b.row.length b_row_c, .slice b_wheel_spoke_a b.wheel.spoke.length b_wheel_spoke_c]]) Tryz.func64 rfl rfl (NL rfl) ?_
 have ha_row_len := ha_row.len
 have ha_wheel_spoke_len := ha_wheel_spoke.len
 have hb_row_len := hb_row.len
 have hb_wheel_spoke_len := hb_wheel_spoke.len
 refine SEQ (REGION [0, 1, 2] rfl (RUL 3 [] [(2, .p 0 0), (3, .p 1 0)] [(74, [vi a.seats.total, vi a.seats.free, vi a.seats.held, vi a.seats.sold, vi a.seats.tied, .slice a_row_a a.row.length a_row_c, .slice a_wheel_spoke_a a.wheel.spoke.length a_wheel_spoke_c]), (74, [vi b.seats.total, vi b.seats.free, vi b.seats.held, vi b.seats.sold, vi b.seats.tied, .slice b_row_a b.row.length b_row_c, .slice b_wheel_spoke_a b.wheel.spoke.length b_wheel_spoke_c])] (by kernel_rfl) rfl (ENDOPS (NEXT (SEQ (SEQ (REGION [0, 1, 2, 3, 4, 5] rfl (RU 4 [4, 5] [(6, .v (.agg (ledgerE a.seats).toArray)), (8, .v (.agg (ledgerE b.seats).toArray))] (by kernel_rfl) rfl (OPC (CALL 95 #[.agg #[vi a.seats.total, vi a.seats.free, vi a.seats.held, vi a.seats.sold, vi a.seats.tied], .agg #[vi b.seats.total, vi b.seats.free, vi b.seats.held, vi b.seats.sold, vi b.seats.tied]] (some 9) (by kernel_rfl) [] [] _ rfl (RV (.bool (eqLedger a.seats b.seats))) (fun w hw => eqLedger_c w a.seats b.seats) (NO rfl) ?_))))))))))
 rintro ⟨⟩
 refine RU 1 [] [(10, B (!(eqLedger a.seats b.seats)))] (by kernel_rfl) rfl (ENDOPS (NEXT (IF (!(eqLedger a.seats b.seats)) (by kernel_rfl) (fun bh1 => ?_) (fun bh1 => ?_))))
 ·
  have h1 := bh1
  have h1 := notT h1
  refine SEQ (REGION [0] rfl (RU 1 [] [(4, B false)] (by kernel_rfl) rfl (ENDOPS (NEXT (RET (PASS trivial (FIN (.bool false) (by kernel_rfl) () ?_ [] ?_)))))))
  · (first | (simp [RV, eqCabin, *]; done) | (simp_all [RV, eqCabin]; done))
  · rfl
 ·
  have h1 := bh1
  have h1 := notF h1
  refine SKIP (NEXT (SEQ (SEQ (REGION [0, 1, 2, 3, 4, 5] rfl (RU 4 [4, 5] [(12, .v (.slice a_row_a a.row.length a_row_c)), (14, .v (.slice b_row_a b.row.length b_row_c))] (by kernel_rfl) rfl (OPC (CALL 96 #[.slice a_row_a a.row.length a_row_c, .slice b_row_a b.row.length b_row_c] (some 15) (by kernel_rfl) [] [] _ rfl (RV (.bool (eqL eqEntry a.row b.row))) (fun w hw => eqEntryS_c w a.row a_row_a a_row_c (ha_row.fr hw.fr) b.row b_row_a b_row_c (hb_row.fr hw.fr)) (NO rfl) ?_)))))))
  rintro ⟨⟩
  refine RU 1 [] [(16, B (!(eqL eqEntry a.row b.row)))] (by kernel_rfl) rfl (ENDOPS (NEXT (IF (!(eqL eqEntry a.row b.row)) (by kernel_rfl) (fun bh2 => ?_) (fun bh2 => ?_))))
  ·
   have h2 := bh2
   have h2 := notT h2
   refine SEQ (REGION [0] rfl (RU 1 [] [(4, B false)] (by kernel_rfl) rfl (ENDOPS (NEXT (RET (PASS trivial (FIN (.bool false) (by kernel_rfl) () ?_ [] ?_)))))))
   · (first | (simp [RV, eqCabin, *]; done) | (simp_all [RV, eqCabin]; done))
   · rfl
  ·
   have h2 := bh2
   have h2 := notF h2
   refine SKIP (NEXT (SEQ (SEQ (REGION [0, 1, 2, 3, 4, 5] rfl (RU 4 [4, 5] [(18, .v (.agg #[.slice a_wheel_spoke_a a.wheel.spoke.length a_wheel_spoke_c])), (20, .v (.agg #[.slice b_wheel_spoke_a b.wheel.spoke.length b_wheel_spoke_c]))] (by kernel_rfl) rfl (OPC (CALL 97 #[.agg #[.slice a_wheel_spoke_a a.wheel.spoke.length a_wheel_spoke_c], .agg #[.slice b_wheel_spoke_a b.wheel.spoke.length b_wheel_spoke_c]] (some 21) (by kernel_rfl) [] [] _ rfl (RV (.bool (eqL (eqL eqPin) (a.wheel).spoke (b.wheel).spoke))) (fun w hw => eqWheel_c w a.wheel a_wheel_spoke_a a_wheel_spoke_c (ha_wheel_spoke.fr hw.fr) b.wheel b_wheel_spoke_a b_wheel_spoke_c (hb_wheel_spoke.fr hw.fr)) (NO rfl) ?_)))))))
   rintro ⟨⟩
   refine RU 1 [] [(22, B (!(eqL (eqL eqPin) (a.wheel).spoke (b.wheel).spoke)))] (by kernel_rfl) rfl (ENDOPS (NEXT (IF (!(eqL (eqL eqPin) (a.wheel).spoke (b.wheel).spoke)) (by kernel_rfl) (fun bh3 => ?_) (fun bh3 => ?_))))
   ·
    have h3 := bh3
    have h3 := notT h3
    refine SEQ (REGION [0] rfl (RU 1 [] [(4, B false)] (by kernel_rfl) rfl (ENDOPS (NEXT (RET (PASS trivial (FIN (.bool false) (by kernel_rfl) () ?_ [] ?_)))))))
    · (first | (simp [RV, eqCabin, *]; done) | (simp_all [RV, eqCabin]; done))
    · rfl
   ·
    have h3 := bh3
    have h3 := notF h3
    refine SKIP (NEXT (SEQ (REGION [0] rfl (RU 1 [] [(4, B true)] (by kernel_rfl) rfl (ENDOPS (NEXT (RET (FIN (.bool true) (by kernel_rfl) () ?_ [] ?_))))))))
    · (first | (simp [RV, eqCabin, *]; done) | (simp_all [RV, eqCabin]; done))
    · rfl

theorem eqCabinS_c (W : World) (a : List Cabin) (a_a : Option Addr) (a_c : Nat) (ha : Rd (cabinLx 114 116 127) W a_a a) (b : List Cabin) (b_a : Option Addr) (b_c : Nat) (hb : Rd (cabinLx 114 116 127) W b_a b) : Spec Tryz.prog W [] 37 #[.slice a_a a.length a_c, .slice b_a b.length b_c] (RV (.bool (eqL eqCabin a b))) := by
 refine ENTER0 (N := 27) (vs := [.slice a_a a.length a_c, .slice b_a b.length b_c]) Tryz.func37 rfl rfl (NL rfl) ?_
 have ha_len := ha.len
 have hb_len := hb.len
 refine SEQ (REGION [0] rfl (RU 1 [] [] (by kernel_rfl) rfl (ENDOPS (NEXT (SEQ (SEQ (REGION [0, 1, 2, 3, 4] rfl (RU 5 [] [(10, B ((a.length : Int) != (b.length : Int)))] (by kernel_rfl) rfl (ENDOPS (NEXT (IF ((a.length : Int) != (b.length : Int)) (by kernel_rfl) (fun bh1 => ?_) (fun bh1 => ?_))))))))))))
 ·
  have h1 := bh1
  have h1 := bne_iff_ne.1 h1
  refine SEQ (REGION [0] rfl (RU 1 [] [(4, B false)] (by kernel_rfl) rfl (ENDOPS (NEXT (RET (PASS trivial (FIN (.bool false) (by kernel_rfl) () ?_ [] ?_)))))))
  · simp [RV, eqL_ne (f := eqCabin) (a := a) (b := b) (by omega)]
  · rfl
 ·
  have h1 := bh1
  have h1 := bneF h1
  refine SKIP (NEXT (SEQ (SEQ (REGION [0] rfl (RU 1 [] [(5, I 0)] (by kernel_rfl) rfl (ENDOPS (NEXT (BLOCK (LOOP (ι := Nat × (List Cabin)) (fun j => [(0, .v (.slice a_a a.length a_c)), (1, .v (.slice b_a b.length b_c)), (5, I (j.1 : Int))]) (fun j => []) (fun j => []) (fun j => j.1 + j.2.length = a.length ∧ a.drop j.1 = j.2 ∧ eqL eqCabin a b = eqL eqCabin j.2 (b.drop j.1)) (fun j => j.2.length) (0, a) [0, 1, 5] ⟨by simp, rfl, rfl⟩ (by kernel_rfl) rfl rfl ?_)))))))))
  rintro ⟨k, ys⟩ ⟨hk, hd, hv0⟩
  try dsimp only at hk hd hv0
  refine SEQ (SEQ (REGION [0, 1, 2, 3] rfl (RU 4 [] [(14, B (decide ((k : Int) < (a.length : Int))))] (by kernel_rfl) rfl (ENDOPS (NEXT (IF (decide ((k : Int) < (a.length : Int))) (by kernel_rfl) (fun bh2 => ?_) (fun bh2 => ?_)))))))
  ·
   have h2 := bh2
   have h2 := of_decide_eq_true h2
   obtain ⟨y3, ys4, rfl, hx_y3, hd_y3, hl_y3⟩ := drop_cons hd hk (by omega)
   refine SKIP (NEXT (SEQ (BLOCK (SEQ (REGIONQ (by kernel_rfl) (by kernel_rfl) (QRU 2 0 2 [(17, .v (.slice a_a a.length a_c)), (18, I (k : Int))] (by kernel_rfl) rfl ?_))))))
   obtain ⟨a5, c6, a8, c9, hel11, hi7, hi10, hi7_cap, hi10_cap⟩ := cabin_view ha hx_y3
   have hi7_len := hi7.len
   have hi10_len := hi10.len
   refine QINDEX 33 (.tmp 17) (.tmp 18) 19 0 (by kernel_rfl) (NL rfl) a_a a.length a_c .i64 (k : Int) 74 7 (by kernel_rfl) (by kernel_rfl) (by kernel_rfl) (by kernel_rfl) (Rd.some ha (by omega)) (by omega) (by omega) (QLOADE 74 (.tmp 19) 20 74 (by kernel_rfl) (NL rfl) a_a (k * 7) 0 ([vi y3.seats.total, vi y3.seats.free, vi y3.seats.held, vi y3.seats.sold, vi y3.seats.tied, .slice a5 y3.row.length c6, .slice a8 y3.wheel.spoke.length c9]) (.agg #[vi y3.seats.total, vi y3.seats.free, vi y3.seats.held, vi y3.seats.sold, vi y3.seats.tied, .slice a5 y3.row.length c6, .slice a8 y3.wheel.spoke.length c9]) (by kernel_rfl) (fun w hw => hel11.fr hw.fr) (by kernel_rfl) (QRU 2 4 6 [(21, .v (.slice b_a b.length b_c)), (22, I (k : Int))] (by kernel_rfl) rfl ?_))
   obtain ⟨x12, hx13⟩ : ∃ y, b[k]? = some y := ⟨_, List.getElem?_eq_getElem (by omega)⟩
   obtain ⟨a14, c15, a17, c18, hel20, hi16, hi19, hi16_cap, hi19_cap⟩ := cabin_view hb hx13
   have hi16_len := hi16.len
   have hi19_len := hi19.len
   refine QINDEX 33 (.tmp 21) (.tmp 22) 23 0 (by kernel_rfl) (NL rfl) b_a b.length b_c .i64 (k : Int) 74 7 (by kernel_rfl) (by kernel_rfl) (by kernel_rfl) (by kernel_rfl) (Rd.some hb (by omega)) (by omega) (by omega) (QLOADE 74 (.tmp 23) 24 74 (by kernel_rfl) (NL rfl) b_a (k * 7) 0 ([vi x12.seats.total, vi x12.seats.free, vi x12.seats.held, vi x12.seats.sold, vi x12.seats.tied, .slice a14 x12.row.length c15, .slice a17 x12.wheel.spoke.length c18]) (.agg #[vi x12.seats.total, vi x12.seats.free, vi x12.seats.held, vi x12.seats.sold, vi x12.seats.tied, .slice a14 x12.row.length c15, .slice a17 x12.wheel.spoke.length c18]) (by kernel_rfl) (fun w hw => hel20.fr hw.fr) (by kernel_rfl) (QCALL 64 #[.agg #[vi y3.seats.total, vi y3.seats.free, vi y3.seats.held, vi y3.seats.sold, vi y3.seats.tied, .slice a5 y3.row.length c6, .slice a8 y3.wheel.spoke.length c9], .agg #[vi x12.seats.total, vi x12.seats.free, vi x12.seats.held, vi x12.seats.sold, vi x12.seats.tied, .slice a14 x12.row.length c15, .slice a17 x12.wheel.spoke.length c18]] (some 25) (by kernel_rfl) (.bool (eqCabin y3 x12)) (fun w hw => eqCabin_c w y3 a5 c6 (hi7.fr hw.fr) a8 c9 (hi10.fr hw.fr) x12 a14 c15 (hi16.fr hw.fr) a17 c18 (hi19.fr hw.fr)) (NO rfl) (QRU 1 9 10 [(26, B (!(eqCabin y3 x12)))] (by kernel_rfl) rfl (QEND rfl (NEXT (IF (!(eqCabin y3 x12)) (by kernel_rfl) (fun bh21 => ?_) (fun bh21 => ?_)))))))
   ·
    have h21 := bh21
    have h21 := notT h21
    refine SEQ (REGION [0] rfl (RU 1 [] [(4, B false)] (by kernel_rfl) rfl (ENDOPS (NEXT (RET (OUTR (PASS trivial (PASS trivial (OUTR (PASS trivial (FIN (.bool false) (by kernel_rfl) () ?_ [] ?_)))))))))))
    · simp [RV, hv0, drop_get ‹b[k]? = some _›, eqL, *]
    · rfl
   ·
    have h21 := bh21
    have h21 := notF h21
    refine SKIP (OUTN (NEXT (REGION [0, 1, 2] rfl (RU 2 [2] [(16, I (wr ((k : Int) + 1)))] (by kernel_rfl) rfl (CAST (d := 16) (vi (wr ((k : Int) + 1))) (vi ((k + 1 : Nat) : Int)) (by kernel_rfl) (vi_cast (by omega) (by omega)) (RU 1 [] [(5, I ((k + 1 : Nat) : Int))] (by kernel_rfl) rfl (ENDOPS (BACK (k + 1, ys4) [0, 1, 5] 0 [] _ ⟨hl_y3, hd_y3, hv0.trans (by simp [eqL, drop_get ‹b[k]? = some _›, *])⟩ (by simp) (by kernel_rfl) rfl rfl rfl))))))))
  ·
   have h2 := bh2
   have h2 := of_decide_eq_false h2
   obtain rfl := drop_nil hk (by omega)
   refine EXIT (PASS trivial (PASS trivial (OUT (NEXT (SEQ (REGION [0] rfl (RU 1 [] [(4, B true)] (by kernel_rfl) rfl (ENDOPS (NEXT (RET (FIN (.bool true) (by kernel_rfl) () ?_ [] ?_)))))))))))
   · simp [RV, hv0, eqL, List.drop_eq_nil_of_le (show b.length ≤ k by simp at hk; omega)]
   · rfl

theorem eqHouse_c (W : World) (a : House) (a_rules_seats_a : Option Addr) (a_rules_seats_c : Nat) (ha_rules_seats : Rd intL W a_rules_seats_a a.rules.seats) (a_parties_a : Option Addr) (a_parties_c : Nat) (ha_parties : Rd partyL W a_parties_a a.parties) (a_cabins_a : Option Addr) (a_cabins_c : Nat) (ha_cabins : Rd (cabinLx 114 116 127) W a_cabins_a a.cabins) (a_todo_a : Option Addr) (a_todo_c : Nat) (ha_todo : Rd intL W a_todo_a a.todo) (a_jobs_a : Option Addr) (a_jobs_c : Nat) (ha_jobs : Rd intL W a_jobs_a a.jobs) (b : House) (b_rules_seats_a : Option Addr) (b_rules_seats_c : Nat) (hb_rules_seats : Rd intL W b_rules_seats_a b.rules.seats) (b_parties_a : Option Addr) (b_parties_c : Nat) (hb_parties : Rd partyL W b_parties_a b.parties) (b_cabins_a : Option Addr) (b_cabins_c : Nat) (hb_cabins : Rd (cabinLx 114 116 127) W b_cabins_a b.cabins) (b_todo_a : Option Addr) (b_todo_c : Nat) (hb_todo : Rd intL W b_todo_a b.todo) (b_jobs_a : Option Addr) (b_jobs_c : Nat) (hb_jobs : Rd intL W b_jobs_a b.jobs) : Spec Tryz.prog W [] 12 #[.agg #[.slice a_rules_seats_a a.rules.seats.length a_rules_seats_c, vi a.rules.tiers, vi a.rules.room, vi a.rules.size, vi a.rules.period, vi a.rules.window, vi a.rules.rest, vi a.rules.tries, vi a.rules.crew, vi a.now, vi a.turn, .slice a_parties_a a.parties.length a_parties_c, .slice a_cabins_a a.cabins.length a_cabins_c, .slice a_todo_a a.todo.length a_todo_c, .slice a_jobs_a a.jobs.length a_jobs_c], .agg #[.slice b_rules_seats_a b.rules.seats.length b_rules_seats_c, vi b.rules.tiers, vi b.rules.room, vi b.rules.size, vi b.rules.period, vi b.rules.window, vi b.rules.rest, vi b.rules.tries, vi b.rules.crew, vi b.now, vi b.turn, .slice b_parties_a b.parties.length b_parties_c, .slice b_cabins_a b.cabins.length b_cabins_c, .slice b_todo_a b.todo.length b_todo_c, .slice b_jobs_a b.jobs.length b_jobs_c]] (RV (.bool (eqHouse a b))) := by
 refine ENTER0 (N := 45) (vs := [.agg #[.slice a_rules_seats_a a.rules.seats.length a_rules_seats_c, vi a.rules.tiers, vi a.rules.room, vi a.rules.size, vi a.rules.period, vi a.rules.window, vi a.rules.rest, vi a.rules.tries, vi a.rules.crew, vi a.now, vi a.turn, .slice a_parties_a a.parties.length a_parties_c, .slice a_cabins_a a.cabins.length a_cabins_c, .slice a_todo_a a.todo.length a_todo_c, .slice a_jobs_a a.jobs.length a_jobs_c], .agg #[.slice b_rules_seats_a b.rules.seats.length b_rules_seats_c, vi b.rules.tiers, vi b.rules.room, vi b.rules.size, vi b.rules.period, vi b.rules.window, vi b.rules.rest, vi b.rules.tries, vi b.rules.crew, vi b.now, vi b.turn, .slice b_parties_a b.parties.length b_parties_c, .slice b_cabins_a b.cabins.length b_cabins_c, .slice b_todo_a b.todo.length b_todo_c, .slice b_jobs_a b.jobs.length b_jobs_c]]) Tryz.func12 rfl rfl (NL rfl) ?_
 have ha_rules_seats_len := ha_rules_seats.len
 have ha_parties_len := ha_parties.len
 have ha_cabins_len := ha_cabins.len
 have ha_todo_len := ha_todo.len
 have ha_jobs_len := ha_jobs.len
 have hb_rules_seats_len := hb_rules_seats.len
 have hb_parties_len := hb_parties.len
 have hb_cabins_len := hb_cabins.len
 have hb_todo_len := hb_todo.len
 have hb_jobs_len := hb_jobs.len
 refine SEQ (REGION [0, 1, 2] rfl (RUL 3 [] [(2, .p 0 0), (3, .p 1 0)] [(35, [.slice a_rules_seats_a a.rules.seats.length a_rules_seats_c, vi a.rules.tiers, vi a.rules.room, vi a.rules.size, vi a.rules.period, vi a.rules.window, vi a.rules.rest, vi a.rules.tries, vi a.rules.crew, vi a.now, vi a.turn, .slice a_parties_a a.parties.length a_parties_c, .slice a_cabins_a a.cabins.length a_cabins_c, .slice a_todo_a a.todo.length a_todo_c, .slice a_jobs_a a.jobs.length a_jobs_c]), (35, [.slice b_rules_seats_a b.rules.seats.length b_rules_seats_c, vi b.rules.tiers, vi b.rules.room, vi b.rules.size, vi b.rules.period, vi b.rules.window, vi b.rules.rest, vi b.rules.tries, vi b.rules.crew, vi b.now, vi b.turn, .slice b_parties_a b.parties.length b_parties_c, .slice b_cabins_a b.cabins.length b_cabins_c, .slice b_todo_a b.todo.length b_todo_c, .slice b_jobs_a b.jobs.length b_jobs_c])] (by kernel_rfl) rfl (ENDOPS (NEXT (SEQ (SEQ (REGION [0, 1, 2, 3, 4, 5] rfl (RU 4 [4, 5] [(6, .v (.agg #[.slice a_rules_seats_a a.rules.seats.length a_rules_seats_c, vi a.rules.tiers, vi a.rules.room, vi a.rules.size, vi a.rules.period, vi a.rules.window, vi a.rules.rest, vi a.rules.tries, vi a.rules.crew])), (8, .v (.agg #[.slice b_rules_seats_a b.rules.seats.length b_rules_seats_c, vi b.rules.tiers, vi b.rules.room, vi b.rules.size, vi b.rules.period, vi b.rules.window, vi b.rules.rest, vi b.rules.tries, vi b.rules.crew]))] (by kernel_rfl) rfl (OPC (CALL 35 #[.agg #[.slice a_rules_seats_a a.rules.seats.length a_rules_seats_c, vi a.rules.tiers, vi a.rules.room, vi a.rules.size, vi a.rules.period, vi a.rules.window, vi a.rules.rest, vi a.rules.tries, vi a.rules.crew], .agg #[.slice b_rules_seats_a b.rules.seats.length b_rules_seats_c, vi b.rules.tiers, vi b.rules.room, vi b.rules.size, vi b.rules.period, vi b.rules.window, vi b.rules.rest, vi b.rules.tries, vi b.rules.crew]] (some 9) (by kernel_rfl) [] [] _ rfl (RV (.bool (eqRules a.rules b.rules))) (fun w hw => eqRules_c w a.rules a_rules_seats_a a_rules_seats_c (ha_rules_seats.fr hw.fr) b.rules b_rules_seats_a b_rules_seats_c (hb_rules_seats.fr hw.fr)) (NO rfl) ?_))))))))))
 rintro ⟨⟩
 refine RU 1 [] [(10, B (!(eqRules a.rules b.rules)))] (by kernel_rfl) rfl (ENDOPS (NEXT (IF (!(eqRules a.rules b.rules)) (by kernel_rfl) (fun bh1 => ?_) (fun bh1 => ?_))))
 ·
  have h1 := bh1
  have h1 := notT h1
  refine SEQ (REGION [0] rfl (RU 1 [] [(4, B false)] (by kernel_rfl) rfl (ENDOPS (NEXT (RET (PASS trivial (FIN (.bool false) (by kernel_rfl) () ?_ [] ?_)))))))
  · (first | (simp [RV, eqHouse, *]; done) | (simp_all [RV, eqHouse]; done))
  · rfl
 ·
  have h1 := bh1
  have h1 := notF h1
  refine SKIP (NEXT (SEQ (SEQ (REGION [0, 1, 2, 3, 4] rfl (RU 5 [] [(15, B (a.now != b.now))] (by kernel_rfl) rfl (ENDOPS (NEXT (IF (a.now != b.now) (by kernel_rfl) (fun bh2 => ?_) (fun bh2 => ?_)))))))))
  ·
   have h2 := bh2
   have h2 := bne_iff_ne.1 h2
   refine SEQ (REGION [0] rfl (RU 1 [] [(4, B false)] (by kernel_rfl) rfl (ENDOPS (NEXT (RET (PASS trivial (FIN (.bool false) (by kernel_rfl) () ?_ [] ?_)))))))
   · (first | (simp [RV, eqHouse, *]; done) | (simp_all [RV, eqHouse]; done))
   · rfl
  ·
   have h2 := bh2
   have h2 := bneF h2
   refine SKIP (NEXT (SEQ (SEQ (REGION [0, 1, 2, 3, 4] rfl (RU 5 [] [(20, B (a.turn != b.turn))] (by kernel_rfl) rfl (ENDOPS (NEXT (IF (a.turn != b.turn) (by kernel_rfl) (fun bh3 => ?_) (fun bh3 => ?_)))))))))
   ·
    have h3 := bh3
    have h3 := bne_iff_ne.1 h3
    refine SEQ (REGION [0] rfl (RU 1 [] [(4, B false)] (by kernel_rfl) rfl (ENDOPS (NEXT (RET (PASS trivial (FIN (.bool false) (by kernel_rfl) () ?_ [] ?_)))))))
    · (first | (simp [RV, eqHouse, *]; done) | (simp_all [RV, eqHouse]; done))
    · rfl
   ·
    have h3 := bh3
    have h3 := bneF h3
    refine SKIP (NEXT (SEQ (SEQ (REGION [0, 1, 2, 3, 4, 5] rfl (RU 4 [4, 5] [(22, .v (.slice a_parties_a a.parties.length a_parties_c)), (24, .v (.slice b_parties_a b.parties.length b_parties_c))] (by kernel_rfl) rfl (OPC (CALL 36 #[.slice a_parties_a a.parties.length a_parties_c, .slice b_parties_a b.parties.length b_parties_c] (some 25) (by kernel_rfl) [] [] _ rfl (RV (.bool (eqL eqParty a.parties b.parties))) (fun w hw => eqPartyS_c w a.parties a_parties_a a_parties_c (ha_parties.fr hw.fr) b.parties b_parties_a b_parties_c (hb_parties.fr hw.fr)) (NO rfl) ?_)))))))
    rintro ⟨⟩
    refine RU 1 [] [(26, B (!(eqL eqParty a.parties b.parties)))] (by kernel_rfl) rfl (ENDOPS (NEXT (IF (!(eqL eqParty a.parties b.parties)) (by kernel_rfl) (fun bh4 => ?_) (fun bh4 => ?_))))
    ·
     have h4 := bh4
     have h4 := notT h4
     refine SEQ (REGION [0] rfl (RU 1 [] [(4, B false)] (by kernel_rfl) rfl (ENDOPS (NEXT (RET (PASS trivial (FIN (.bool false) (by kernel_rfl) () ?_ [] ?_)))))))
     · (first | (simp [RV, eqHouse, *]; done) | (simp_all [RV, eqHouse]; done))
     · rfl
    ·
     have h4 := bh4
     have h4 := notF h4
     refine SKIP (NEXT (SEQ (SEQ (REGION [0, 1, 2, 3, 4, 5] rfl (RU 4 [4, 5] [(28, .v (.slice a_cabins_a a.cabins.length a_cabins_c)), (30, .v (.slice b_cabins_a b.cabins.length b_cabins_c))] (by kernel_rfl) rfl (OPC (CALL 37 #[.slice a_cabins_a a.cabins.length a_cabins_c, .slice b_cabins_a b.cabins.length b_cabins_c] (some 31) (by kernel_rfl) [] [] _ rfl (RV (.bool (eqL eqCabin a.cabins b.cabins))) (fun w hw => eqCabinS_c w a.cabins a_cabins_a a_cabins_c (ha_cabins.fr hw.fr) b.cabins b_cabins_a b_cabins_c (hb_cabins.fr hw.fr)) (NO rfl) ?_)))))))
     rintro ⟨⟩
     refine RU 1 [] [(32, B (!(eqL eqCabin a.cabins b.cabins)))] (by kernel_rfl) rfl (ENDOPS (NEXT (IF (!(eqL eqCabin a.cabins b.cabins)) (by kernel_rfl) (fun bh5 => ?_) (fun bh5 => ?_))))
     ·
      have h5 := bh5
      have h5 := notT h5
      refine SEQ (REGION [0] rfl (RU 1 [] [(4, B false)] (by kernel_rfl) rfl (ENDOPS (NEXT (RET (PASS trivial (FIN (.bool false) (by kernel_rfl) () ?_ [] ?_)))))))
      · (first | (simp [RV, eqHouse, *]; done) | (simp_all [RV, eqHouse]; done))
      · rfl
     ·
      have h5 := bh5
      have h5 := notF h5
      refine SKIP (NEXT (SEQ (SEQ (REGION [0, 1, 2, 3, 4, 5] rfl (RU 4 [4, 5] [(34, .v (.slice a_todo_a a.todo.length a_todo_c)), (36, .v (.slice b_todo_a b.todo.length b_todo_c))] (by kernel_rfl) rfl (OPC (CALL 11 #[.slice a_todo_a a.todo.length a_todo_c, .slice b_todo_a b.todo.length b_todo_c] (some 37) (by kernel_rfl) [] [] _ rfl (RV (.bool (eqInts a.todo b.todo))) (fun w hw => eqIntS_c w a.todo a_todo_a a_todo_c (ha_todo.fr hw.fr) b.todo b_todo_a b_todo_c (hb_todo.fr hw.fr)) (NO rfl) ?_)))))))
      rintro ⟨⟩
      refine RU 1 [] [(38, B (!(eqInts a.todo b.todo)))] (by kernel_rfl) rfl (ENDOPS (NEXT (IF (!(eqInts a.todo b.todo)) (by kernel_rfl) (fun bh6 => ?_) (fun bh6 => ?_))))
      ·
       have h6 := bh6
       have h6 := notT h6
       refine SEQ (REGION [0] rfl (RU 1 [] [(4, B false)] (by kernel_rfl) rfl (ENDOPS (NEXT (RET (PASS trivial (FIN (.bool false) (by kernel_rfl) () ?_ [] ?_)))))))
       · (first | (simp [RV, eqHouse, *]; done) | (simp_all [RV, eqHouse]; done))
       · rfl
      ·
       have h6 := bh6
       have h6 := notF h6
       refine SKIP (NEXT (SEQ (SEQ (REGION [0, 1, 2, 3, 4, 5] rfl (RU 4 [4, 5] [(40, .v (.slice a_jobs_a a.jobs.length a_jobs_c)), (42, .v (.slice b_jobs_a b.jobs.length b_jobs_c))] (by kernel_rfl) rfl (OPC (CALL 11 #[.slice a_jobs_a a.jobs.length a_jobs_c, .slice b_jobs_a b.jobs.length b_jobs_c] (some 43) (by kernel_rfl) [] [] _ rfl (RV (.bool (eqInts a.jobs b.jobs))) (fun w hw => eqIntS_c w a.jobs a_jobs_a a_jobs_c (ha_jobs.fr hw.fr) b.jobs b_jobs_a b_jobs_c (hb_jobs.fr hw.fr)) (NO rfl) ?_)))))))
       rintro ⟨⟩
       refine RU 1 [] [(44, B (!(eqInts a.jobs b.jobs)))] (by kernel_rfl) rfl (ENDOPS (NEXT (IF (!(eqInts a.jobs b.jobs)) (by kernel_rfl) (fun bh7 => ?_) (fun bh7 => ?_))))
       ·
        have h7 := bh7
        have h7 := notT h7
        refine SEQ (REGION [0] rfl (RU 1 [] [(4, B false)] (by kernel_rfl) rfl (ENDOPS (NEXT (RET (PASS trivial (FIN (.bool false) (by kernel_rfl) () ?_ [] ?_)))))))
        · (first | (simp [RV, eqHouse, *]; done) | (simp_all [RV, eqHouse]; done))
        · rfl
       ·
        have h7 := bh7
        have h7 := notF h7
        refine SKIP (NEXT (SEQ (REGION [0] rfl (RU 1 [] [(4, B true)] (by kernel_rfl) rfl (ENDOPS (NEXT (RET (FIN (.bool true) (by kernel_rfl) () ?_ [] ?_))))))))
        · (first | (simp [RV, eqHouse, *]; done) | (simp_all [RV, eqHouse]; done))
        · rfl

end SX
end Go.Proofs.YtgbfemglimebdaaGreat
