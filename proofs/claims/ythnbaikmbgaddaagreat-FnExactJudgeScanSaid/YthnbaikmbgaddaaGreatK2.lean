/- Walks, printed by program. -/
import Derived.Test.YthnbaikmbgaddaaGreatSxz
import Derived.Test.YthnbaikmbgaddaaGreatMdlu
import Derived.Test.YthnbaikmbgaddaaGreatMdlm
import Derived.Test.YthnbaikmbgaddaaGreatSxd
import Derived.Test.YthnbaikmbgaddaaGreatSxe
import Derived.Test.YthnbaikmbgaddaaGreatSxc
import Derived.Test.YthnbaikmbgaddaaGreatProg
namespace Go.Proofs.YthnbaikmbgaddaaGreat
namespace SX
open Go Go.RowKit
set_option linter.unusedVariables false
set_option linter.unusedSimpArgs false
set_option maxRecDepth 10000
set_option maxHeartbeats 400000
private theorem z10 {p : Prop} (h : p := by simp [RV, eqRules, *]) : p := h
private theorem z9 {p : Prop} (h : p := by simp [eqL, drop_get ‹b[k]? = some _›, *]) : p := h
private theorem z8 {p : Prop} (h : p := by simp [RV, hv0, drop_get ‹b[k]? = some _›, eqL, *]) : p := h
private theorem z7 {p : Prop} (h : p := by first | (simp [RV, eqPin, *]; done) | (simp_all [RV, eqPin]; done)) : p := h
private theorem z6 {p : Prop} (h : p := by first | (simp [RV, eqHouse, *]; done) | (simp_all [RV, eqHouse]; done)) : p := h
private theorem z5 {p : Prop} (h : p := by first | (simp [RV, eqCabin, *]; done) | (simp_all [RV, eqCabin]; done)) : p := h
private theorem z4 {p : Prop} (h : p := by first | (simp [RV, eqEntry, *]; done) | (simp_all [RV, eqEntry]; done)) : p := h
private theorem z3 {p : Prop} (h : p := by first | (simp [RV, eqParty, *]; done) | (simp_all [RV, eqParty]; done)) : p := h
private theorem z2 {p : Prop} (h : p := by first | (simp [RV, eqLedger, *]; done) | (simp_all [RV, eqLedger]; done)) : p := h
private theorem z1 {p : Prop} (h : p := by simp [RV, hv0, eqL, List.drop_eq_nil_of_le (show b.length ≤ k by simp at hk; omega)]) : p := h
theorem toIntS_c (W : World) (a : List Int) (a_a : Option Addr) (a_c : Nat) (ha : Rd intL W a_a a) (hb : a.length ≤ 1048576) : Spec Tryz.prog W [] 45 #[.slice a_a a.length a_c] (⟨HH, fun p => .slice p.1 a.length p.2, fun p => [slA 3 intL (.slice p.1 a.length p.2) a]⟩) := by
 refine ENTER0 (N := 22) (vs := [.slice a_a a.length a_c]) Tryz.func45 rfl rfl (NL rfl) ?_
 have ha_len := ha.len
 refine XG (UU 1 [] (NR (UU 2 [(6, I (a.length : Int))] (OPC (MAKE 24 (.tmp 6) (.tmp 6) 7 24 KR (NL rfl) a.length KR KR 3 KR (fun z => [.int .i64 z]) (fun z => ⟨rfl, by simp [isCell]⟩) 0 (vi 0) 8 rfl KR (by decide) LO LF (fun a1 ha2 => (UU 1 [(3, .v (.slice a1 a.length a.length))] (XN (SEQ (XG (UU 1 [(4, I 0)] (XN (BLOCK (LOOP (ι := Nat × (List Int) × (List Int)) (fun j => [(0, .v (.slice a_a a.length a_c)), (3, .v (.slice a1 a.length a.length)), (4, I (j.1 : Int))]) (fun j => []) (fun j => [slA 3 intL (.slice a1 a.length a.length) j.2.2]) (fun j => j.1 + j.2.1.length = a.length ∧ a.drop j.1 = j.2.1 ∧ j.2.2 = a.take j.1 ++ List.replicate j.2.1.length 0) (fun j => j.2.1.length) (0, a, List.replicate a.length 0) [0, 3, 4] ⟨by simp, rfl, by simp⟩ KR rfl rfl ?_))))))))))))))
 rintro ⟨k, ys, out⟩ ⟨hk, hd, hv0⟩
 try dsimp only at hk hd hv0
 refine SEQ (XG (UU 4 [(11, B (decide ((k : Int) < (a.length : Int))))] (NI (decide ((k : Int) < (a.length : Int))) (dT fun h3 bh3 => ?_) (dF fun h3 bh3 => ?_))))
 ·
  obtain ⟨y4, ys5, rfl, hx_y4, hd_y4, hl_y4⟩ := drop_cons hd hk LO
  refine XK (SEQ (BLOCK (RG (UU 4 [(14, .v (.slice a1 a.length a.length)), (15, I (k : Int)), (16, .v (.slice a_a a.length a_c)), (17, I (k : Int))] (OPC (IX 24 (.tmp 16) (.tmp 17) 18 0 a_a a.length a_c .i64 (k : Int) 3 1 (Rd.some ha LO) LO LO (OPC (LE 3 (.tmp 18) 19 3 a_a (k * 1) 0 ([vi y4]) (vi y4) (fun w hw => (ha.fr hw.fr).flat hx_y4) (FACT (a.length = out.length) (fun w hw => (SlO.lenE (hw.own 0 rfl)).1) (fun hln6 => ?_))))))))))
  obtain ⟨x7, hx8⟩ : ∃ y, out[k]? = some y := ⟨_, List.getElem?_eq_getElem LO⟩
  refine OPC (IX 24 (.tmp 14) (.tmp 15) 20 0 a1 a.length a.length .i64 (k : Int) 3 1 ha2 LO LO (OPC (STOREF 3 (.tmp 20) (.tmp 19) 0 KR 0 _ 3 a1 a.length a.length k 0 out rfl x7 y4 hx8 (vi y4) KR KR KR (ENDOPS (OUTN (NEXT (RG (UU 2 [(13, I (wr ((k : Int) + 1)))] (CS 13 (vi (wr ((k : Int) + 1))) (vi ((k + 1 : Nat) : Int)) VC (UU 1 [(4, I ((k + 1 : Nat) : Int))] (ENDOPS (BK (k + 1, ys5, out.set k y4) [0, 3, 4] 0 [0] ⟨hl_y4, hd_y4, by rw [hv0]; exact set_next hk hx_y4⟩ (by simp)))))))))))))
 obtain rfl := drop_nil hk LO
 refine EXIT (PASS trivial (PASS trivial (OUT (NEXT (XG (UU 2 [(2, .v (.slice a1 a.length a.length))] (XN (RET ?_))))))))
 have efin : a = out := by rw [hv0]; simp [show k = a.length by simpa using hk]
 refine FIN (.slice a1 a.length a.length) KR (a1, a.length) ?_ [0] ?_
 · (rw [efin] <;> rfl)
 (rw [efin] <;> rfl)

theorem toRules_c (W : World) (a : Rules) (a9a : Option Addr) (a9c : Nat) (ha9 : Rd intL W a9a a.seats) (hb : a.seats.length ≤ 1048576) : Spec Tryz.prog W [] 101 #[.agg (rC a a9a a9c).toArray] (⟨HH, fun p => .agg (rC a p.1 p.2).toArray, fun p => [slA 3 intL (.slice p.1 a.seats.length p.2) a.seats]⟩) := by
 refine ENTER0 (N := 33) (vs := [.agg (rC a a9a a9c).toArray]) Tryz.func101 rfl rfl (NL rfl) ?_
 have ha9len := ha9.len
 refine XG (UL 2 [(1, .p 0 0), (2, .p 1 0)] [(58, (rC a a9a a9c)), (26, [.slice none 0 0, vi 0, vi 0, vi 0, vi 0, vi 0, vi 0, vi 0, vi 0])] (NR (UL 1 [(3, .p 2 0)] [(58, (rC a a9a a9c)), (26, [.slice none 0 0, vi 0, vi 0, vi 0, vi 0, vi 0, vi 0, vi 0, vi 0]), (26, [.slice none 0 0, vi 0, vi 0, vi 0, vi 0, vi 0, vi 0, vi 0, vi 0])] (NR (UU 2 [(5, .v (.slice a9a a.seats.length a9c))] (OPC (CX 6 (fun w hw => toIntS_c w a.seats a9a a9c (ha9.fr hw.fr) LA) ?_)))))))
 rintro ⟨a1, c2⟩
 refine UL 2 [] [(58, (rC a a9a a9c)), (26, [.slice none 0 0, vi 0, vi 0, vi 0, vi 0, vi 0, vi 0, vi 0, vi 0]), (26, [.slice a1 a.seats.length c2, vi 0, vi 0, vi 0, vi 0, vi 0, vi 0, vi 0, vi 0])] (NR (UL 4 [] [(58, (rC a a9a a9c)), (26, [.slice none 0 0, vi 0, vi 0, vi 0, vi 0, vi 0, vi 0, vi 0, vi 0]), (26, [.slice a1 a.seats.length c2, vi a.tiers, vi 0, vi 0, vi 0, vi 0, vi 0, vi 0, vi 0])] (NR (UL 4 [] [(58, (rC a a9a a9c)), (26, [.slice none 0 0, vi 0, vi 0, vi 0, vi 0, vi 0, vi 0, vi 0, vi 0]), (26, [.slice a1 a.seats.length c2, vi a.tiers, vi a.room, vi 0, vi 0, vi 0, vi 0, vi 0, vi 0])] (NR (UL 4 [] [(58, (rC a a9a a9c)), (26, [.slice none 0 0, vi 0, vi 0, vi 0, vi 0, vi 0, vi 0, vi 0, vi 0]), (26, [.slice a1 a.seats.length c2, vi a.tiers, vi a.room, vi a.size, vi 0, vi 0, vi 0, vi 0, vi 0])] (NR (UL 4 [] [(58, (rC a a9a a9c)), (26, [.slice none 0 0, vi 0, vi 0, vi 0, vi 0, vi 0, vi 0, vi 0, vi 0]), (26, [.slice a1 a.seats.length c2, vi a.tiers, vi a.room, vi a.size, vi a.period, vi 0, vi 0, vi 0, vi 0])] (NR ?_)))))))))
 refine UL 4 [] [(58, (rC a a9a a9c)), (26, [.slice none 0 0, vi 0, vi 0, vi 0, vi 0, vi 0, vi 0, vi 0, vi 0]), (26, [.slice a1 a.seats.length c2, vi a.tiers, vi a.room, vi a.size, vi a.period, vi a.window, vi 0, vi 0, vi 0])] (NR (UL 4 [] [(58, (rC a a9a a9c)), (26, [.slice none 0 0, vi 0, vi 0, vi 0, vi 0, vi 0, vi 0, vi 0, vi 0]), (26, [.slice a1 a.seats.length c2, vi a.tiers, vi a.room, vi a.size, vi a.period, vi a.window, vi a.rest, vi 0, vi 0])] (NR (UL 4 [] [(58, (rC a a9a a9c)), (26, [.slice none 0 0, vi 0, vi 0, vi 0, vi 0, vi 0, vi 0, vi 0, vi 0]), (26, [.slice a1 a.seats.length c2, vi a.tiers, vi a.room, vi a.size, vi a.period, vi a.window, vi a.rest, vi a.tries, vi 0])] (NR (UL 4 [] [(58, (rC a a9a a9c)), (26, [.slice none 0 0, vi 0, vi 0, vi 0, vi 0, vi 0, vi 0, vi 0, vi 0]), (26, (rC a a1 c2))] (NR (UL 2 [] [(58, (rC a a9a a9c)), (26, (rC a a1 c2)), (26, (rC a a1 c2))] (XN (RET ?_))))))))))
 refine FIN (.agg (rC a a1 c2).toArray) KR (a1, c2) ?_ [0] ?_
 · rfl
 rfl

theorem toParty_c (W : World) (a : Party) : Spec Tryz.prog W [] 200 #[.agg (paC a).toArray] (RV (.agg (paC a).toArray)) := by
 refine ENTER0 (N := 35) (vs := [.agg (paC a).toArray]) Tryz.func200 rfl rfl (NL rfl) ?_
 refine XG (UL 2 [(1, .p 0 0), (2, .p 1 0)] [(180, partyE a), (56, paZ)] (NR (UL 1 [(3, .p 2 0)] [(180, partyE a), (56, paZ), (56, paZ)] (NR (UL 4 [] [(180, partyE a), (56, paZ), (56, [vi a.id, vi 0, vi 0, vi 0, vi 0, vi 0, vi 0, vi 0, vi 0, vi 0])] (NR (UL 4 [] [(180, partyE a), (56, paZ), (56, [vi a.id, vi a.cabin, vi 0, vi 0, vi 0, vi 0, vi 0, vi 0, vi 0, vi 0])] (NR (UL 4 [] [(180, partyE a), (56, paZ), (56, [vi a.id, vi a.cabin, vi a.from', vi 0, vi 0, vi 0, vi 0, vi 0, vi 0, vi 0])] (NR (UL 4 [] [(180, partyE a), (56, paZ), (56, [vi a.id, vi a.cabin, vi a.from', vi a.size, vi 0, vi 0, vi 0, vi 0, vi 0, vi 0])] (NR (UL 4 [] [(180, partyE a), (56, paZ), (56, [vi a.id, vi a.cabin, vi a.from', vi a.size, vi a.tier, vi 0, vi 0, vi 0, vi 0, vi 0])] (NR (UL 4 [] [(180, partyE a), (56, paZ), (56, [vi a.id, vi a.cabin, vi a.from', vi a.size, vi a.tier, vi a.since, vi 0, vi 0, vi 0, vi 0])] (NR ?_))))))))))))))))
 refine UL 4 [] [(180, partyE a), (56, paZ), (56, [vi a.id, vi a.cabin, vi a.from', vi a.size, vi a.tier, vi a.since, vi a.turn, vi 0, vi 0, vi 0])] (NR (UL 4 [] [(180, partyE a), (56, paZ), (56, [vi a.id, vi a.cabin, vi a.from', vi a.size, vi a.tier, vi a.since, vi a.turn, vi a.state, vi 0, vi 0])] (NR (UL 4 [] [(180, partyE a), (56, paZ), (56, [vi a.id, vi a.cabin, vi a.from', vi a.size, vi a.tier, vi a.since, vi a.turn, vi a.state, vi a.until', vi 0])] (NR (UL 4 [] [(180, partyE a), (56, paZ), (56, partyE a)] (NR (UL 2 [] [(180, partyE a), (56, partyE a), (56, partyE a)] (XF rfl (.agg (paC a).toArray) () [] rfl)))))))))

theorem toEntry_c (W : World) (a : Entry) : Spec Tryz.prog W [] 334 #[.agg #[vi a.level, vi a.turn, vi a.id, vi a.size]] (RV (.agg #[vi a.level, vi a.turn, vi a.id, vi a.size])) := by
 refine ENTER0 (N := 17) (vs := [.agg #[vi a.level, vi a.turn, vi a.id, vi a.size]]) Tryz.func334 rfl rfl (NL rfl) ?_
 refine XG (UL 2 [(1, .p 0 0), (2, .p 1 0)] [(256, entryE a), (142, [vi 0, vi 0, vi 0, vi 0])] (NR (UL 1 [(3, .p 2 0)] [(256, entryE a), (142, [vi 0, vi 0, vi 0, vi 0]), (142, [vi 0, vi 0, vi 0, vi 0])] (NR (UL 4 [] [(256, entryE a), (142, [vi 0, vi 0, vi 0, vi 0]), (142, [vi a.level, vi 0, vi 0, vi 0])] (NR (UL 4 [] [(256, entryE a), (142, [vi 0, vi 0, vi 0, vi 0]), (142, [vi a.level, vi a.turn, vi 0, vi 0])] (NR (UL 4 [] [(256, entryE a), (142, [vi 0, vi 0, vi 0, vi 0]), (142, [vi a.level, vi a.turn, vi a.id, vi 0])] (NR (UL 4 [] [(256, entryE a), (142, [vi 0, vi 0, vi 0, vi 0]), (142, entryE a)] (NR (UL 2 [] [(256, entryE a), (142, entryE a), (142, entryE a)] (XF rfl (.agg #[vi a.level, vi a.turn, vi a.id, vi a.size]) () [] rfl))))))))))))))

theorem toPin_c (W : World) (a : Pin) : Spec Tryz.prog W [] 382 #[.agg #[vi a.at', vi a.id]] (RV (.agg #[vi a.at', vi a.id])) := by
 refine ENTER0 (N := 11) (vs := [.agg #[vi a.at', vi a.id]]) Tryz.func382 rfl rfl (NL rfl) ?_
 refine XG (UL 2 [(1, .p 0 0), (2, .p 1 0)] [(290, pinE a), (167, [vi 0, vi 0])] (NR (UL 1 [(3, .p 2 0)] [(290, pinE a), (167, [vi 0, vi 0]), (167, [vi 0, vi 0])] (NR (UL 4 [] [(290, pinE a), (167, [vi 0, vi 0]), (167, [vi a.at', vi 0])] (NR (UL 4 [] [(290, pinE a), (167, [vi 0, vi 0]), (167, pinE a)] (NR (UL 2 [] [(290, pinE a), (167, pinE a), (167, pinE a)] (XF rfl (.agg #[vi a.at', vi a.id]) () [] rfl))))))))))

theorem toLedger_c (W : World) (a : Ledger) : Spec Tryz.prog W [] 277 #[.agg (leC a).toArray] (RV (.agg (leC a).toArray)) := by
 refine ENTER0 (N := 20) (vs := [.agg (leC a).toArray]) Tryz.func277 rfl rfl (NL rfl) ?_
 refine XG (UL 2 [(1, .p 0 0), (2, .p 1 0)] [(172, ledgerE a), (44, [vi 0, vi 0, vi 0, vi 0, vi 0])] (NR (UL 1 [(3, .p 2 0)] [(172, ledgerE a), (44, [vi 0, vi 0, vi 0, vi 0, vi 0]), (44, [vi 0, vi 0, vi 0, vi 0, vi 0])] (NR (UL 4 [] [(172, ledgerE a), (44, [vi 0, vi 0, vi 0, vi 0, vi 0]), (44, [vi a.total, vi 0, vi 0, vi 0, vi 0])] (NR (UL 4 [] [(172, ledgerE a), (44, [vi 0, vi 0, vi 0, vi 0, vi 0]), (44, [vi a.total, vi a.free, vi 0, vi 0, vi 0])] (NR (UL 4 [] [(172, ledgerE a), (44, [vi 0, vi 0, vi 0, vi 0, vi 0]), (44, [vi a.total, vi a.free, vi a.held, vi 0, vi 0])] (NR (UL 4 [] [(172, ledgerE a), (44, [vi 0, vi 0, vi 0, vi 0, vi 0]), (44, [vi a.total, vi a.free, vi a.held, vi a.sold, vi 0])] (NR (UL 4 [] [(172, ledgerE a), (44, [vi 0, vi 0, vi 0, vi 0, vi 0]), (44, ledgerE a)] (NR (UL 2 [] [(172, ledgerE a), (44, ledgerE a), (44, ledgerE a)] (XF rfl (.agg (leC a).toArray) () [] rfl))))))))))))))))

theorem toPartyS_c (W : World) (a : List Party) (a_a : Option Addr) (a_c : Nat) (ha : Rd partyL W a_a a) (hb : a.length ≤ 1048576) : Spec Tryz.prog W [] 102 #[.slice a_a a.length a_c] (⟨HH, fun p => .slice p.1 a.length p.2, fun p => [slA 56 partyL (.slice p.1 a.length p.2) a]⟩) := by
 refine ENTER0 (N := 23) (vs := [.slice a_a a.length a_c]) Tryz.func102 rfl rfl (NL rfl) ?_
 have ha_len := ha.len
 refine XG (UU 1 [] (NR (UU 2 [(6, I (a.length : Int))] (OPC (MAKE 28 (.tmp 6) (.tmp 6) 7 28 KR (NL rfl) a.length KR KR 56 KR partyE partyH (⟨0, 0, 0, 0, 0, 0, 0, 0, 0, 0⟩ : Party) (.agg paZ.toArray) 80 rfl KR (by decide) LO LF (fun a1 ha2 => (UU 1 [(3, .v (.slice a1 a.length a.length))] (XN (SEQ (XG (UU 1 [(4, I 0)] (XN (BLOCK (LOOP (ι := Nat × (List Party) × (List Party)) (fun j => [(0, .v (.slice a_a a.length a_c)), (3, .v (.slice a1 a.length a.length)), (4, I (j.1 : Int))]) (fun j => []) (fun j => [slA 56 partyL (.slice a1 a.length a.length) j.2.2]) (fun j => j.1 + j.2.1.length = a.length ∧ a.drop j.1 = j.2.1 ∧ j.2.2 = a.take j.1 ++ List.replicate j.2.1.length (⟨0, 0, 0, 0, 0, 0, 0, 0, 0, 0⟩ : Party)) (fun j => j.2.1.length) (0, a, List.replicate a.length (⟨0, 0, 0, 0, 0, 0, 0, 0, 0, 0⟩ : Party)) [0, 3, 4] ⟨by simp, rfl, by simp⟩ KR rfl rfl ?_))))))))))))))
 rintro ⟨k, ys, out⟩ ⟨hk, hd, hv0⟩
 try dsimp only at hk hd hv0
 refine SEQ (XG (UU 4 [(11, B (decide ((k : Int) < (a.length : Int))))] (NI (decide ((k : Int) < (a.length : Int))) (dT fun h3 bh3 => ?_) (dF fun h3 bh3 => ?_))))
 ·
  obtain ⟨y4, ys5, rfl, hx_y4, hd_y4, hl_y4⟩ := drop_cons hd hk LO
  refine XK (SEQ (BLOCK (RG (UU 4 [(14, .v (.slice a1 a.length a.length)), (15, I (k : Int)), (16, .v (.slice a_a a.length a_c)), (17, I (k : Int))] (OPC (IX 59 (.tmp 16) (.tmp 17) 18 0 a_a a.length a_c .i64 (k : Int) 180 10 (Rd.some ha LO) LO LO (OPC (LE 180 (.tmp 18) 19 180 a_a (k * 10) 0 (partyE y4) (.agg (partyE y4).toArray) (fun w hw => (ha.fr hw.fr).flat hx_y4) (OPC (CX 20 (fun w hw => toParty_c w y4) ?_))))))))))
  rintro ⟨⟩
  refine FACT (a.length = out.length) (fun w hw => (SlO.lenE (hw.own 0 rfl)).1) (fun hln6 => ?_)
  obtain ⟨x7, hx8⟩ : ∃ y, out[k]? = some y := ⟨_, List.getElem?_eq_getElem LO⟩
  refine OPC (IX 28 (.tmp 14) (.tmp 15) 21 0 a1 a.length a.length .i64 (k : Int) 56 10 ha2 LO LO (OPC (STOREF 56 (.tmp 21) (.tmp 20) 0 KR 0 _ 56 a1 a.length a.length k 0 out rfl x7 y4 hx8 (.agg (paC y4).toArray) KR KR KR (ENDOPS (OUTN (NEXT (RG (UU 2 [(13, I (wr ((k : Int) + 1)))] (CS 13 (vi (wr ((k : Int) + 1))) (vi ((k + 1 : Nat) : Int)) VC (UU 1 [(4, I ((k + 1 : Nat) : Int))] (ENDOPS (BK (k + 1, ys5, out.set k y4) [0, 3, 4] 0 [0] ⟨hl_y4, hd_y4, by rw [hv0]; exact set_next hk hx_y4⟩ (by simp)))))))))))))
 obtain rfl := drop_nil hk LO
 refine EXIT (PASS trivial (PASS trivial (OUT (NEXT (XG (UU 2 [(2, .v (.slice a1 a.length a.length))] (XN (RET ?_))))))))
 have efin : a = out := by rw [hv0]; simp [show k = a.length by simpa using hk]
 refine FIN (.slice a1 a.length a.length) KR (a1, a.length) ?_ [0] ?_
 · (rw [efin] <;> rfl)
 (rw [efin] <;> rfl)

theorem toEntryS_c (W : World) (a : List Entry) (a_a : Option Addr) (a_c : Nat) (ha : Rd entryL W a_a a) (hb : a.length ≤ 1048576) : Spec Tryz.prog W [] 278 #[.slice a_a a.length a_c] (⟨HH, fun p => .slice p.1 a.length p.2, fun p => [slA 142 entryL (.slice p.1 a.length p.2) a]⟩) := by
 refine ENTER0 (N := 23) (vs := [.slice a_a a.length a_c]) Tryz.func278 rfl rfl (NL rfl) ?_
 have ha_len := ha.len
 refine XG (UU 1 [] (NR (UU 2 [(6, I (a.length : Int))] (OPC (MAKE 45 (.tmp 6) (.tmp 6) 7 45 KR (NL rfl) a.length KR KR 142 KR entryE entryH (⟨0, 0, 0, 0⟩ : Entry) (.agg #[vi 0, vi 0, vi 0, vi 0]) 32 rfl KR (by decide) LO LF (fun a1 ha2 => (UU 1 [(3, .v (.slice a1 a.length a.length))] (XN (SEQ (XG (UU 1 [(4, I 0)] (XN (BLOCK (LOOP (ι := Nat × (List Entry) × (List Entry)) (fun j => [(0, .v (.slice a_a a.length a_c)), (3, .v (.slice a1 a.length a.length)), (4, I (j.1 : Int))]) (fun j => []) (fun j => [slA 142 entryL (.slice a1 a.length a.length) j.2.2]) (fun j => j.1 + j.2.1.length = a.length ∧ a.drop j.1 = j.2.1 ∧ j.2.2 = a.take j.1 ++ List.replicate j.2.1.length (⟨0, 0, 0, 0⟩ : Entry)) (fun j => j.2.1.length) (0, a, List.replicate a.length (⟨0, 0, 0, 0⟩ : Entry)) [0, 3, 4] ⟨by simp, rfl, by simp⟩ KR rfl rfl ?_))))))))))))))
 rintro ⟨k, ys, out⟩ ⟨hk, hd, hv0⟩
 try dsimp only at hk hd hv0
 refine SEQ (XG (UU 4 [(11, B (decide ((k : Int) < (a.length : Int))))] (NI (decide ((k : Int) < (a.length : Int))) (dT fun h3 bh3 => ?_) (dF fun h3 bh3 => ?_))))
 ·
  obtain ⟨y4, ys5, rfl, hx_y4, hd_y4, hl_y4⟩ := drop_cons hd hk LO
  refine XK (SEQ (BLOCK (RG (UU 4 [(14, .v (.slice a1 a.length a.length)), (15, I (k : Int)), (16, .v (.slice a_a a.length a_c)), (17, I (k : Int))] (OPC (IX 173 (.tmp 16) (.tmp 17) 18 0 a_a a.length a_c .i64 (k : Int) 256 4 (Rd.some ha LO) LO LO (OPC (LE 256 (.tmp 18) 19 256 a_a (k * 4) 0 (entryE y4) (.agg (entryE y4).toArray) (fun w hw => (ha.fr hw.fr).flat hx_y4) (OPC (CX 20 (fun w hw => toEntry_c w y4) ?_))))))))))
  rintro ⟨⟩
  refine FACT (a.length = out.length) (fun w hw => (SlO.lenE (hw.own 0 rfl)).1) (fun hln6 => ?_)
  obtain ⟨x7, hx8⟩ : ∃ y, out[k]? = some y := ⟨_, List.getElem?_eq_getElem LO⟩
  refine OPC (IX 45 (.tmp 14) (.tmp 15) 21 0 a1 a.length a.length .i64 (k : Int) 142 4 ha2 LO LO (OPC (STOREF 142 (.tmp 21) (.tmp 20) 0 KR 0 _ 142 a1 a.length a.length k 0 out rfl x7 y4 hx8 (.agg #[vi y4.level, vi y4.turn, vi y4.id, vi y4.size]) KR KR KR (ENDOPS (OUTN (NEXT (RG (UU 2 [(13, I (wr ((k : Int) + 1)))] (CS 13 (vi (wr ((k : Int) + 1))) (vi ((k + 1 : Nat) : Int)) VC (UU 1 [(4, I ((k + 1 : Nat) : Int))] (ENDOPS (BK (k + 1, ys5, out.set k y4) [0, 3, 4] 0 [0] ⟨hl_y4, hd_y4, by rw [hv0]; exact set_next hk hx_y4⟩ (by simp)))))))))))))
 obtain rfl := drop_nil hk LO
 refine EXIT (PASS trivial (PASS trivial (OUT (NEXT (XG (UU 2 [(2, .v (.slice a1 a.length a.length))] (XN (RET ?_))))))))
 have efin : a = out := by rw [hv0]; simp [show k = a.length by simpa using hk]
 refine FIN (.slice a1 a.length a.length) KR (a1, a.length) ?_ [0] ?_
 · (rw [efin] <;> rfl)
 (rw [efin] <;> rfl)

theorem toPinS_c (W : World) (a : List Pin) (a_a : Option Addr) (a_c : Nat) (ha : Rd pinL W a_a a) (hb : a.length ≤ 1048576) : Spec Tryz.prog W [] 364 #[.slice a_a a.length a_c] (⟨HH, fun p => .slice p.1 a.length p.2, fun p => [slA 167 pinL (.slice p.1 a.length p.2) a]⟩) := by
 refine ENTER0 (N := 23) (vs := [.slice a_a a.length a_c]) Tryz.func364 rfl rfl (NL rfl) ?_
 have ha_len := ha.len
 refine XG (UU 1 [] (NR (UU 2 [(6, I (a.length : Int))] (OPC (MAKE 155 (.tmp 6) (.tmp 6) 7 155 KR (NL rfl) a.length KR KR 167 KR pinE pinH (⟨0, 0⟩ : Pin) (.agg #[vi 0, vi 0]) 16 rfl KR (by decide) LO LF (fun a1 ha2 => (UU 1 [(3, .v (.slice a1 a.length a.length))] (XN (SEQ (XG (UU 1 [(4, I 0)] (XN (BLOCK (LOOP (ι := Nat × (List Pin) × (List Pin)) (fun j => [(0, .v (.slice a_a a.length a_c)), (3, .v (.slice a1 a.length a.length)), (4, I (j.1 : Int))]) (fun j => []) (fun j => [slA 167 pinL (.slice a1 a.length a.length) j.2.2]) (fun j => j.1 + j.2.1.length = a.length ∧ a.drop j.1 = j.2.1 ∧ j.2.2 = a.take j.1 ++ List.replicate j.2.1.length (⟨0, 0⟩ : Pin)) (fun j => j.2.1.length) (0, a, List.replicate a.length (⟨0, 0⟩ : Pin)) [0, 3, 4] ⟨by simp, rfl, by simp⟩ KR rfl rfl ?_))))))))))))))
 rintro ⟨k, ys, out⟩ ⟨hk, hd, hv0⟩
 try dsimp only at hk hd hv0
 refine SEQ (XG (UU 4 [(11, B (decide ((k : Int) < (a.length : Int))))] (NI (decide ((k : Int) < (a.length : Int))) (dT fun h3 bh3 => ?_) (dF fun h3 bh3 => ?_))))
 ·
  obtain ⟨y4, ys5, rfl, hx_y4, hd_y4, hl_y4⟩ := drop_cons hd hk LO
  refine XK (SEQ (BLOCK (RG (UU 4 [(14, .v (.slice a1 a.length a.length)), (15, I (k : Int)), (16, .v (.slice a_a a.length a_c)), (17, I (k : Int))] (OPC (IX 276 (.tmp 16) (.tmp 17) 18 0 a_a a.length a_c .i64 (k : Int) 290 2 (Rd.some ha LO) LO LO (OPC (LE 290 (.tmp 18) 19 290 a_a (k * 2) 0 (pinE y4) (.agg (pinE y4).toArray) (fun w hw => (ha.fr hw.fr).flat hx_y4) (OPC (CX 20 (fun w hw => toPin_c w y4) ?_))))))))))
  rintro ⟨⟩
  refine FACT (a.length = out.length) (fun w hw => (SlO.lenE (hw.own 0 rfl)).1) (fun hln6 => ?_)
  obtain ⟨x7, hx8⟩ : ∃ y, out[k]? = some y := ⟨_, List.getElem?_eq_getElem LO⟩
  refine OPC (IX 155 (.tmp 14) (.tmp 15) 21 0 a1 a.length a.length .i64 (k : Int) 167 2 ha2 LO LO (OPC (STOREF 167 (.tmp 21) (.tmp 20) 0 KR 0 _ 167 a1 a.length a.length k 0 out rfl x7 y4 hx8 (.agg #[vi y4.at', vi y4.id]) KR KR KR (ENDOPS (OUTN (NEXT (RG (UU 2 [(13, I (wr ((k : Int) + 1)))] (CS 13 (vi (wr ((k : Int) + 1))) (vi ((k + 1 : Nat) : Int)) VC (UU 1 [(4, I ((k + 1 : Nat) : Int))] (ENDOPS (BK (k + 1, ys5, out.set k y4) [0, 3, 4] 0 [0] ⟨hl_y4, hd_y4, by rw [hv0]; exact set_next hk hx_y4⟩ (by simp)))))))))))))
 obtain rfl := drop_nil hk LO
 refine EXIT (PASS trivial (PASS trivial (OUT (NEXT (XG (UU 2 [(2, .v (.slice a1 a.length a.length))] (XN (RET ?_))))))))
 have efin : a = out := by rw [hv0]; simp [show k = a.length by simpa using hk]
 refine FIN (.slice a1 a.length a.length) KR (a1, a.length) ?_ [0] ?_
 · (rw [efin] <;> rfl)
 (rw [efin] <;> rfl)

theorem toPinSS_c (W : World) (a : List (List Pin)) (a_a : Option Addr) (a_c : Nat) (ha : Rd (sl 290 pinL) W a_a a) (hb : a.length ≤ 1048576) (hf : a.flatten.length ≤ 1048576) : Spec Tryz.prog W [] 335 #[.slice a_a a.length a_c] (⟨HH, fun p => .slice p.1 a.length p.2, fun p => [slA 155 (sl 167 pinL) (.slice p.1 a.length p.2) a]⟩) := by
 refine ENTER0 (N := 23) (vs := [.slice a_a a.length a_c]) Tryz.func335 rfl rfl (NL rfl) ?_
 have ha_len := ha.len
 refine XG (UU 1 [] (NR (UU 2 [(6, I (a.length : Int))] (OPC (MAKEN 46 (.tmp 6) (.tmp 6) 7 46 KR (NL rfl) a.length KR KR 155 KR (sl 167 pinL) 1 rfl ([] : List Pin) (.slice none 0 0) 24 (fun w => slZ _ _ w) KR (by decide) LO LF (fun a1 ha2 => (UU 1 [(3, .v (.slice a1 a.length a.length))] (XN (SEQ (XG (UU 1 [(4, I 0)] (XN (BLOCK (LOOP (ι := Nat × (List (List Pin)) × (List (List Pin))) (fun j => [(0, .v (.slice a_a a.length a_c)), (3, .v (.slice a1 a.length a.length)), (4, I (j.1 : Int))]) (fun j => []) (fun j => [slA 155 (sl 167 pinL) (.slice a1 a.length a.length) j.2.2]) (fun j => j.1 + j.2.1.length = a.length ∧ a.drop j.1 = j.2.1 ∧ j.2.2 = a.take j.1 ++ List.replicate j.2.1.length ([] : List Pin)) (fun j => j.2.1.length) (0, a, List.replicate a.length ([] : List Pin)) [0, 3, 4] ⟨by simp, rfl, by simp⟩ KR rfl rfl ?_))))))))))))))
 rintro ⟨k, ys, out⟩ ⟨hk, hd, hv0⟩
 try dsimp only at hk hd hv0
 refine SEQ (XG (UU 4 [(11, B (decide ((k : Int) < (a.length : Int))))] (NI (decide ((k : Int) < (a.length : Int))) (dT fun h3 bh3 => ?_) (dF fun h3 bh3 => ?_))))
 ·
  obtain ⟨y4, ys5, rfl, hx_y4, hd_y4, hl_y4⟩ := drop_cons hd hk LO
  have hfm := flat_mem hx_y4
  refine XK (SEQ (BLOCK (RG (UU 4 [(14, .v (.slice a1 a.length a.length)), (15, I (k : Int)), (16, .v (.slice a_a a.length a_c)), (17, I (k : Int))] ?_))))
  obtain ⟨a6, c7, hel9, hi8, hi8_cap⟩ := sl_view ha hx_y4
  have hi8_len := hi8.len
  refine OPC (IX 174 (.tmp 16) (.tmp 17) 18 0 a_a a.length a_c .i64 (k : Int) 276 1 (Rd.some ha LO) LO LO (OPC (LE 276 (.tmp 18) 19 276 a_a (k * 1) 0 ([.slice a6 y4.length c7]) (.slice a6 y4.length c7) (fun w hw => hel9.fr hw.fr) (OPC (CX 20 (fun w hw => toPinS_c w y4 a6 c7 (hi8.fr hw.fr) LA) ?_)))))
  rintro ⟨a10, c11⟩
  refine FACT (a.length = out.length) (fun w hw => (SlO.lenE (hw.own 0 rfl)).1) (fun hln12 => ?_)
  obtain ⟨x13, hx14⟩ : ∃ y, out[k]? = some y := ⟨_, List.getElem?_eq_getElem LO⟩
  refine OPC (IX 46 (.tmp 14) (.tmp 15) 21 0 a1 a.length a.length .i64 (k : Int) 155 1 ha2 LO LO (OPC (STOREN 155 (.tmp 21) (.tmp 20) 0 KR 155 (sl 167 pinL) a1 a.length a.length k out [0, 0] [slA 167 pinL (.slice a10 y4.length c11) y4] _ rfl y4 LO (.slice a10 y4.length c11) KR KR KR (nestRep (e' := 0) (x := y4)) (ENDOPS (OUTN (NEXT (RG (UU 2 [(13, I (wr ((k : Int) + 1)))] (CS 13 (vi (wr ((k : Int) + 1))) (vi ((k + 1 : Nat) : Int)) VC (UU 1 [(4, I ((k + 1 : Nat) : Int))] (ENDOPS (BK (k + 1, ys5, out.set k y4) [0, 3, 4] 0 [0] ⟨hl_y4, hd_y4, by rw [hv0]; exact set_next hk hx_y4⟩ (by simp)))))))))))))
 obtain rfl := drop_nil hk LO
 refine EXIT (PASS trivial (PASS trivial (OUT (NEXT (XG (UU 2 [(2, .v (.slice a1 a.length a.length))] (XN (RET ?_))))))))
 have efin : a = out := by rw [hv0]; simp [show k = a.length by simpa using hk]
 refine FIN (.slice a1 a.length a.length) KR (a1, a.length) ?_ [0] ?_
 · (rw [efin] <;> rfl)
 (rw [efin] <;> rfl)

theorem toWheel_c (W : World) (a : Wheel) (a8a : Option Addr) (a8c : Nat) (ha8 : Rd (sl 290 pinL) W a8a a.spoke) (hb : a.spoke.length ≤ 1048576) (hf : a.spoke.flatten.length ≤ 1048576) : Spec Tryz.prog W [] 279 #[.agg #[.slice a8a a.spoke.length a8c]] (⟨HH, fun p => .agg #[.slice p.1 a.spoke.length p.2], fun p => [slA 155 (sl 167 pinL) (.slice p.1 a.spoke.length p.2) a.spoke]⟩) := by
 refine ENTER0 (N := 9) (vs := [.agg #[.slice a8a a.spoke.length a8c]]) Tryz.func279 rfl rfl (NL rfl) ?_
 have ha8len := ha8.len
 refine XG (UL 2 [(1, .p 0 0), (2, .p 1 0)] [(176, [.slice a8a a.spoke.length a8c]), (48, [.slice none 0 0])] (NR (UL 1 [(3, .p 2 0)] [(176, [.slice a8a a.spoke.length a8c]), (48, [.slice none 0 0]), (48, [.slice none 0 0])] (NR (UU 2 [(5, .v (.slice a8a a.spoke.length a8c))] (OPC (CX 6 (fun w hw => toPinSS_c w a.spoke a8a a8c (ha8.fr hw.fr) LA LA) ?_)))))))
 rintro ⟨a1, c2⟩
 refine UL 2 [] [(176, [.slice a8a a.spoke.length a8c]), (48, [.slice none 0 0]), (48, [.slice a1 a.spoke.length c2])] (NR (UL 2 [] [(176, [.slice a8a a.spoke.length a8c]), (48, [.slice a1 a.spoke.length c2]), (48, [.slice a1 a.spoke.length c2])] (XF rfl (.agg #[.slice a1 a.spoke.length c2]) (a1, c2) [0] rfl)))

theorem toCabin_c (W : World) (a : Cabin) (a6a : Option Addr) (a6c : Nat) (ha6 : Rd entryL W a6a a.row) (a7a : Option Addr) (a7c : Nat) (ha7 : Rd (sl 290 pinL) W a7a a.wheel.spoke) (hs : CabinSz a) : Spec Tryz.prog W [] 201 #[.agg (caC a a6a a6c a7a a7c).toArray] (⟨HH × HH, fun p => .agg (caC a p.1.1 p.1.2 p.2.1 p.2.2).toArray, fun p => [slA 142 entryL (.slice p.1.1 a.row.length p.1.2) a.row, slA 155 (sl 167 pinL) (.slice p.2.1 a.wheel.spoke.length p.2.2) a.wheel.spoke]⟩) := by
 refine ENTER0 (N := 17) (vs := [.agg (caC a a6a a6c a7a a7c).toArray]) Tryz.func201 rfl rfl (NL rfl) ?_
 have hs9 : a.row.length ≤ 1048576 ∧ a.wheel.spoke.length ≤ 1048576 ∧ a.wheel.spoke.flatten.length ≤ 1048576 := hs
 have ha6len := ha6.len
 have ha7len := ha7.len
 refine XG (UL 2 [(1, .p 0 0), (2, .p 1 0)] [(178, (caC a a6a a6c a7a a7c)), (50, [vi 0, vi 0, vi 0, vi 0, vi 0, .slice none 0 0, .slice none 0 0])] (NR (UL 1 [(3, .p 2 0)] [(178, (caC a a6a a6c a7a a7c)), (50, [vi 0, vi 0, vi 0, vi 0, vi 0, .slice none 0 0, .slice none 0 0]), (50, [vi 0, vi 0, vi 0, vi 0, vi 0, .slice none 0 0, .slice none 0 0])] (NR (UU 2 [(5, .v (.agg (ledgerE a.seats).toArray))] (OPC (CX 6 (fun w hw => toLedger_c w a.seats) ?_)))))))
 rintro ⟨⟩
 refine UL 2 [] [(178, (caC a a6a a6c a7a a7c)), (50, [vi 0, vi 0, vi 0, vi 0, vi 0, .slice none 0 0, .slice none 0 0]), (50, [vi a.seats.total, vi a.seats.free, vi a.seats.held, vi a.seats.sold, vi a.seats.tied, .slice none 0 0, .slice none 0 0])] (NR (UU 2 [(9, .v (.slice a6a a.row.length a6c))] (OPC (CX 10 (fun w hw => toEntryS_c w a.row a6a a6c (ha6.fr hw.fr) LA) ?_))))
 rintro ⟨a1, c2⟩
 refine UL 2 [] [(178, (caC a a6a a6c a7a a7c)), (50, [vi 0, vi 0, vi 0, vi 0, vi 0, .slice none 0 0, .slice none 0 0]), (50, [vi a.seats.total, vi a.seats.free, vi a.seats.held, vi a.seats.sold, vi a.seats.tied, .slice a1 a.row.length c2, .slice none 0 0])] (NR (UU 2 [(13, .v (.agg #[.slice a7a a.wheel.spoke.length a7c]))] (OPC (CX 14 (fun w hw => toWheel_c w a.wheel a7a a7c (ha7.fr hw.fr) LA LA) ?_))))
 rintro ⟨a3, c4⟩
 refine UL 2 [] [(178, (caC a a6a a6c a7a a7c)), (50, [vi 0, vi 0, vi 0, vi 0, vi 0, .slice none 0 0, .slice none 0 0]), (50, (caC a a1 c2 a3 c4))] (NR (UL 2 [] [(178, (caC a a6a a6c a7a a7c)), (50, (caC a a1 c2 a3 c4)), (50, (caC a a1 c2 a3 c4))] (XF rfl (.agg (caC a a1 c2 a3 c4).toArray) ((a1, c2), (a3, c4)) [0, 0] rfl)))

theorem toCabinS_c (W : World) (a : List Cabin) (a_a : Option Addr) (a_c : Nat) (ha : Rd (cabinLx 256 276 290) W a_a a) (hb : a.length ≤ 1048576) (hs : ∀ c ∈ a, CabinSz c) : Spec Tryz.prog W [] 103 #[.slice a_a a.length a_c] (⟨HH, fun p => .slice p.1 a.length p.2, fun p => [slA 50 (cabinLx 142 155 167) (.slice p.1 a.length p.2) a]⟩) := by
 refine ENTER0 (N := 23) (vs := [.slice a_a a.length a_c]) Tryz.func103 rfl rfl (NL rfl) ?_
 have ha_len := ha.len
 refine XG (UU 1 [] (NR (UU 2 [(6, I (a.length : Int))] (OPC (MAKEN 29 (.tmp 6) (.tmp 6) 7 29 KR (NL rfl) a.length KR KR 50 KR (cabinLx 142 155 167) 7 rfl (⟨(⟨0, 0, 0, 0, 0⟩ : Ledger), [], (⟨[]⟩ : Wheel)⟩ : Cabin) (.agg #[vi 0, vi 0, vi 0, vi 0, vi 0, .slice none 0 0, .slice none 0 0]) 88 (fun w => cabinZ w) KR (by decide) LO LF (fun a1 ha2 => (UU 1 [(3, .v (.slice a1 a.length a.length))] (XN (SEQ (XG (UU 1 [(4, I 0)] (XN (BLOCK (LOOP (ι := Nat × (List Cabin) × (List Cabin)) (fun j => [(0, .v (.slice a_a a.length a_c)), (3, .v (.slice a1 a.length a.length)), (4, I (j.1 : Int))]) (fun j => []) (fun j => [slA 50 (cabinLx 142 155 167) (.slice a1 a.length a.length) j.2.2]) (fun j => j.1 + j.2.1.length = a.length ∧ a.drop j.1 = j.2.1 ∧ j.2.2 = a.take j.1 ++ List.replicate j.2.1.length (⟨⟨0, 0, 0, 0, 0⟩, [], ⟨[]⟩⟩ : Cabin)) (fun j => j.2.1.length) (0, a, List.replicate a.length (⟨(⟨0, 0, 0, 0, 0⟩ : Ledger), [], (⟨[]⟩ : Wheel)⟩ : Cabin)) [0, 3, 4] ⟨by simp, rfl, by simp⟩ KR rfl rfl ?_))))))))))))))
 rintro ⟨k, ys, out⟩ ⟨hk, hd, hv0⟩
 try dsimp only at hk hd hv0
 refine SEQ (XG (UU 4 [(11, B (decide ((k : Int) < (a.length : Int))))] (NI (decide ((k : Int) < (a.length : Int))) (dT fun h3 bh3 => ?_) (dF fun h3 bh3 => ?_))))
 ·
  obtain ⟨y4, ys5, rfl, hx_y4, hd_y4, hl_y4⟩ := drop_cons hd hk LO
  have hcz := hs _ (List.mem_of_getElem? hx_y4)
  refine XK (SEQ (BLOCK (RG (UU 4 [(14, .v (.slice a1 a.length a.length)), (15, I (k : Int)), (16, .v (.slice a_a a.length a_c)), (17, I (k : Int))] ?_))))
  obtain ⟨a6, c7, a9, c10, hel12, hi8, hi11, hi8_cap, hi11_cap⟩ := cabin_view ha hx_y4
  have hi8_len := hi8.len
  have hi11_len := hi11.len
  refine OPC (IX 60 (.tmp 16) (.tmp 17) 18 0 a_a a.length a_c .i64 (k : Int) 178 7 (Rd.some ha LO) LO LO (OPC (LE 178 (.tmp 18) 19 178 a_a (k * 7) 0 ((caC y4 a6 c7 a9 c10)) (.agg (caC y4 a6 c7 a9 c10).toArray) (fun w hw => hel12.fr hw.fr) (OPC (CX 20 (fun w hw => toCabin_c w y4 a6 c7 (hi8.fr hw.fr) a9 c10 (hi11.fr hw.fr) (by first | assumption | exact hs _ (List.mem_of_getElem? LS))) ?_)))))
  rintro ⟨⟨a13, c14⟩, ⟨a15, c16⟩⟩
  refine FACT (a.length = out.length) (fun w hw => (SlO.lenE (hw.own 0 rfl)).1) (fun hln17 => ?_)
  obtain ⟨x18, hx19⟩ : ∃ y, out[k]? = some y := ⟨_, List.getElem?_eq_getElem LO⟩
  refine OPC (IX 29 (.tmp 14) (.tmp 15) 21 0 a1 a.length a.length .i64 (k : Int) 50 7 ha2 LO LO (OPC (STOREN 50 (.tmp 21) (.tmp 20) 0 KR 50 (cabinLx 142 155 167) a1 a.length a.length k out [0, 0, 0] [slA 142 entryL (.slice a13 y4.row.length c14) y4.row, slA 155 (sl 167 pinL) (.slice a15 y4.wheel.spoke.length c16) y4.wheel.spoke] _ rfl y4 LO (.agg (caC y4 a13 c14 a15 c16).toArray) KR KR KR (cabinRep (c := y4)) (ENDOPS (OUTN (NEXT (RG (UU 2 [(13, I (wr ((k : Int) + 1)))] (CS 13 (vi (wr ((k : Int) + 1))) (vi ((k + 1 : Nat) : Int)) VC (UU 1 [(4, I ((k + 1 : Nat) : Int))] (ENDOPS (BK (k + 1, ys5, out.set k y4) [0, 3, 4] 0 [0] ⟨hl_y4, hd_y4, by rw [hv0]; exact set_next hk hx_y4⟩ (by simp)))))))))))))
 obtain rfl := drop_nil hk LO
 refine EXIT (PASS trivial (PASS trivial (OUT (NEXT (XG (UU 2 [(2, .v (.slice a1 a.length a.length))] (XN (RET ?_))))))))
 have efin : a = out := by rw [hv0]; simp [show k = a.length by simpa using hk]
 refine FIN (.slice a1 a.length a.length) KR (a1, a.length) ?_ [0] ?_
 · (rw [efin] <;> rfl)
 (rw [efin] <;> rfl)

theorem toHouse_c (W : World) (a : House) (a1a : Option Addr) (a1c : Nat) (ha1 : Rd intL W a1a a.rules.seats) (a2a : Option Addr) (a2c : Nat) (ha2 : Rd partyL W a2a a.parties) (a3a : Option Addr) (a3c : Nat) (ha3 : Rd (cabinLx 256 276 290) W a3a a.cabins) (a4a : Option Addr) (a4c : Nat) (ha4 : Rd intL W a4a a.todo) (a5a : Option Addr) (a5c : Nat) (ha5 : Rd intL W a5a a.jobs) (hs : HouseSz a) : Spec Tryz.prog W [] 32 #[.agg (hC a a1a a1c a2a a2c a3a a3c a4a a4c a5a a5c).toArray] (⟨HH × HH × HH × HH × HH, fun p => .agg (hC a p.1.1 p.1.2 p.2.1.1 p.2.1.2 p.2.2.1.1 p.2.2.1.2 p.2.2.2.1.1 p.2.2.2.1.2 p.2.2.2.2.1 p.2.2.2.2.2).toArray, fun p => [slA 3 intL (.slice p.1.1 a.rules.seats.length p.1.2) a.rules.seats, slA 56 partyL (.slice p.2.1.1 a.parties.length p.2.1.2) a.parties, slA 50 (cabinLx 142 155 167) (.slice p.2.2.1.1 a.cabins.length p.2.2.1.2) a.cabins, slA 3 intL (.slice p.2.2.2.1.1 a.todo.length p.2.2.2.1.2) a.todo, slA 3 intL (.slice p.2.2.2.2.1 a.jobs.length p.2.2.2.2.2) a.jobs]⟩) := by
 refine ENTER0 (N := 31) (vs := [.agg (hC a a1a a1c a2a a2c a3a a3c a4a a4c a5a a5c).toArray]) Tryz.func32 rfl rfl (NL rfl) ?_
 have hs9 := hs.1; have hs8 := hs.2.1; have hs7 := hs.2.2.1; have hs6 := hs.2.2.2.1; have hs5 := hs.2.2.2.2.1
 have ha1len := ha1.len
 have ha2len := ha2.len
 have ha3len := ha3.len
 have ha4len := ha4.len
 have ha5len := ha5.len
 refine XG (UL 2 [(1, .p 0 0), (2, .p 1 0)] [(62, (hC a a1a a1c a2a a2c a3a a3c a4a a4c a5a a5c)), (31, hZ)] (NR (UL 1 [(3, .p 2 0)] [(62, (hC a a1a a1c a2a a2c a3a a3c a4a a4c a5a a5c)), (31, hZ), (31, hZ)] (NR (UU 2 [(5, .v (.agg (rC a.rules a1a a1c).toArray))] ?_)))))
 refine OPC (CX 6 (fun w hw => toRules_c w a.rules a1a a1c (ha1.fr hw.fr) LQ) ?_)
 rintro ⟨a1, c2⟩
 refine UL 2 [] [(62, (hC a a1a a1c a2a a2c a3a a3c a4a a4c a5a a5c)), (31, hZ), (31, [.slice a1 a.rules.seats.length c2, vi a.rules.tiers, vi a.rules.room, vi a.rules.size, vi a.rules.period, vi a.rules.window, vi a.rules.rest, vi a.rules.tries, vi a.rules.crew, vi 0, vi 0, .slice none 0 0, .slice none 0 0, .slice none 0 0, .slice none 0 0])] (NR (UL 4 [] [(62, (hC a a1a a1c a2a a2c a3a a3c a4a a4c a5a a5c)), (31, hZ), (31, [.slice a1 a.rules.seats.length c2, vi a.rules.tiers, vi a.rules.room, vi a.rules.size, vi a.rules.period, vi a.rules.window, vi a.rules.rest, vi a.rules.tries, vi a.rules.crew, vi a.now, vi 0, .slice none 0 0, .slice none 0 0, .slice none 0 0, .slice none 0 0])] (NR ?_)))
 refine UL 4 [] [(62, (hC a a1a a1c a2a a2c a3a a3c a4a a4c a5a a5c)), (31, hZ), (31, (hD a a1 a.rules.seats.length c2 none 0 0 none 0 0 none 0 0 none 0 0))] (NR (UU 2 [(15, .v (.slice a2a a.parties.length a2c))] (OPC (CX 16 (fun w hw => toPartyS_c w a.parties a2a a2c (ha2.fr hw.fr) LA) ?_))))
 rintro ⟨a3, c4⟩
 refine UL 2 [] [(62, (hC a a1a a1c a2a a2c a3a a3c a4a a4c a5a a5c)), (31, hZ), (31, (hD a a1 a.rules.seats.length c2 a3 a.parties.length c4 none 0 0 none 0 0 none 0 0))] (NR (UU 2 [(19, .v (.slice a3a a.cabins.length a3c))] (OPC (CX 20 (fun w hw => toCabinS_c w a.cabins a3a a3c (ha3.fr hw.fr) LA (by first | assumption | exact hs.2.2.2.2.2)) ?_))))
 rintro ⟨a5, c6⟩
 refine UL 2 [] [(62, (hC a a1a a1c a2a a2c a3a a3c a4a a4c a5a a5c)), (31, hZ), (31, (hD a a1 a.rules.seats.length c2 a3 a.parties.length c4 a5 a.cabins.length c6 none 0 0 none 0 0))] (NR (UU 2 [(23, .v (.slice a4a a.todo.length a4c))] (OPC (CX 24 (fun w hw => toIntS_c w a.todo a4a a4c (ha4.fr hw.fr) LA) ?_))))
 rintro ⟨a7, c8⟩
 refine UL 2 [] [(62, (hC a a1a a1c a2a a2c a3a a3c a4a a4c a5a a5c)), (31, hZ), (31, (hD a a1 a.rules.seats.length c2 a3 a.parties.length c4 a5 a.cabins.length c6 a7 a.todo.length c8 none 0 0))] (NR (UU 2 [(27, .v (.slice a5a a.jobs.length a5c))] (OPC (CX 28 (fun w hw => toIntS_c w a.jobs a5a a5c (ha5.fr hw.fr) LA) ?_))))
 rintro ⟨a9, c10⟩
 refine UL 2 [] [(62, (hC a a1a a1c a2a a2c a3a a3c a4a a4c a5a a5c)), (31, hZ), (31, (hC a a1 c2 a3 c4 a5 c6 a7 c8 a9 c10))] (NR (UL 2 [] [(62, (hC a a1a a1c a2a a2c a3a a3c a4a a4c a5a a5c)), (31, (hC a a1 c2 a3 c4 a5 c6 a7 c8 a9 c10)), (31, (hC a a1 c2 a3 c4 a5 c6 a7 c8 a9 c10))] (XN (RET ?_))))
 refine FIN (.agg (hC a a1 c2 a3 c4 a5 c6 a7 c8 a9 c10).toArray) KR ((a1, c2), (a3, c4), (a5, c6), (a7, c8), (a9, c10)) ?_ [0, 0, 0, 0, 0] ?_
 · rfl
 rfl

theorem eqIntS_c (W : World) (a : List Int) (a_a : Option Addr) (a_c : Nat) (ha : Rd intL W a_a a) (b : List Int) (b_a : Option Addr) (b_c : Nat) (hb : Rd intL W b_a b) : Spec Tryz.prog W [] 46 #[.slice a_a a.length a_c, .slice b_a b.length b_c] (RV (.bool (eqInts a b))) := by
 refine ENTER0 (N := 26) (vs := [.slice a_a a.length a_c, .slice b_a b.length b_c]) Tryz.func46 rfl rfl (NL rfl) ?_
 have ha_len := ha.len
 have hb_len := hb.len
 refine XG (UU 1 [] (XN (SEQ (XG (UU 5 [(10, B ((a.length : Int) != (b.length : Int)))] (NI ((a.length : Int) != (b.length : Int)) (aT bne_iff_ne.1 fun h1 bh1 => ?_) (aT bneF fun h1 bh1 => ?_)))))))
 · refine XG (RB rfl 4 false (by simp [RV, eqInts_ne (a := a) (b := b) LO]))
 refine XK (SEQ (XG (UU 1 [(5, I 0)] (XN (BLOCK (LOOP (ι := Nat × (List Int)) (fun j => [(0, .v (.slice a_a a.length a_c)), (1, .v (.slice b_a b.length b_c)), (5, I (j.1 : Int))]) (fun j => []) (fun j => []) (fun j => j.1 + j.2.length = a.length ∧ a.drop j.1 = j.2 ∧ eqInts a b = eqInts j.2 (b.drop j.1)) (fun j => j.2.length) (0, a) [0, 1, 5] ⟨by simp, rfl, rfl⟩ KR rfl rfl ?_))))))
 rintro ⟨k, ys⟩ ⟨hk, hd, hv0⟩
 try dsimp only at hk hd hv0
 refine SEQ (XG (UU 4 [(14, B (decide ((k : Int) < (a.length : Int))))] (NI (decide ((k : Int) < (a.length : Int))) (dT fun h2 bh2 => ?_) (dF fun h2 bh2 => ?_))))
 ·
  obtain ⟨y3, ys4, rfl, hx_y3, hd_y3, hl_y3⟩ := drop_cons hd hk LO
  refine XK (SEQ (BLOCK (SEQ (REGIONQ KR KR (QU 2 [(17, .v (.slice a_a a.length a_c)), (18, I (k : Int))] (QIX 24 (.tmp 17) (.tmp 18) 19 0 a_a a.length a_c .i64 (k : Int) 3 1 (Rd.some ha LO) LO LO (QLE 3 (.tmp 19) 20 3 a_a (k * 1) 0 ([vi y3]) (vi y3) (fun w hw => (ha.fr hw.fr).flat hx_y3) (QU 2 [(21, .v (.slice b_a b.length b_c)), (22, I (k : Int))] ?_))))))))
  obtain ⟨x5, hx6⟩ : ∃ y, b[k]? = some y := ⟨_, List.getElem?_eq_getElem LO⟩
  refine QIX 24 (.tmp 21) (.tmp 22) 23 0 b_a b.length b_c .i64 (k : Int) 3 1 (Rd.some hb LO) LO LO (QLE 3 (.tmp 23) 24 3 b_a (k * 1) 0 ([vi x5]) (vi x5) (fun w hw => (hb.fr hw.fr).flat hx6) (QU 1 [(25, B (y3 != x5))] (QEND rfl (NEXT (IFK (y3 != x5) (aT bne_iff_ne.1 fun h7 bh7 => ?_) (aT bneF fun h7 bh7 => ?_))))))
  · refine XG (RB rfl 4 false (by simp [RV, hv0, drop_get ‹b[k]? = some _›, eqInts, *]))
  refine SKIP (OUTN (NEXT (RG (UU 2 [(16, I (wr ((k : Int) + 1)))] (CS 16 (vi (wr ((k : Int) + 1))) (vi ((k + 1 : Nat) : Int)) VC (UU 1 [(5, I ((k + 1 : Nat) : Int))] (ENDOPS (BK (k + 1, ys4) [0, 1, 5] 0 [] ⟨hl_y3, hd_y3, hv0.trans (by simp [eqInts, drop_get ‹b[k]? = some _›, *])⟩ (by simp)))))))))
 obtain rfl := drop_nil hk LO
 refine EXIT (PASS trivial (PASS trivial (OUT (NEXT (XG (RB rfl 4 true (by simp [RV, hv0, eqInts, List.drop_eq_nil_of_le (show b.length ≤ k by simp at hk; omega)])))))))

theorem eqRules_c (W : World) (a : Rules) (a9a : Option Addr) (a9c : Nat) (ha9 : Rd intL W a9a a.seats) (b : Rules) (b9a : Option Addr) (b9c : Nat) (hb9 : Rd intL W b9a b.seats) : Spec Tryz.prog W [] 107 #[.agg (rC a a9a a9c).toArray, .agg (rC b b9a b9c).toArray] (RV (.bool (eqRules a b))) := by
 refine ENTER0 (N := 51) (vs := [.agg (rC a a9a a9c).toArray, .agg (rC b b9a b9c).toArray]) Tryz.func107 rfl rfl (NL rfl) ?_
 have ha9len := ha9.len
 have hb9len := hb9.len
 refine XG (UL 3 [(2, .p 0 0), (3, .p 1 0)] [(26, (rC a a9a a9c)), (26, (rC b b9a b9c))] (XN (SEQ (XG (UU 4 [(6, .v (.slice a9a a.seats.length a9c)), (8, .v (.slice b9a b.seats.length b9c))] (OPC (CX 9 (fun w hw => eqIntS_c w a.seats a9a a9c (ha9.fr hw.fr) b.seats b9a b9c (hb9.fr hw.fr)) ?_)))))))
 rintro ⟨⟩
 refine UU 1 [(10, B (!(eqInts a.seats b.seats)))] (NI (!(eqInts a.seats b.seats)) (aT notT fun h1 bh1 => ?_) (aT notF fun h1 bh1 => ?_))
 · refine XG (RB rfl 4 false z10)
 refine XK (SEQ (XG (UU 5 [(15, B (a.tiers != b.tiers))] (NI (a.tiers != b.tiers) (aT bne_iff_ne.1 fun h2 bh2 => ?_) (aT bneF fun h2 bh2 => ?_)))))
 · refine XG (RB rfl 4 false z10)
 refine XK (SEQ (XG (UU 5 [(20, B (a.room != b.room))] (NI (a.room != b.room) (aT bne_iff_ne.1 fun h3 bh3 => ?_) (aT bneF fun h3 bh3 => ?_)))))
 · refine XG (RB rfl 4 false z10)
 refine XK (SEQ (XG (UU 5 [(25, B (a.size != b.size))] (NI (a.size != b.size) (aT bne_iff_ne.1 fun h4 bh4 => ?_) (aT bneF fun h4 bh4 => ?_)))))
 · refine XG (RB rfl 4 false z10)
 refine XK (SEQ (XG (UU 5 [(30, B (a.period != b.period))] (NI (a.period != b.period) (aT bne_iff_ne.1 fun h5 bh5 => ?_) (aT bneF fun h5 bh5 => ?_)))))
 · refine XG (RB rfl 4 false z10)
 refine XK (SEQ (XG (UU 5 [(35, B (a.window != b.window))] (NI (a.window != b.window) (aT bne_iff_ne.1 fun h6 bh6 => ?_) (aT bneF fun h6 bh6 => ?_)))))
 · refine XG (RB rfl 4 false z10)
 refine XK (SEQ (XG (UU 5 [(40, B (a.rest != b.rest))] (NI (a.rest != b.rest) (aT bne_iff_ne.1 fun h7 bh7 => ?_) (aT bneF fun h7 bh7 => ?_)))))
 · refine XG (RB rfl 4 false z10)
 refine XK (SEQ (XG (UU 5 [(45, B (a.tries != b.tries))] (NI (a.tries != b.tries) (aT bne_iff_ne.1 fun h8 bh8 => ?_) (aT bneF fun h8 bh8 => ?_)))))
 · refine XG (RB rfl 4 false z10)
 refine XK (SEQ (XG (UU 5 [(50, B (a.crew != b.crew))] (NI (a.crew != b.crew) (aT bne_iff_ne.1 fun h9 bh9 => ?_) (aT bneF fun h9 bh9 => ?_)))))
 · refine XG (RB rfl 4 false z10)
 refine XK (XG (RB rfl 4 true z10))

theorem eqParty_c (W : World) (a : Party) (b : Party) : Spec Tryz.prog W [] 205 #[.agg (paC a).toArray, .agg (paC b).toArray] (RV (.bool (eqParty a b))) := by
 refine ENTER0 (N := 55) (vs := [.agg (paC a).toArray, .agg (paC b).toArray]) Tryz.func205 rfl rfl (NL rfl) ?_
 refine XG (UL 3 [(2, .p 0 0), (3, .p 1 0)] [(56, partyE a), (56, partyE b)] (XN (SEQ (XG (UU 5 [(9, B (a.id != b.id))] (NI (a.id != b.id) (aT bne_iff_ne.1 fun h1 bh1 => ?_) (aT bneF fun h1 bh1 => ?_)))))))
 · refine XG (RB rfl 4 false z3)
 refine XK (SEQ (XG (UU 5 [(14, B (a.cabin != b.cabin))] (NI (a.cabin != b.cabin) (aT bne_iff_ne.1 fun h2 bh2 => ?_) (aT bneF fun h2 bh2 => ?_)))))
 · refine XG (RB rfl 4 false z3)
 refine XK (SEQ (XG (UU 5 [(19, B (a.from' != b.from'))] (NI (a.from' != b.from') (aT bne_iff_ne.1 fun h3 bh3 => ?_) (aT bneF fun h3 bh3 => ?_)))))
 · refine XG (RB rfl 4 false z3)
 refine XK (SEQ (XG (UU 5 [(24, B (a.size != b.size))] (NI (a.size != b.size) (aT bne_iff_ne.1 fun h4 bh4 => ?_) (aT bneF fun h4 bh4 => ?_)))))
 · refine XG (RB rfl 4 false z3)
 refine XK (SEQ (XG (UU 5 [(29, B (a.tier != b.tier))] (NI (a.tier != b.tier) (aT bne_iff_ne.1 fun h5 bh5 => ?_) (aT bneF fun h5 bh5 => ?_)))))
 · refine XG (RB rfl 4 false z3)
 refine XK (SEQ (XG (UU 5 [(34, B (a.since != b.since))] (NI (a.since != b.since) (aT bne_iff_ne.1 fun h6 bh6 => ?_) (aT bneF fun h6 bh6 => ?_)))))
 · refine XG (RB rfl 4 false z3)
 refine XK (SEQ (XG (UU 5 [(39, B (a.turn != b.turn))] (NI (a.turn != b.turn) (aT bne_iff_ne.1 fun h7 bh7 => ?_) (aT bneF fun h7 bh7 => ?_)))))
 · refine XG (RB rfl 4 false z3)
 refine XK (SEQ (XG (UU 5 [(44, B (a.state != b.state))] (NI (a.state != b.state) (aT bne_iff_ne.1 fun h8 bh8 => ?_) (aT bneF fun h8 bh8 => ?_)))))
 · refine XG (RB rfl 4 false z3)
 refine XK (SEQ (XG (UU 5 [(49, B (a.until' != b.until'))] (NI (a.until' != b.until') (aT bne_iff_ne.1 fun h9 bh9 => ?_) (aT bneF fun h9 bh9 => ?_)))))
 · refine XG (RB rfl 4 false z3)
 refine XK (SEQ (XG (UU 5 [(54, B (a.asked != b.asked))] (NI (a.asked != b.asked) (aT bne_iff_ne.1 fun h10 bh10 => ?_) (aT bneF fun h10 bh10 => ?_)))))
 · refine XG (RB rfl 4 false z3)
 refine XK (XG (RB rfl 4 true z3))

theorem eqEntry_c (W : World) (a : Entry) (b : Entry) : Spec Tryz.prog W [] 339 #[.agg #[vi a.level, vi a.turn, vi a.id, vi a.size], .agg #[vi b.level, vi b.turn, vi b.id, vi b.size]] (RV (.bool (eqEntry a b))) := by
 refine ENTER0 (N := 25) (vs := [.agg #[vi a.level, vi a.turn, vi a.id, vi a.size], .agg #[vi b.level, vi b.turn, vi b.id, vi b.size]]) Tryz.func339 rfl rfl (NL rfl) ?_
 refine XG (UL 3 [(2, .p 0 0), (3, .p 1 0)] [(142, entryE a), (142, entryE b)] (XN (SEQ (XG (UU 5 [(9, B (a.level != b.level))] (NI (a.level != b.level) (aT bne_iff_ne.1 fun h1 bh1 => ?_) (aT bneF fun h1 bh1 => ?_)))))))
 · refine XG (RB rfl 4 false z4)
 refine XK (SEQ (XG (UU 5 [(14, B (a.turn != b.turn))] (NI (a.turn != b.turn) (aT bne_iff_ne.1 fun h2 bh2 => ?_) (aT bneF fun h2 bh2 => ?_)))))
 · refine XG (RB rfl 4 false z4)
 refine XK (SEQ (XG (UU 5 [(19, B (a.id != b.id))] (NI (a.id != b.id) (aT bne_iff_ne.1 fun h3 bh3 => ?_) (aT bneF fun h3 bh3 => ?_)))))
 · refine XG (RB rfl 4 false z4)
 refine XK (SEQ (XG (UU 5 [(24, B (a.size != b.size))] (NI (a.size != b.size) (aT bne_iff_ne.1 fun h4 bh4 => ?_) (aT bneF fun h4 bh4 => ?_)))))
 · refine XG (RB rfl 4 false z4)
 refine XK (XG (RB rfl 4 true z4))

theorem eqPin_c (W : World) (a : Pin) (b : Pin) : Spec Tryz.prog W [] 384 #[.agg #[vi a.at', vi a.id], .agg #[vi b.at', vi b.id]] (RV (.bool (eqPin a b))) := by
 refine ENTER0 (N := 15) (vs := [.agg #[vi a.at', vi a.id], .agg #[vi b.at', vi b.id]]) Tryz.func384 rfl rfl (NL rfl) ?_
 refine XG (UL 3 [(2, .p 0 0), (3, .p 1 0)] [(167, pinE a), (167, pinE b)] (XN (SEQ (XG (UU 5 [(9, B (a.at' != b.at'))] (NI (a.at' != b.at') (aT bne_iff_ne.1 fun h1 bh1 => ?_) (aT bneF fun h1 bh1 => ?_)))))))
 · refine XG (RB rfl 4 false z7)
 refine XK (SEQ (XG (UU 5 [(14, B (a.id != b.id))] (NI (a.id != b.id) (aT bne_iff_ne.1 fun h2 bh2 => ?_) (aT bneF fun h2 bh2 => ?_)))))
 · refine XG (RB rfl 4 false z7)
 refine XK (XG (RB rfl 4 true z7))

theorem eqLedger_c (W : World) (a : Ledger) (b : Ledger) : Spec Tryz.prog W [] 286 #[.agg (leC a).toArray, .agg (leC b).toArray] (RV (.bool (eqLedger a b))) := by
 refine ENTER0 (N := 30) (vs := [.agg (leC a).toArray, .agg (leC b).toArray]) Tryz.func286 rfl rfl (NL rfl) ?_
 refine XG (UL 3 [(2, .p 0 0), (3, .p 1 0)] [(44, ledgerE a), (44, ledgerE b)] (XN (SEQ (XG (UU 5 [(9, B (a.total != b.total))] (NI (a.total != b.total) (aT bne_iff_ne.1 fun h1 bh1 => ?_) (aT bneF fun h1 bh1 => ?_)))))))
 · refine XG (RB rfl 4 false z2)
 refine XK (SEQ (XG (UU 5 [(14, B (a.free != b.free))] (NI (a.free != b.free) (aT bne_iff_ne.1 fun h2 bh2 => ?_) (aT bneF fun h2 bh2 => ?_)))))
 · refine XG (RB rfl 4 false z2)
 refine XK (SEQ (XG (UU 5 [(19, B (a.held != b.held))] (NI (a.held != b.held) (aT bne_iff_ne.1 fun h3 bh3 => ?_) (aT bneF fun h3 bh3 => ?_)))))
 · refine XG (RB rfl 4 false z2)
 refine XK (SEQ (XG (UU 5 [(24, B (a.sold != b.sold))] (NI (a.sold != b.sold) (aT bne_iff_ne.1 fun h4 bh4 => ?_) (aT bneF fun h4 bh4 => ?_)))))
 · refine XG (RB rfl 4 false z2)
 refine XK (SEQ (XG (UU 5 [(29, B (a.tied != b.tied))] (NI (a.tied != b.tied) (aT bne_iff_ne.1 fun h5 bh5 => ?_) (aT bneF fun h5 bh5 => ?_)))))
 · refine XG (RB rfl 4 false z2)
 refine XK (XG (RB rfl 4 true z2))

theorem eqPartyS_c (W : World) (a : List Party) (a_a : Option Addr) (a_c : Nat) (ha : Rd partyL W a_a a) (b : List Party) (b_a : Option Addr) (b_c : Nat) (hb : Rd partyL W b_a b) : Spec Tryz.prog W [] 108 #[.slice a_a a.length a_c, .slice b_a b.length b_c] (RV (.bool (eqL eqParty a b))) := by
 refine ENTER0 (N := 27) (vs := [.slice a_a a.length a_c, .slice b_a b.length b_c]) Tryz.func108 rfl rfl (NL rfl) ?_
 have ha_len := ha.len
 have hb_len := hb.len
 refine XG (UU 1 [] (XN (SEQ (XG (UU 5 [(10, B ((a.length : Int) != (b.length : Int)))] (NI ((a.length : Int) != (b.length : Int)) (aT bne_iff_ne.1 fun h1 bh1 => ?_) (aT bneF fun h1 bh1 => ?_)))))))
 · refine XG (RB rfl 4 false (by simp [RV, eqL_ne (f := eqParty) (a := a) (b := b) LO]))
 refine XK (SEQ (XG (UU 1 [(5, I 0)] (XN (BLOCK (LOOP (ι := Nat × (List Party)) (fun j => [(0, .v (.slice a_a a.length a_c)), (1, .v (.slice b_a b.length b_c)), (5, I (j.1 : Int))]) (fun j => []) (fun j => []) (fun j => j.1 + j.2.length = a.length ∧ a.drop j.1 = j.2 ∧ eqL eqParty a b = eqL eqParty j.2 (b.drop j.1)) (fun j => j.2.length) (0, a) [0, 1, 5] ⟨by simp, rfl, rfl⟩ KR rfl rfl ?_))))))
 rintro ⟨k, ys⟩ ⟨hk, hd, hv0⟩
 try dsimp only at hk hd hv0
 refine SEQ (XG (UU 4 [(14, B (decide ((k : Int) < (a.length : Int))))] (NI (decide ((k : Int) < (a.length : Int))) (dT fun h2 bh2 => ?_) (dF fun h2 bh2 => ?_))))
 ·
  obtain ⟨y3, ys4, rfl, hx_y3, hd_y3, hl_y3⟩ := drop_cons hd hk LO
  refine XK (SEQ (BLOCK (SEQ (REGIONQ KR KR (QU 2 [(17, .v (.slice a_a a.length a_c)), (18, I (k : Int))] (QIX 28 (.tmp 17) (.tmp 18) 19 0 a_a a.length a_c .i64 (k : Int) 56 10 (Rd.some ha LO) LO LO (QLE 56 (.tmp 19) 20 56 a_a (k * 10) 0 (partyE y3) (.agg (partyE y3).toArray) (fun w hw => (ha.fr hw.fr).flat hx_y3) (QU 2 [(21, .v (.slice b_a b.length b_c)), (22, I (k : Int))] ?_))))))))
  obtain ⟨x5, hx6⟩ : ∃ y, b[k]? = some y := ⟨_, List.getElem?_eq_getElem LO⟩
  refine QIX 28 (.tmp 21) (.tmp 22) 23 0 b_a b.length b_c .i64 (k : Int) 56 10 (Rd.some hb LO) LO LO (QLE 56 (.tmp 23) 24 56 b_a (k * 10) 0 (partyE x5) (.agg (partyE x5).toArray) (fun w hw => (hb.fr hw.fr).flat hx6) (QX 25 (fun w hw => eqParty_c w y3 x5) (QU 1 [(26, B (!(eqParty y3 x5)))] (QEND rfl (NEXT (IFK (!(eqParty y3 x5)) (aT notT fun h7 bh7 => ?_) (aT notF fun h7 bh7 => ?_)))))))
  · refine XG (RB rfl 4 false z8)
  refine SKIP (OUTN (NEXT (RG (UU 2 [(16, I (wr ((k : Int) + 1)))] (CS 16 (vi (wr ((k : Int) + 1))) (vi ((k + 1 : Nat) : Int)) VC (UU 1 [(5, I ((k + 1 : Nat) : Int))] (ENDOPS (BK (k + 1, ys4) [0, 1, 5] 0 [] ⟨hl_y3, hd_y3, hv0.trans z9⟩ (by simp)))))))))
 obtain rfl := drop_nil hk LO
 refine EXIT (PASS trivial (PASS trivial (OUT (NEXT (XG (RB rfl 4 true z1))))))

theorem eqEntryS_c (W : World) (a : List Entry) (a_a : Option Addr) (a_c : Nat) (ha : Rd entryL W a_a a) (b : List Entry) (b_a : Option Addr) (b_c : Nat) (hb : Rd entryL W b_a b) : Spec Tryz.prog W [] 287 #[.slice a_a a.length a_c, .slice b_a b.length b_c] (RV (.bool (eqL eqEntry a b))) := by
 refine ENTER0 (N := 27) (vs := [.slice a_a a.length a_c, .slice b_a b.length b_c]) Tryz.func287 rfl rfl (NL rfl) ?_
 have ha_len := ha.len
 have hb_len := hb.len
 refine XG (UU 1 [] (XN (SEQ (XG (UU 5 [(10, B ((a.length : Int) != (b.length : Int)))] (NI ((a.length : Int) != (b.length : Int)) (aT bne_iff_ne.1 fun h1 bh1 => ?_) (aT bneF fun h1 bh1 => ?_)))))))
 · refine XG (RB rfl 4 false (by simp [RV, eqL_ne (f := eqEntry) (a := a) (b := b) LO]))
 refine XK (SEQ (XG (UU 1 [(5, I 0)] (XN (BLOCK (LOOP (ι := Nat × (List Entry)) (fun j => [(0, .v (.slice a_a a.length a_c)), (1, .v (.slice b_a b.length b_c)), (5, I (j.1 : Int))]) (fun j => []) (fun j => []) (fun j => j.1 + j.2.length = a.length ∧ a.drop j.1 = j.2 ∧ eqL eqEntry a b = eqL eqEntry j.2 (b.drop j.1)) (fun j => j.2.length) (0, a) [0, 1, 5] ⟨by simp, rfl, rfl⟩ KR rfl rfl ?_))))))
 rintro ⟨k, ys⟩ ⟨hk, hd, hv0⟩
 try dsimp only at hk hd hv0
 refine SEQ (XG (UU 4 [(14, B (decide ((k : Int) < (a.length : Int))))] (NI (decide ((k : Int) < (a.length : Int))) (dT fun h2 bh2 => ?_) (dF fun h2 bh2 => ?_))))
 ·
  obtain ⟨y3, ys4, rfl, hx_y3, hd_y3, hl_y3⟩ := drop_cons hd hk LO
  refine XK (SEQ (BLOCK (SEQ (REGIONQ KR KR (QU 2 [(17, .v (.slice a_a a.length a_c)), (18, I (k : Int))] (QIX 45 (.tmp 17) (.tmp 18) 19 0 a_a a.length a_c .i64 (k : Int) 142 4 (Rd.some ha LO) LO LO (QLE 142 (.tmp 19) 20 142 a_a (k * 4) 0 (entryE y3) (.agg (entryE y3).toArray) (fun w hw => (ha.fr hw.fr).flat hx_y3) (QU 2 [(21, .v (.slice b_a b.length b_c)), (22, I (k : Int))] ?_))))))))
  obtain ⟨x5, hx6⟩ : ∃ y, b[k]? = some y := ⟨_, List.getElem?_eq_getElem LO⟩
  refine QIX 45 (.tmp 21) (.tmp 22) 23 0 b_a b.length b_c .i64 (k : Int) 142 4 (Rd.some hb LO) LO LO (QLE 142 (.tmp 23) 24 142 b_a (k * 4) 0 (entryE x5) (.agg (entryE x5).toArray) (fun w hw => (hb.fr hw.fr).flat hx6) (QX 25 (fun w hw => eqEntry_c w y3 x5) (QU 1 [(26, B (!(eqEntry y3 x5)))] (QEND rfl (NEXT (IFK (!(eqEntry y3 x5)) (aT notT fun h7 bh7 => ?_) (aT notF fun h7 bh7 => ?_)))))))
  · refine XG (RB rfl 4 false z8)
  refine SKIP (OUTN (NEXT (RG (UU 2 [(16, I (wr ((k : Int) + 1)))] (CS 16 (vi (wr ((k : Int) + 1))) (vi ((k + 1 : Nat) : Int)) VC (UU 1 [(5, I ((k + 1 : Nat) : Int))] (ENDOPS (BK (k + 1, ys4) [0, 1, 5] 0 [] ⟨hl_y3, hd_y3, hv0.trans z9⟩ (by simp)))))))))
 obtain rfl := drop_nil hk LO
 refine EXIT (PASS trivial (PASS trivial (OUT (NEXT (XG (RB rfl 4 true z1))))))

theorem eqPinS_c (W : World) (a : List Pin) (a_a : Option Addr) (a_c : Nat) (ha : Rd pinL W a_a a) (b : List Pin) (b_a : Option Addr) (b_c : Nat) (hb : Rd pinL W b_a b) : Spec Tryz.prog W [] 367 #[.slice a_a a.length a_c, .slice b_a b.length b_c] (RV (.bool (eqL eqPin a b))) := by
 refine ENTER0 (N := 27) (vs := [.slice a_a a.length a_c, .slice b_a b.length b_c]) Tryz.func367 rfl rfl (NL rfl) ?_
 have ha_len := ha.len
 have hb_len := hb.len
 refine XG (UU 1 [] (XN (SEQ (XG (UU 5 [(10, B ((a.length : Int) != (b.length : Int)))] (NI ((a.length : Int) != (b.length : Int)) (aT bne_iff_ne.1 fun h1 bh1 => ?_) (aT bneF fun h1 bh1 => ?_)))))))
 · refine XG (RB rfl 4 false (by simp [RV, eqL_ne (f := eqPin) (a := a) (b := b) LO]))
 refine XK (SEQ (XG (UU 1 [(5, I 0)] (XN (BLOCK (LOOP (ι := Nat × (List Pin)) (fun j => [(0, .v (.slice a_a a.length a_c)), (1, .v (.slice b_a b.length b_c)), (5, I (j.1 : Int))]) (fun j => []) (fun j => []) (fun j => j.1 + j.2.length = a.length ∧ a.drop j.1 = j.2 ∧ eqL eqPin a b = eqL eqPin j.2 (b.drop j.1)) (fun j => j.2.length) (0, a) [0, 1, 5] ⟨by simp, rfl, rfl⟩ KR rfl rfl ?_))))))
 rintro ⟨k, ys⟩ ⟨hk, hd, hv0⟩
 try dsimp only at hk hd hv0
 refine SEQ (XG (UU 4 [(14, B (decide ((k : Int) < (a.length : Int))))] (NI (decide ((k : Int) < (a.length : Int))) (dT fun h2 bh2 => ?_) (dF fun h2 bh2 => ?_))))
 ·
  obtain ⟨y3, ys4, rfl, hx_y3, hd_y3, hl_y3⟩ := drop_cons hd hk LO
  refine XK (SEQ (BLOCK (SEQ (REGIONQ KR KR (QU 2 [(17, .v (.slice a_a a.length a_c)), (18, I (k : Int))] (QIX 155 (.tmp 17) (.tmp 18) 19 0 a_a a.length a_c .i64 (k : Int) 167 2 (Rd.some ha LO) LO LO (QLE 167 (.tmp 19) 20 167 a_a (k * 2) 0 (pinE y3) (.agg (pinE y3).toArray) (fun w hw => (ha.fr hw.fr).flat hx_y3) (QU 2 [(21, .v (.slice b_a b.length b_c)), (22, I (k : Int))] ?_))))))))
  obtain ⟨x5, hx6⟩ : ∃ y, b[k]? = some y := ⟨_, List.getElem?_eq_getElem LO⟩
  refine QIX 155 (.tmp 21) (.tmp 22) 23 0 b_a b.length b_c .i64 (k : Int) 167 2 (Rd.some hb LO) LO LO (QLE 167 (.tmp 23) 24 167 b_a (k * 2) 0 (pinE x5) (.agg (pinE x5).toArray) (fun w hw => (hb.fr hw.fr).flat hx6) (QX 25 (fun w hw => eqPin_c w y3 x5) (QU 1 [(26, B (!(eqPin y3 x5)))] (QEND rfl (NEXT (IFK (!(eqPin y3 x5)) (aT notT fun h7 bh7 => ?_) (aT notF fun h7 bh7 => ?_)))))))
  · refine XG (RB rfl 4 false z8)
  refine SKIP (OUTN (NEXT (RG (UU 2 [(16, I (wr ((k : Int) + 1)))] (CS 16 (vi (wr ((k : Int) + 1))) (vi ((k + 1 : Nat) : Int)) VC (UU 1 [(5, I ((k + 1 : Nat) : Int))] (ENDOPS (BK (k + 1, ys4) [0, 1, 5] 0 [] ⟨hl_y3, hd_y3, hv0.trans z9⟩ (by simp)))))))))
 obtain rfl := drop_nil hk LO
 refine EXIT (PASS trivial (PASS trivial (OUT (NEXT (XG (RB rfl 4 true z1))))))

theorem eqPinSS_c (W : World) (a : List (List Pin)) (a_a : Option Addr) (a_c : Nat) (ha : Rd (sl 167 pinL) W a_a a) (b : List (List Pin)) (b_a : Option Addr) (b_c : Nat) (hb : Rd (sl 167 pinL) W b_a b) : Spec Tryz.prog W [] 340 #[.slice a_a a.length a_c, .slice b_a b.length b_c] (RV (.bool (eqL (eqL eqPin) a b))) := by
 refine ENTER0 (N := 27) (vs := [.slice a_a a.length a_c, .slice b_a b.length b_c]) Tryz.func340 rfl rfl (NL rfl) ?_
 have ha_len := ha.len
 have hb_len := hb.len
 refine XG (UU 1 [] (XN (SEQ (XG (UU 5 [(10, B ((a.length : Int) != (b.length : Int)))] (NI ((a.length : Int) != (b.length : Int)) (aT bne_iff_ne.1 fun h1 bh1 => ?_) (aT bneF fun h1 bh1 => ?_)))))))
 · refine XG (RB rfl 4 false (by simp [RV, eqL_ne (f := (eqL eqPin)) (a := a) (b := b) LO]))
 refine XK (SEQ (XG (UU 1 [(5, I 0)] (XN (BLOCK (LOOP (ι := Nat × (List (List Pin))) (fun j => [(0, .v (.slice a_a a.length a_c)), (1, .v (.slice b_a b.length b_c)), (5, I (j.1 : Int))]) (fun j => []) (fun j => []) (fun j => j.1 + j.2.length = a.length ∧ a.drop j.1 = j.2 ∧ eqL (eqL eqPin) a b = eqL (eqL eqPin) j.2 (b.drop j.1)) (fun j => j.2.length) (0, a) [0, 1, 5] ⟨by simp, rfl, rfl⟩ KR rfl rfl ?_))))))
 rintro ⟨k, ys⟩ ⟨hk, hd, hv0⟩
 try dsimp only at hk hd hv0
 refine SEQ (XG (UU 4 [(14, B (decide ((k : Int) < (a.length : Int))))] (NI (decide ((k : Int) < (a.length : Int))) (dT fun h2 bh2 => ?_) (dF fun h2 bh2 => ?_))))
 ·
  obtain ⟨y3, ys4, rfl, hx_y3, hd_y3, hl_y3⟩ := drop_cons hd hk LO
  refine XK (SEQ (BLOCK (SEQ (REGIONQ KR KR (QU 2 [(17, .v (.slice a_a a.length a_c)), (18, I (k : Int))] ?_)))))
  obtain ⟨a5, c6, hel8, hi7, hi7_cap⟩ := sl_view ha hx_y3
  have hi7_len := hi7.len
  refine QIX 46 (.tmp 17) (.tmp 18) 19 0 a_a a.length a_c .i64 (k : Int) 155 1 (Rd.some ha LO) LO LO (QLE 155 (.tmp 19) 20 155 a_a (k * 1) 0 ([.slice a5 y3.length c6]) (.slice a5 y3.length c6) (fun w hw => hel8.fr hw.fr) (QU 2 [(21, .v (.slice b_a b.length b_c)), (22, I (k : Int))] ?_))
  obtain ⟨x9, hx10⟩ : ∃ y, b[k]? = some y := ⟨_, List.getElem?_eq_getElem LO⟩
  obtain ⟨a11, c12, hel14, hi13, hi13_cap⟩ := sl_view hb hx10
  have hi13_len := hi13.len
  refine QIX 46 (.tmp 21) (.tmp 22) 23 0 b_a b.length b_c .i64 (k : Int) 155 1 (Rd.some hb LO) LO LO (QLE 155 (.tmp 23) 24 155 b_a (k * 1) 0 ([.slice a11 x9.length c12]) (.slice a11 x9.length c12) (fun w hw => hel14.fr hw.fr) (QX 25 (fun w hw => eqPinS_c w y3 a5 c6 (hi7.fr hw.fr) x9 a11 c12 (hi13.fr hw.fr)) (QU 1 [(26, B (!(eqL eqPin y3 x9)))] (QEND rfl (NEXT (IFK (!(eqL eqPin y3 x9)) (aT notT fun h15 bh15 => ?_) (aT notF fun h15 bh15 => ?_)))))))
  · refine XG (RB rfl 4 false z8)
  refine SKIP (OUTN (NEXT (RG (UU 2 [(16, I (wr ((k : Int) + 1)))] (CS 16 (vi (wr ((k : Int) + 1))) (vi ((k + 1 : Nat) : Int)) VC (UU 1 [(5, I ((k + 1 : Nat) : Int))] (ENDOPS (BK (k + 1, ys4) [0, 1, 5] 0 [] ⟨hl_y3, hd_y3, hv0.trans z9⟩ (by simp)))))))))
 obtain rfl := drop_nil hk LO
 refine EXIT (PASS trivial (PASS trivial (OUT (NEXT (XG (RB rfl 4 true z1))))))

theorem eqWheel_c (W : World) (a : Wheel) (a8a : Option Addr) (a8c : Nat) (ha8 : Rd (sl 167 pinL) W a8a a.spoke) (b : Wheel) (b8a : Option Addr) (b8c : Nat) (hb8 : Rd (sl 167 pinL) W b8a b.spoke) : Spec Tryz.prog W [] 288 #[.agg #[.slice a8a a.spoke.length a8c], .agg #[.slice b8a b.spoke.length b8c]] (RV (.bool (eqL (eqL eqPin) (a).spoke (b).spoke))) := by
 refine ENTER0 (N := 11) (vs := [.agg #[.slice a8a a.spoke.length a8c], .agg #[.slice b8a b.spoke.length b8c]]) Tryz.func288 rfl rfl (NL rfl) ?_
 have ha8len := ha8.len
 have hb8len := hb8.len
 refine XG (UL 3 [(2, .p 0 0), (3, .p 1 0)] [(48, [.slice a8a a.spoke.length a8c]), (48, [.slice b8a b.spoke.length b8c])] (XN (SEQ (XG (UU 4 [(6, .v (.slice a8a a.spoke.length a8c)), (8, .v (.slice b8a b.spoke.length b8c))] (OPC (CX 9 (fun w hw => eqPinSS_c w a.spoke a8a a8c (ha8.fr hw.fr) b.spoke b8a b8c (hb8.fr hw.fr)) ?_)))))))
 rintro ⟨⟩
 refine UU 1 [(10, B (!(eqL (eqL eqPin) a.spoke b.spoke)))] (NI (!(eqL (eqL eqPin) a.spoke b.spoke)) (aT notT fun h1 bh1 => ?_) (aT notF fun h1 bh1 => ?_))
 · refine XG (RB rfl 4 false (by first | (simp [RV, eqL, *]; done) | (simp_all [RV, eqL]; done)))
 refine XK (XG (RB rfl 4 true (by first | (simp [RV, eqL, *]; done) | (simp_all [RV, eqL]; done))))

theorem eqCabin_c (W : World) (a : Cabin) (a6a : Option Addr) (a6c : Nat) (ha6 : Rd entryL W a6a a.row) (a7a : Option Addr) (a7c : Nat) (ha7 : Rd (sl 167 pinL) W a7a a.wheel.spoke) (b : Cabin) (b6a : Option Addr) (b6c : Nat) (hb6 : Rd entryL W b6a b.row) (b7a : Option Addr) (b7c : Nat) (hb7 : Rd (sl 167 pinL) W b7a b.wheel.spoke) : Spec Tryz.prog W [] 206 #[.agg (caC a a6a a6c a7a a7c).toArray, .agg (caC b b6a b6c b7a b7c).toArray] (RV (.bool (eqCabin a b))) := by
 refine ENTER0 (N := 23) (vs := [.agg (caC a a6a a6c a7a a7c).toArray, .agg (caC b b6a b6c b7a b7c).toArray]) Tryz.func206 rfl rfl (NL rfl) ?_
 have ha6len := ha6.len
 have ha7len := ha7.len
 have hb6len := hb6.len
 have hb7len := hb7.len
 refine XG (UL 3 [(2, .p 0 0), (3, .p 1 0)] [(50, (caC a a6a a6c a7a a7c)), (50, (caC b b6a b6c b7a b7c))] (XN (SEQ (XG (UU 4 [(6, .v (.agg (ledgerE a.seats).toArray)), (8, .v (.agg (ledgerE b.seats).toArray))] (OPC (CX 9 (fun w hw => eqLedger_c w a.seats b.seats) ?_)))))))
 rintro ⟨⟩
 refine UU 1 [(10, B (!(eqLedger a.seats b.seats)))] (NI (!(eqLedger a.seats b.seats)) (aT notT fun h1 bh1 => ?_) (aT notF fun h1 bh1 => ?_))
 · refine XG (RB rfl 4 false z5)
 refine XK (SEQ (XG (UU 4 [(12, .v (.slice a6a a.row.length a6c)), (14, .v (.slice b6a b.row.length b6c))] (OPC (CX 15 (fun w hw => eqEntryS_c w a.row a6a a6c (ha6.fr hw.fr) b.row b6a b6c (hb6.fr hw.fr)) ?_)))))
 rintro ⟨⟩
 refine UU 1 [(16, B (!(eqL eqEntry a.row b.row)))] (NI (!(eqL eqEntry a.row b.row)) (aT notT fun h2 bh2 => ?_) (aT notF fun h2 bh2 => ?_))
 · refine XG (RB rfl 4 false z5)
 refine XK (SEQ (XG (UU 4 [(18, .v (.agg #[.slice a7a a.wheel.spoke.length a7c])), (20, .v (.agg #[.slice b7a b.wheel.spoke.length b7c]))] (OPC (CX 21 (fun w hw => eqWheel_c w a.wheel a7a a7c (ha7.fr hw.fr) b.wheel b7a b7c (hb7.fr hw.fr)) ?_)))))
 rintro ⟨⟩
 refine UU 1 [(22, B (!(eqL (eqL eqPin) (a.wheel).spoke (b.wheel).spoke)))] (NI (!(eqL (eqL eqPin) (a.wheel).spoke (b.wheel).spoke)) (aT notT fun h3 bh3 => ?_) (aT notF fun h3 bh3 => ?_))
 · refine XG (RB rfl 4 false z5)
 refine XK (XG (RB rfl 4 true z5))

theorem eqCabinS_c (W : World) (a : List Cabin) (a_a : Option Addr) (a_c : Nat) (ha : Rd (cabinLx 142 155 167) W a_a a) (b : List Cabin) (b_a : Option Addr) (b_c : Nat) (hb : Rd (cabinLx 142 155 167) W b_a b) : Spec Tryz.prog W [] 109 #[.slice a_a a.length a_c, .slice b_a b.length b_c] (RV (.bool (eqL eqCabin a b))) := by
 refine ENTER0 (N := 27) (vs := [.slice a_a a.length a_c, .slice b_a b.length b_c]) Tryz.func109 rfl rfl (NL rfl) ?_
 have ha_len := ha.len
 have hb_len := hb.len
 refine XG (UU 1 [] (XN (SEQ (XG (UU 5 [(10, B ((a.length : Int) != (b.length : Int)))] (NI ((a.length : Int) != (b.length : Int)) (aT bne_iff_ne.1 fun h1 bh1 => ?_) (aT bneF fun h1 bh1 => ?_)))))))
 · refine XG (RB rfl 4 false (by simp [RV, eqL_ne (f := eqCabin) (a := a) (b := b) LO]))
 refine XK (SEQ (XG (UU 1 [(5, I 0)] (XN (BLOCK (LOOP (ι := Nat × (List Cabin)) (fun j => [(0, .v (.slice a_a a.length a_c)), (1, .v (.slice b_a b.length b_c)), (5, I (j.1 : Int))]) (fun j => []) (fun j => []) (fun j => j.1 + j.2.length = a.length ∧ a.drop j.1 = j.2 ∧ eqL eqCabin a b = eqL eqCabin j.2 (b.drop j.1)) (fun j => j.2.length) (0, a) [0, 1, 5] ⟨by simp, rfl, rfl⟩ KR rfl rfl ?_))))))
 rintro ⟨k, ys⟩ ⟨hk, hd, hv0⟩
 try dsimp only at hk hd hv0
 refine SEQ (XG (UU 4 [(14, B (decide ((k : Int) < (a.length : Int))))] (NI (decide ((k : Int) < (a.length : Int))) (dT fun h2 bh2 => ?_) (dF fun h2 bh2 => ?_))))
 ·
  obtain ⟨y3, ys4, rfl, hx_y3, hd_y3, hl_y3⟩ := drop_cons hd hk LO
  refine XK (SEQ (BLOCK (SEQ (REGIONQ KR KR (QU 2 [(17, .v (.slice a_a a.length a_c)), (18, I (k : Int))] ?_)))))
  obtain ⟨a5, c6, a8, c9, hel11, hi7, hi10, hi7_cap, hi10_cap⟩ := cabin_view ha hx_y3
  have hi7_len := hi7.len
  have hi10_len := hi10.len
  refine QIX 29 (.tmp 17) (.tmp 18) 19 0 a_a a.length a_c .i64 (k : Int) 50 7 (Rd.some ha LO) LO LO (QLE 50 (.tmp 19) 20 50 a_a (k * 7) 0 ((caC y3 a5 c6 a8 c9)) (.agg (caC y3 a5 c6 a8 c9).toArray) (fun w hw => hel11.fr hw.fr) (QU 2 [(21, .v (.slice b_a b.length b_c)), (22, I (k : Int))] ?_))
  obtain ⟨x12, hx13⟩ : ∃ y, b[k]? = some y := ⟨_, List.getElem?_eq_getElem LO⟩
  obtain ⟨a14, c15, a17, c18, hel20, hi16, hi19, hi16_cap, hi19_cap⟩ := cabin_view hb hx13
  have hi16_len := hi16.len
  have hi19_len := hi19.len
  refine QIX 29 (.tmp 21) (.tmp 22) 23 0 b_a b.length b_c .i64 (k : Int) 50 7 (Rd.some hb LO) LO LO (QLE 50 (.tmp 23) 24 50 b_a (k * 7) 0 ((caC x12 a14 c15 a17 c18)) (.agg (caC x12 a14 c15 a17 c18).toArray) (fun w hw => hel20.fr hw.fr) (QX 25 (fun w hw => eqCabin_c w y3 a5 c6 (hi7.fr hw.fr) a8 c9 (hi10.fr hw.fr) x12 a14 c15 (hi16.fr hw.fr) a17 c18 (hi19.fr hw.fr)) (QU 1 [(26, B (!(eqCabin y3 x12)))] (QEND rfl (NEXT (IFK (!(eqCabin y3 x12)) (aT notT fun h21 bh21 => ?_) (aT notF fun h21 bh21 => ?_)))))))
  · refine XG (RB rfl 4 false z8)
  refine SKIP (OUTN (NEXT (RG (UU 2 [(16, I (wr ((k : Int) + 1)))] (CS 16 (vi (wr ((k : Int) + 1))) (vi ((k + 1 : Nat) : Int)) VC (UU 1 [(5, I ((k + 1 : Nat) : Int))] (ENDOPS (BK (k + 1, ys4) [0, 1, 5] 0 [] ⟨hl_y3, hd_y3, hv0.trans z9⟩ (by simp)))))))))
 obtain rfl := drop_nil hk LO
 refine EXIT (PASS trivial (PASS trivial (OUT (NEXT (XG (RB rfl 4 true z1))))))

theorem eqHouse_c (W : World) (a : House) (a1a : Option Addr) (a1c : Nat) (ha1 : Rd intL W a1a a.rules.seats) (a2a : Option Addr) (a2c : Nat) (ha2 : Rd partyL W a2a a.parties) (a3a : Option Addr) (a3c : Nat) (ha3 : Rd (cabinLx 142 155 167) W a3a a.cabins) (a4a : Option Addr) (a4c : Nat) (ha4 : Rd intL W a4a a.todo) (a5a : Option Addr) (a5c : Nat) (ha5 : Rd intL W a5a a.jobs) (b : House) (b1a : Option Addr) (b1c : Nat) (hb1 : Rd intL W b1a b.rules.seats) (b2a : Option Addr) (b2c : Nat) (hb2 : Rd partyL W b2a b.parties) (b3a : Option Addr) (b3c : Nat) (hb3 : Rd (cabinLx 142 155 167) W b3a b.cabins) (b4a : Option Addr) (b4c : Nat) (hb4 : Rd intL W b4a b.todo) (b5a : Option Addr) (b5c : Nat) (hb5 : Rd intL W b5a b.jobs) : Spec Tryz.prog W [] 34 #[.agg (hC a a1a a1c a2a a2c a3a a3c a4a a4c a5a a5c).toArray, .agg (hC b b1a b1c b2a b2c b3a b3c b4a b4c b5a b5c).toArray] (RV (.bool (eqHouse a b))) := by
 refine ENTER0 (N := 45) (vs := [.agg (hC a a1a a1c a2a a2c a3a a3c a4a a4c a5a a5c).toArray, .agg (hC b b1a b1c b2a b2c b3a b3c b4a b4c b5a b5c).toArray]) Tryz.func34 rfl rfl (NL rfl) ?_
 have ha1len := ha1.len
 have ha2len := ha2.len
 have ha3len := ha3.len
 have ha4len := ha4.len
 have ha5len := ha5.len
 have hb1len := hb1.len
 have hb2len := hb2.len
 have hb3len := hb3.len
 have hb4len := hb4.len
 have hb5len := hb5.len
 refine XG (UL 3 [(2, .p 0 0), (3, .p 1 0)] [(31, (hC a a1a a1c a2a a2c a3a a3c a4a a4c a5a a5c)), (31, (hC b b1a b1c b2a b2c b3a b3c b4a b4c b5a b5c))] (XN (SEQ (XG (UU 4 [(6, .v (.agg (rC a.rules a1a a1c).toArray)), (8, .v (.agg (rC b.rules b1a b1c).toArray))] (OPC (CX 9 (fun w hw => eqRules_c w a.rules a1a a1c (ha1.fr hw.fr) b.rules b1a b1c (hb1.fr hw.fr)) ?_)))))))
 rintro ⟨⟩
 refine UU 1 [(10, B (!(eqRules a.rules b.rules)))] (NI (!(eqRules a.rules b.rules)) (aT notT fun h1 bh1 => ?_) (aT notF fun h1 bh1 => ?_))
 · refine XG (RB rfl 4 false z6)
 refine XK (SEQ (XG (UU 5 [(15, B (a.now != b.now))] (NI (a.now != b.now) (aT bne_iff_ne.1 fun h2 bh2 => ?_) (aT bneF fun h2 bh2 => ?_)))))
 · refine XG (RB rfl 4 false z6)
 refine XK (SEQ (XG (UU 5 [(20, B (a.turn != b.turn))] (NI (a.turn != b.turn) (aT bne_iff_ne.1 fun h3 bh3 => ?_) (aT bneF fun h3 bh3 => ?_)))))
 · refine XG (RB rfl 4 false z6)
 refine XK (SEQ (XG (UU 4 [(22, .v (.slice a2a a.parties.length a2c)), (24, .v (.slice b2a b.parties.length b2c))] (OPC (CX 25 (fun w hw => eqPartyS_c w a.parties a2a a2c (ha2.fr hw.fr) b.parties b2a b2c (hb2.fr hw.fr)) ?_)))))
 rintro ⟨⟩
 refine UU 1 [(26, B (!(eqL eqParty a.parties b.parties)))] (NI (!(eqL eqParty a.parties b.parties)) (aT notT fun h4 bh4 => ?_) (aT notF fun h4 bh4 => ?_))
 · refine XG (RB rfl 4 false z6)
 refine XK (SEQ (XG (UU 4 [(28, .v (.slice a3a a.cabins.length a3c)), (30, .v (.slice b3a b.cabins.length b3c))] (OPC (CX 31 (fun w hw => eqCabinS_c w a.cabins a3a a3c (ha3.fr hw.fr) b.cabins b3a b3c (hb3.fr hw.fr)) ?_)))))
 rintro ⟨⟩
 refine UU 1 [(32, B (!(eqL eqCabin a.cabins b.cabins)))] (NI (!(eqL eqCabin a.cabins b.cabins)) (aT notT fun h5 bh5 => ?_) (aT notF fun h5 bh5 => ?_))
 · refine XG (RB rfl 4 false z6)
 refine XK (SEQ (XG (UU 4 [(34, .v (.slice a4a a.todo.length a4c)), (36, .v (.slice b4a b.todo.length b4c))] (OPC (CX 37 (fun w hw => eqIntS_c w a.todo a4a a4c (ha4.fr hw.fr) b.todo b4a b4c (hb4.fr hw.fr)) ?_)))))
 rintro ⟨⟩
 refine UU 1 [(38, B (!(eqInts a.todo b.todo)))] (NI (!(eqInts a.todo b.todo)) (aT notT fun h6 bh6 => ?_) (aT notF fun h6 bh6 => ?_))
 · refine XG (RB rfl 4 false z6)
 refine XK (SEQ (XG (UU 4 [(40, .v (.slice a5a a.jobs.length a5c)), (42, .v (.slice b5a b.jobs.length b5c))] (OPC (CX 43 (fun w hw => eqIntS_c w a.jobs a5a a5c (ha5.fr hw.fr) b.jobs b5a b5c (hb5.fr hw.fr)) ?_)))))
 rintro ⟨⟩
 refine UU 1 [(44, B (!(eqInts a.jobs b.jobs)))] (NI (!(eqInts a.jobs b.jobs)) (aT notT fun h7 bh7 => ?_) (aT notF fun h7 bh7 => ?_))
 · refine XG (RB rfl 4 false z6)
 refine XK (XG (RB rfl 4 true z6))

end SX
end Go.Proofs.YthnbaikmbgaddaaGreat
