/- Walks, printed by program. -/
import Derived.Test.YtcbpmjfjdjpalaaGreatE2
import Derived.Test.YtcbpmjfjdjpalaaGreatSxr
namespace Go.Proofs.YtcbpmjfjdjpalaaGreat
namespace SX
open Go Go.RowKit
set_option linter.unusedVariables false
set_option linter.unusedSimpArgs false
set_option maxRecDepth 10000
set_option maxHeartbeats 400000
theorem l6Bent_c (W : World) (d : Cd) (hd : CodeOk W d) (p : Value) (r : Rules) (r_seats_a : Option Addr) (r_seats_c : Nat) (hr_seats : RdP W p intL r_seats_a r.seats) (now : Int) : Spec Tryz.prog W [curA d p] 73 #[p, .agg #[.slice r_seats_a r.seats.length r_seats_c, vi r.tiers, vi r.room, vi r.size, vi r.period, vi r.window, vi r.rest, vi r.tries, vi r.crew], vi now] (⟨{x : Party // True}, fun q => .agg #[vi q.1.id, vi q.1.cabin, vi q.1.from', vi q.1.size, vi q.1.tier, vi q.1.since, vi q.1.turn, vi q.1.state, vi q.1.until', vi q.1.asked], fun q => [curA (d) p]⟩) := by
 refine ENTERC (N := 64) (vs := [p, .agg #[.slice r_seats_a r.seats.length r_seats_c, vi r.tiers, vi r.room, vi r.size, vi r.period, vi r.window, vi r.rest, vi r.tries, vi r.crew], vi now]) Tryz.func73 rfl rfl (NL rfl) (fun S0 hS hP => ?_)
 have hr_seats_len := hr_seats.len
 refine SEQ (RG (UL 2 [(4, .p 0 0), (6, .p 1 0)] [(26, [.slice r_seats_a r.seats.length r_seats_c, vi r.tiers, vi r.room, vi r.size, vi r.period, vi r.window, vi r.rest, vi r.tries, vi r.crew]), (46, [vi 0, vi 0, vi 0, vi 0, vi 0, vi 0, vi 0, vi 0, vi 0, vi 0])] (NR (UL 3 [(7, .p 2 0)] [(26, [.slice r_seats_a r.seats.length r_seats_c, vi r.tiers, vi r.room, vi r.size, vi r.period, vi r.window, vi r.rest, vi r.tries, vi r.crew]), (46, [vi 0, vi 0, vi 0, vi 0, vi 0, vi 0, vi 0, vi 0, vi 0, vi 0]), (46, [vi 3, vi 0, vi (-1), vi 1, vi 0, vi 0, vi 1, vi 1, vi 0, vi 0])] (ENDOPS (NEXT (SEQJ (ι := Int × Int × Int × Int × Int × Int × Int × Int × Int × Int) (fun j => [(0, .v (p)), (6, .p 1 0), (7, .p 2 0)]) (fun j => [(26, [.slice r_seats_a r.seats.length r_seats_c, vi r.tiers, vi r.room, vi r.size, vi r.period, vi r.window, vi r.rest, vi r.tries, vi r.crew]), (46, [vi 0, vi 0, vi 0, vi 0, vi 0, vi 0, vi 0, vi 0, vi 0, vi 0]), (46, [vi j.1, vi j.2.1, vi j.2.2.1, vi j.2.2.2.1, vi j.2.2.2.2.1, vi j.2.2.2.2.2.1, vi j.2.2.2.2.2.2.1, vi j.2.2.2.2.2.2.2.1, vi j.2.2.2.2.2.2.2.2.1, vi j.2.2.2.2.2.2.2.2.2])]) (fun j => [curA d p]) (fun j => True) ?_ ?_)))))))
 ·
  refine SEQ (RG (UU 1 [(10, .v (.agg #[.slice r_seats_a r.seats.length r_seats_c, vi r.tiers, vi r.room, vi r.size, vi r.period, vi r.window, vi r.rest, vi r.tries, vi r.crew]))] (OPC (CA 36 #[.agg #[.slice r_seats_a r.seats.length r_seats_c, vi r.tiers, vi r.room, vi r.size, vi r.period, vi r.window, vi r.rest, vi r.tries, vi r.crew]] (some 11) (RV (.bool (rulesOk r))) (fun w hw => sRulesOk_c w r r_seats_a r_seats_c (hr_seats.rd hw.fr hP)) ?_))))
  rintro ⟨⟩
  refine NI (rulesOk r) (fun bh1 => ?_) (fun bh1 => ?_)
  ·
   have h1 := bh1
   refine RG (UU 3 [(12, .v (p)), (13, .v (.agg #[.slice r_seats_a r.seats.length r_seats_c, vi r.tiers, vi r.room, vi r.size, vi r.period, vi r.window, vi r.rest, vi r.tries, vi r.crew])), (14, I now)] (OPC (CALL 67 #[p, .agg #[.slice r_seats_a r.seats.length r_seats_c, vi r.tiers, vi r.room, vi r.size, vi r.period, vi r.window, vi r.rest, vi r.tries, vi r.crew], vi now] (some 15) (by kernel_rfl) [0] [curA (d) p] _ rfl (⟨{x : Party // True}, fun q => .agg #[vi q.1.id, vi q.1.cabin, vi q.1.from', vi q.1.size, vi q.1.tier, vi q.1.since, vi q.1.turn, vi q.1.state, vi q.1.until', vi q.1.asked], fun q => [curA (d) p]⟩) (fun w hw => l6Right_c w (d) (hd.fr hw.fr hS) p r r_seats_a r_seats_c (hr_seats.fr hw.fr hP) now) (NO rfl) ?_)))
   rintro ⟨m2, hm3⟩
   try dsimp only at hm3
   refine UL 1 [] [(26, [.slice r_seats_a r.seats.length r_seats_c, vi r.tiers, vi r.room, vi r.size, vi r.period, vi r.window, vi r.rest, vi r.tries, vi r.crew]), (46, [vi 0, vi 0, vi 0, vi 0, vi 0, vi 0, vi 0, vi 0, vi 0, vi 0]), (46, partyE m2)] (ENDOPS (JBACK (m2.id, m2.cabin, m2.from', m2.size, m2.tier, m2.since, m2.turn, m2.state, m2.until', m2.asked) [0, 6, 7] 3 [0] _ trivial (by kernel_rfl) rfl rfl rfl))
  ·
   have h1 := bh1
   refine SKIP (JBACK (3, 0, -1, 1, 0, 0, 1, 1, 0, 0) [0, 6, 7] 3 [0] _ trivial (by kernel_rfl) rfl rfl rfl)
 rintro ⟨v0, v1, v2, v3, v4, v5, v6, v7, v8, v9⟩ hi4
 try dsimp only at hi4
 refine SEQ (RG (UU 1 [(16, .v (p))] (OPC (BUILDS 24 9 #[(0, .const (vi (-1))), (1, .const (vi 0)), (2, .const (vi 2)), (3, .const (vi 5)), (4, .const (vi 7)), (5, .const (vi 1000000)), (6, .const (vi 1000001)), (7, .const (vi 9223372036854775807)), (8, .const (vi (-9223372036854775808)))] 17 24 (by kernel_rfl) (NL rfl) 3 [vi (-1), vi 0, vi 2, vi 5, vi 7, vi 1000000, vi 1000001, vi 9223372036854775807, vi (-9223372036854775808)] (by kernel_rfl) intL [-1, 0, 2, 5, 7, 1000000, 1000001, 9223372036854775807, -9223372036854775808] rfl (by simp only [maxLen]; omega) [] [] _ rfl (flatRep rfl) (fun a5 ha6 => (FACT (9 = ([-1, 0, 2, 5, 7, 1000000, 1000001, 9223372036854775807, -9223372036854775808]).length) (fun w hw => (SlO.lenE (hw.own 1 rfl)).1) (fun hln7 => (OPC (CALL 52 #[p, .slice a5 9 9] (some 18) (by kernel_rfl) [0] [curA (d) p] _ rfl (⟨{x : Int // True}, fun q => vi q.1, fun q => [curA (d) p]⟩) (fun w hw => (congrArg (fun z : Nat => Spec Tryz.prog w [curA (d) p] 52 #[p, .slice a5 z 9] (⟨{x : Int // True}, fun q => vi q.1, fun q => [curA (d) p]⟩)) hln7).mpr (l1PickInt_c w (d) (hd.fr hw.fr hS) p ([-1, 0, 2, 5, 7, 1000000, 1000001, 9223372036854775807, -9223372036854775808]) a5 9 (RdP.own hw 1 0 rfl rfl (by decide)) (by first | omega | decide | simp))) (NO rfl) ?_)))))))))
 rintro ⟨m8, hm9⟩
 try dsimp only at hm9
 refine UU 1 [(8, I m8)] (ENDOPS (NEXT (SEQ (SEQ (RG (UU 1 [(19, .v (p))] (OPC (CALL 21 #[p, vi 24] (some 20) (by kernel_rfl) [1] [curA (d) p] _ rfl (⟨{x : Int // 0 ≤ x ∧ (24 ≤ 0 → x = 0) ∧ (0 < 24 → x < 24)}, fun q => vi q.1, fun q => [curA (d) p]⟩) (fun w hw => l1Below_c w (d) (hd.fr hw.fr hS) p 24) (NO rfl) ?_))))))))
 rintro ⟨m10, hm11⟩
 try dsimp only at hm11
 refine ENDOPS (NEXT (BLOCK (SEQ (RG (UU 2 [(21, B (m10 == 0))] (NI (m10 == 0) (fun bh12 => ?_) (fun bh12 => ?_)))))))
 ·
  have h12 := eq_of_beq bh12
  refine RG (UU 1 [(23, .v (p))] (OPC (BUILDS 24 4 #[(0, .const (vi 0)), (1, .const (vi 999)), (2, .const (vi 1000)), (3, .const (vi (-1)))] 24 24 (by kernel_rfl) (NL rfl) 3 [vi 0, vi 999, vi 1000, vi (-1)] (by kernel_rfl) intL [0, 999, 1000, -1] rfl (by simp only [maxLen]; omega) [] [] _ rfl (flatRep rfl) (fun a13 ha14 => (FACT (4 = ([0, 999, 1000, -1]).length) (fun w hw => (SlO.lenE (hw.own 2 rfl)).1) (fun hln15 => (OPC (CALL 52 #[p, .slice a13 4 4] (some 25) (by kernel_rfl) [1] [curA (d) p] _ rfl (⟨{x : Int // True}, fun q => vi q.1, fun q => [curA (d) p]⟩) (fun w hw => (congrArg (fun z : Nat => Spec Tryz.prog w [curA (d) p] 52 #[p, .slice a13 z 4] (⟨{x : Int // True}, fun q => vi q.1, fun q => [curA (d) p]⟩)) hln15).mpr (l1PickInt_c w (d) (hd.fr hw.fr hS) p ([0, 999, 1000, -1]) a13 4 (RdP.own hw 2 1 rfl rfl (by decide)) (by first | omega | decide | simp))) (NO rfl) ?_))))))))
  rintro ⟨m16, hm17⟩
  try dsimp only at hm17
  refine UL 2 [] [(26, [.slice r_seats_a r.seats.length r_seats_c, vi r.tiers, vi r.room, vi r.size, vi r.period, vi r.window, vi r.rest, vi r.tries, vi r.crew]), (46, [vi 0, vi 0, vi 0, vi 0, vi 0, vi 0, vi 0, vi 0, vi 0, vi 0]), (46, [vi m16, vi v1, vi v2, vi v3, vi v4, vi v5, vi v6, vi v7, vi v8, vi v9])] (ENDOPS (OUTN (NEXT (SEQ (RG (UL 2 [] [(26, [.slice r_seats_a r.seats.length r_seats_c, vi r.tiers, vi r.room, vi r.size, vi r.period, vi r.window, vi r.rest, vi r.tries, vi r.crew]), (46, [vi m16, vi v1, vi v2, vi v3, vi v4, vi v5, vi v6, vi v7, vi v8, vi v9]), (46, [vi m16, vi v1, vi v2, vi v3, vi v4, vi v5, vi v6, vi v7, vi v8, vi v9])] (ENDOPS (NEXT (RF rfl (.agg #[vi m16, vi v1, vi v2, vi v3, vi v4, vi v5, vi v6, vi v7, vi v8, vi v9]) ⟨(⟨m16, v1, v2, v3, v4, v5, v6, v7, v8, v9⟩ : Party), trivial⟩ [2] ?_ ?_)))))))))
  · rfl
  · rfl
 ·
  have h12 := ne_of_beq_false bh12
  refine SEQ (RG (UU 2 [(27, B (m10 == 1))] (NI (m10 == 1) (fun bh18 => ?_) (fun bh18 => ?_))))
  ·
   have h18 := eq_of_beq bh18
   refine RG (UL 3 [] [(26, [.slice r_seats_a r.seats.length r_seats_c, vi r.tiers, vi r.room, vi r.size, vi r.period, vi r.window, vi r.rest, vi r.tries, vi r.crew]), (46, [vi 0, vi 0, vi 0, vi 0, vi 0, vi 0, vi 0, vi 0, vi 0, vi 0]), (46, [vi v0, vi m8, vi v2, vi v3, vi v4, vi v5, vi v6, vi v7, vi v8, vi v9])] (ENDOPS (OUTN (NEXT (SEQ (RG (UL 2 [] [(26, [.slice r_seats_a r.seats.length r_seats_c, vi r.tiers, vi r.room, vi r.size, vi r.period, vi r.window, vi r.rest, vi r.tries, vi r.crew]), (46, [vi v0, vi m8, vi v2, vi v3, vi v4, vi v5, vi v6, vi v7, vi v8, vi v9]), (46, [vi v0, vi m8, vi v2, vi v3, vi v4, vi v5, vi v6, vi v7, vi v8, vi v9])] (ENDOPS (NEXT (RF rfl (.agg #[vi v0, vi m8, vi v2, vi v3, vi v4, vi v5, vi v6, vi v7, vi v8, vi v9]) ⟨(⟨v0, m8, v2, v3, v4, v5, v6, v7, v8, v9⟩ : Party), trivial⟩ [1] ?_ ?_))))))))))
   · rfl
   · rfl
  ·
   have h18 := ne_of_beq_false bh18
   refine SEQ (RG (UU 2 [(31, B (m10 == 2))] (NI (m10 == 2) (fun bh19 => ?_) (fun bh19 => ?_))))
   ·
    have h19 := eq_of_beq bh19
    refine RG (UL 3 [] [(26, [.slice r_seats_a r.seats.length r_seats_c, vi r.tiers, vi r.room, vi r.size, vi r.period, vi r.window, vi r.rest, vi r.tries, vi r.crew]), (46, [vi 0, vi 0, vi 0, vi 0, vi 0, vi 0, vi 0, vi 0, vi 0, vi 0]), (46, [vi v0, vi v1, vi m8, vi v3, vi v4, vi v5, vi v6, vi v7, vi v8, vi v9])] (ENDOPS (OUTN (NEXT (SEQ (RG (UL 2 [] [(26, [.slice r_seats_a r.seats.length r_seats_c, vi r.tiers, vi r.room, vi r.size, vi r.period, vi r.window, vi r.rest, vi r.tries, vi r.crew]), (46, [vi v0, vi v1, vi m8, vi v3, vi v4, vi v5, vi v6, vi v7, vi v8, vi v9]), (46, [vi v0, vi v1, vi m8, vi v3, vi v4, vi v5, vi v6, vi v7, vi v8, vi v9])] (ENDOPS (NEXT (RF rfl (.agg #[vi v0, vi v1, vi m8, vi v3, vi v4, vi v5, vi v6, vi v7, vi v8, vi v9]) ⟨(⟨v0, v1, m8, v3, v4, v5, v6, v7, v8, v9⟩ : Party), trivial⟩ [1] ?_ ?_))))))))))
    · rfl
    · rfl
   ·
    have h19 := ne_of_beq_false bh19
    refine SEQ (RG (UU 2 [(35, B (m10 == 3))] (NI (m10 == 3) (fun bh20 => ?_) (fun bh20 => ?_))))
    ·
     have h20 := eq_of_beq bh20
     refine RG (UL 3 [] [(26, [.slice r_seats_a r.seats.length r_seats_c, vi r.tiers, vi r.room, vi r.size, vi r.period, vi r.window, vi r.rest, vi r.tries, vi r.crew]), (46, [vi 0, vi 0, vi 0, vi 0, vi 0, vi 0, vi 0, vi 0, vi 0, vi 0]), (46, [vi v0, vi v1, vi v2, vi m8, vi v4, vi v5, vi v6, vi v7, vi v8, vi v9])] (ENDOPS (OUTN (NEXT (SEQ (RG (UL 2 [] [(26, [.slice r_seats_a r.seats.length r_seats_c, vi r.tiers, vi r.room, vi r.size, vi r.period, vi r.window, vi r.rest, vi r.tries, vi r.crew]), (46, [vi v0, vi v1, vi v2, vi m8, vi v4, vi v5, vi v6, vi v7, vi v8, vi v9]), (46, [vi v0, vi v1, vi v2, vi m8, vi v4, vi v5, vi v6, vi v7, vi v8, vi v9])] (ENDOPS (NEXT (RF rfl (.agg #[vi v0, vi v1, vi v2, vi m8, vi v4, vi v5, vi v6, vi v7, vi v8, vi v9]) ⟨(⟨v0, v1, v2, m8, v4, v5, v6, v7, v8, v9⟩ : Party), trivial⟩ [1] ?_ ?_))))))))))
     · rfl
     · rfl
    ·
     have h20 := ne_of_beq_false bh20
     refine SEQ (RG (UU 2 [(39, B (m10 == 4))] (NI (m10 == 4) (fun bh21 => ?_) (fun bh21 => ?_))))
     ·
      have h21 := eq_of_beq bh21
      refine RG (UL 3 [] [(26, [.slice r_seats_a r.seats.length r_seats_c, vi r.tiers, vi r.room, vi r.size, vi r.period, vi r.window, vi r.rest, vi r.tries, vi r.crew]), (46, [vi 0, vi 0, vi 0, vi 0, vi 0, vi 0, vi 0, vi 0, vi 0, vi 0]), (46, [vi v0, vi v1, vi v2, vi v3, vi m8, vi v5, vi v6, vi v7, vi v8, vi v9])] (ENDOPS (OUTN (NEXT (SEQ (RG (UL 2 [] [(26, [.slice r_seats_a r.seats.length r_seats_c, vi r.tiers, vi r.room, vi r.size, vi r.period, vi r.window, vi r.rest, vi r.tries, vi r.crew]), (46, [vi v0, vi v1, vi v2, vi v3, vi m8, vi v5, vi v6, vi v7, vi v8, vi v9]), (46, [vi v0, vi v1, vi v2, vi v3, vi m8, vi v5, vi v6, vi v7, vi v8, vi v9])] (ENDOPS (NEXT (RF rfl (.agg #[vi v0, vi v1, vi v2, vi v3, vi m8, vi v5, vi v6, vi v7, vi v8, vi v9]) ⟨(⟨v0, v1, v2, v3, m8, v5, v6, v7, v8, v9⟩ : Party), trivial⟩ [1] ?_ ?_))))))))))
      · rfl
      · rfl
     ·
      have h21 := ne_of_beq_false bh21
      refine SEQ (RG (UU 2 [(43, B (m10 == 5))] (NI (m10 == 5) (fun bh22 => ?_) (fun bh22 => ?_))))
      ·
       have h22 := eq_of_beq bh22
       refine RG (UL 3 [] [(26, [.slice r_seats_a r.seats.length r_seats_c, vi r.tiers, vi r.room, vi r.size, vi r.period, vi r.window, vi r.rest, vi r.tries, vi r.crew]), (46, [vi 0, vi 0, vi 0, vi 0, vi 0, vi 0, vi 0, vi 0, vi 0, vi 0]), (46, [vi v0, vi v1, vi v2, vi v3, vi v4, vi m8, vi v6, vi v7, vi v8, vi v9])] (ENDOPS (OUTN (NEXT (SEQ (RG (UL 2 [] [(26, [.slice r_seats_a r.seats.length r_seats_c, vi r.tiers, vi r.room, vi r.size, vi r.period, vi r.window, vi r.rest, vi r.tries, vi r.crew]), (46, [vi v0, vi v1, vi v2, vi v3, vi v4, vi m8, vi v6, vi v7, vi v8, vi v9]), (46, [vi v0, vi v1, vi v2, vi v3, vi v4, vi m8, vi v6, vi v7, vi v8, vi v9])] (ENDOPS (NEXT (RF rfl (.agg #[vi v0, vi v1, vi v2, vi v3, vi v4, vi m8, vi v6, vi v7, vi v8, vi v9]) ⟨(⟨v0, v1, v2, v3, v4, m8, v6, v7, v8, v9⟩ : Party), trivial⟩ [1] ?_ ?_))))))))))
       · rfl
       · rfl
      ·
       have h22 := ne_of_beq_false bh22
       refine SEQ (RG (UU 2 [(47, B (m10 == 6))] (NI (m10 == 6) (fun bh23 => ?_) (fun bh23 => ?_))))
       ·
        have h23 := eq_of_beq bh23
        refine RG (UL 3 [] [(26, [.slice r_seats_a r.seats.length r_seats_c, vi r.tiers, vi r.room, vi r.size, vi r.period, vi r.window, vi r.rest, vi r.tries, vi r.crew]), (46, [vi 0, vi 0, vi 0, vi 0, vi 0, vi 0, vi 0, vi 0, vi 0, vi 0]), (46, [vi v0, vi v1, vi v2, vi v3, vi v4, vi v5, vi m8, vi v7, vi v8, vi v9])] (ENDOPS (OUTN (NEXT (SEQ (RG (UL 2 [] [(26, [.slice r_seats_a r.seats.length r_seats_c, vi r.tiers, vi r.room, vi r.size, vi r.period, vi r.window, vi r.rest, vi r.tries, vi r.crew]), (46, [vi v0, vi v1, vi v2, vi v3, vi v4, vi v5, vi m8, vi v7, vi v8, vi v9]), (46, [vi v0, vi v1, vi v2, vi v3, vi v4, vi v5, vi m8, vi v7, vi v8, vi v9])] (ENDOPS (NEXT (RF rfl (.agg #[vi v0, vi v1, vi v2, vi v3, vi v4, vi v5, vi m8, vi v7, vi v8, vi v9]) ⟨(⟨v0, v1, v2, v3, v4, v5, m8, v7, v8, v9⟩ : Party), trivial⟩ [1] ?_ ?_))))))))))
        · rfl
        · rfl
       ·
        have h23 := ne_of_beq_false bh23
        refine SEQ (RG (UU 2 [(51, B (m10 == 7))] (NI (m10 == 7) (fun bh24 => ?_) (fun bh24 => ?_))))
        ·
         have h24 := eq_of_beq bh24
         refine RG (UL 3 [] [(26, [.slice r_seats_a r.seats.length r_seats_c, vi r.tiers, vi r.room, vi r.size, vi r.period, vi r.window, vi r.rest, vi r.tries, vi r.crew]), (46, [vi 0, vi 0, vi 0, vi 0, vi 0, vi 0, vi 0, vi 0, vi 0, vi 0]), (46, [vi v0, vi v1, vi v2, vi v3, vi v4, vi v5, vi v6, vi m8, vi v8, vi v9])] (ENDOPS (OUTN (NEXT (SEQ (RG (UL 2 [] [(26, [.slice r_seats_a r.seats.length r_seats_c, vi r.tiers, vi r.room, vi r.size, vi r.period, vi r.window, vi r.rest, vi r.tries, vi r.crew]), (46, [vi v0, vi v1, vi v2, vi v3, vi v4, vi v5, vi v6, vi m8, vi v8, vi v9]), (46, [vi v0, vi v1, vi v2, vi v3, vi v4, vi v5, vi v6, vi m8, vi v8, vi v9])] (ENDOPS (NEXT (RF rfl (.agg #[vi v0, vi v1, vi v2, vi v3, vi v4, vi v5, vi v6, vi m8, vi v8, vi v9]) ⟨(⟨v0, v1, v2, v3, v4, v5, v6, m8, v8, v9⟩ : Party), trivial⟩ [1] ?_ ?_))))))))))
         · rfl
         · rfl
        ·
         have h24 := ne_of_beq_false bh24
         refine SEQ (RG (UU 2 [(55, B (m10 == 8))] (NI (m10 == 8) (fun bh25 => ?_) (fun bh25 => ?_))))
         ·
          have h25 := eq_of_beq bh25
          refine RG (UL 3 [] [(26, [.slice r_seats_a r.seats.length r_seats_c, vi r.tiers, vi r.room, vi r.size, vi r.period, vi r.window, vi r.rest, vi r.tries, vi r.crew]), (46, [vi 0, vi 0, vi 0, vi 0, vi 0, vi 0, vi 0, vi 0, vi 0, vi 0]), (46, [vi v0, vi v1, vi v2, vi v3, vi v4, vi v5, vi v6, vi v7, vi m8, vi v9])] (ENDOPS (OUTN (NEXT (SEQ (RG (UL 2 [] [(26, [.slice r_seats_a r.seats.length r_seats_c, vi r.tiers, vi r.room, vi r.size, vi r.period, vi r.window, vi r.rest, vi r.tries, vi r.crew]), (46, [vi v0, vi v1, vi v2, vi v3, vi v4, vi v5, vi v6, vi v7, vi m8, vi v9]), (46, [vi v0, vi v1, vi v2, vi v3, vi v4, vi v5, vi v6, vi v7, vi m8, vi v9])] (ENDOPS (NEXT (RF rfl (.agg #[vi v0, vi v1, vi v2, vi v3, vi v4, vi v5, vi v6, vi v7, vi m8, vi v9]) ⟨(⟨v0, v1, v2, v3, v4, v5, v6, v7, m8, v9⟩ : Party), trivial⟩ [1] ?_ ?_))))))))))
          · rfl
          · rfl
         ·
          have h25 := ne_of_beq_false bh25
          refine SEQ (RG (UU 2 [(59, B (m10 == 9))] (NI (m10 == 9) (fun bh26 => ?_) (fun bh26 => ?_))))
          ·
           have h26 := eq_of_beq bh26
           refine RG (UL 3 [] [(26, [.slice r_seats_a r.seats.length r_seats_c, vi r.tiers, vi r.room, vi r.size, vi r.period, vi r.window, vi r.rest, vi r.tries, vi r.crew]), (46, [vi 0, vi 0, vi 0, vi 0, vi 0, vi 0, vi 0, vi 0, vi 0, vi 0]), (46, [vi v0, vi v1, vi v2, vi v3, vi v4, vi v5, vi v6, vi v7, vi v8, vi m8])] (ENDOPS (OUTN (NEXT (SEQ (RG (UL 2 [] [(26, [.slice r_seats_a r.seats.length r_seats_c, vi r.tiers, vi r.room, vi r.size, vi r.period, vi r.window, vi r.rest, vi r.tries, vi r.crew]), (46, [vi v0, vi v1, vi v2, vi v3, vi v4, vi v5, vi v6, vi v7, vi v8, vi m8]), (46, [vi v0, vi v1, vi v2, vi v3, vi v4, vi v5, vi v6, vi v7, vi v8, vi m8])] (ENDOPS (NEXT (RF rfl (.agg #[vi v0, vi v1, vi v2, vi v3, vi v4, vi v5, vi v6, vi v7, vi v8, vi m8]) ⟨(⟨v0, v1, v2, v3, v4, v5, v6, v7, v8, m8⟩ : Party), trivial⟩ [1] ?_ ?_))))))))))
           · rfl
           · rfl
          ·
           have h26 := ne_of_beq_false bh26
           refine SKIP (OUTN (NEXT (SEQ (RG (UL 2 [] [(26, [.slice r_seats_a r.seats.length r_seats_c, vi r.tiers, vi r.room, vi r.size, vi r.period, vi r.window, vi r.rest, vi r.tries, vi r.crew]), (46, [vi v0, vi v1, vi v2, vi v3, vi v4, vi v5, vi v6, vi v7, vi v8, vi v9]), (46, [vi v0, vi v1, vi v2, vi v3, vi v4, vi v5, vi v6, vi v7, vi v8, vi v9])] (ENDOPS (NEXT (RF rfl (.agg #[vi v0, vi v1, vi v2, vi v3, vi v4, vi v5, vi v6, vi v7, vi v8, vi v9]) ⟨(⟨v0, v1, v2, v3, v4, v5, v6, v7, v8, v9⟩ : Party), trivial⟩ [1] ?_ ?_))))))))
           · rfl
           · rfl

theorem l8Right_c (W : World) (d : Cd) (hd : CodeOk W d) (p : Value) : Spec Tryz.prog W [curA d p] 121 #[p] (⟨{x : Ledger // True}, fun q => .agg #[vi q.1.total, vi q.1.free, vi q.1.held, vi q.1.sold, vi q.1.tied], fun q => [curA (d) p]⟩) := by
 refine ENTERC (N := 27) (vs := [p]) Tryz.func121 rfl rfl (NL rfl) (fun S0 hS hP => ?_)
 refine SEQ (RG (UL 1 [(2, .p 0 0)] [(54, [vi 0, vi 0, vi 0, vi 0, vi 0])] (NR (UU 1 [(4, .v (p))] (OPC (CALL 21 #[p, vi 6] (some 5) (by kernel_rfl) [0] [curA (d) p] _ rfl (⟨{x : Int // 0 ≤ x ∧ (6 ≤ 0 → x = 0) ∧ (0 < 6 → x < 6)}, fun q => vi q.1, fun q => [curA (d) p]⟩) (fun w hw => l1Below_c w (d) (hd.fr hw.fr hS) p 6) (NO rfl) ?_))))))
 rintro ⟨m1, hm2⟩
 try dsimp only at hm2
 refine UU 1 [(6, .v (p))] (OPC (CALL 21 #[p, vi 6] (some 7) (by kernel_rfl) [0] [curA (d) p] _ rfl (⟨{x : Int // 0 ≤ x ∧ (6 ≤ 0 → x = 0) ∧ (0 < 6 → x < 6)}, fun q => vi q.1, fun q => [curA (d) p]⟩) (fun w hw => l1Below_c w (d) (hd.fr hw.fr hS) p 6) (NO rfl) ?_))
 rintro ⟨m3, hm4⟩
 try dsimp only at hm4
 refine UU 1 [(8, .v (p))] (OPC (CALL 21 #[p, vi 8] (some 9) (by kernel_rfl) [0] [curA (d) p] _ rfl (⟨{x : Int // 0 ≤ x ∧ (8 ≤ 0 → x = 0) ∧ (0 < 8 → x < 8)}, fun q => vi q.1, fun q => [curA (d) p]⟩) (fun w hw => l1Below_c w (d) (hd.fr hw.fr hS) p 8) (NO rfl) ?_))
 rintro ⟨m5, hm6⟩
 try dsimp only at hm6
 refine UL 3 [(3, .p 1 0)] [(54, [vi 0, vi 0, vi 0, vi 0, vi 0]), (54, [vi 0, vi m1, vi m3, vi m5, vi 0])] (NR (UL 10 [] [(54, [vi 0, vi 0, vi 0, vi 0, vi 0]), (54, [vi (wr ((wr (m1 + m3)) + m5)), vi m1, vi m3, vi m5, vi 0])] (NR (UU 4 [(20, .v (p)), (23, I (wr (m5 + 1)))] (OPC (CALL 21 #[p, vi (wr (m5 + 1))] (some 24) (by kernel_rfl) [0] [curA (d) p] _ rfl (⟨{x : Int // 0 ≤ x ∧ ((wr (m5 + 1)) ≤ 0 → x = 0) ∧ (0 < (wr (m5 + 1)) → x < (wr (m5 + 1)))}, fun q => vi q.1, fun q => [curA (d) p]⟩) (fun w hw => l1Below_c w (d) (hd.fr hw.fr hS) p (wr (m5 + 1))) (NO rfl) ?_))))))
 rintro ⟨m7, hm8⟩
 try dsimp only at hm8
 refine UL 2 [] [(54, [vi 0, vi 0, vi 0, vi 0, vi 0]), (54, [vi (wr ((wr (m1 + m3)) + m5)), vi m1, vi m3, vi m5, vi m7])] (NR (UL 2 [] [(54, [vi (wr ((wr (m1 + m3)) + m5)), vi m1, vi m3, vi m5, vi m7]), (54, [vi (wr ((wr (m1 + m3)) + m5)), vi m1, vi m3, vi m5, vi m7])] (ENDOPS (NEXT (RF rfl (.agg #[vi (wr ((wr (m1 + m3)) + m5)), vi m1, vi m3, vi m5, vi m7]) ⟨(⟨wr ((wr (m1 + m3)) + m5), m1, m3, m5, m7⟩ : Ledger), trivial⟩ [0] ?_ ?_)))))
 · rfl
 · rfl

theorem l8Draw_c (W : World) (d : Cd) (hd : CodeOk W d) (p : Value) : Spec Tryz.prog W [curA d p] 100 #[p] (⟨{x : Ledger // True}, fun q => .agg #[vi q.1.total, vi q.1.free, vi q.1.held, vi q.1.sold, vi q.1.tied], fun q => [curA (d) p]⟩) := by
 refine ENTERC (N := 33) (vs := [p]) Tryz.func100 rfl rfl (NL rfl) (fun S0 hS hP => ?_)
 refine SEQ (RG (UL 1 [(2, .p 0 0)] [(54, [vi 0, vi 0, vi 0, vi 0, vi 0])] (NR (UU 1 [(5, .v (p))] (OPC (CALL 121 #[p] (some 6) (by kernel_rfl) [0] [curA (d) p] _ rfl (⟨{x : Ledger // True}, fun q => .agg #[vi q.1.total, vi q.1.free, vi q.1.held, vi q.1.sold, vi q.1.tied], fun q => [curA (d) p]⟩) (fun w hw => l8Right_c w (d) (hd.fr hw.fr hS) p) (NO rfl) ?_))))))
 rintro ⟨m1, hm2⟩
 try dsimp only at hm2
 refine UL 2 [(3, .p 1 0)] [(54, [vi 0, vi 0, vi 0, vi 0, vi 0]), (54, ledgerE m1)] (NR (UU 1 [(7, .v (p))] (OPC (BUILDS 24 6 #[(0, .const (vi (-1))), (1, .const (vi 0)), (2, .const (vi 60)), (3, .const (vi 61)), (4, .const (vi 9223372036854775807)), (5, .const (vi (-9223372036854775808)))] 8 24 (by kernel_rfl) (NL rfl) 3 [vi (-1), vi 0, vi 60, vi 61, vi 9223372036854775807, vi (-9223372036854775808)] (by kernel_rfl) intL [-1, 0, 60, 61, 9223372036854775807, -9223372036854775808] rfl (by simp only [maxLen]; omega) [] [] _ rfl (flatRep rfl) (fun a3 ha4 => (FACT (6 = ([-1, 0, 60, 61, 9223372036854775807, -9223372036854775808]).length) (fun w hw => (SlO.lenE (hw.own 1 rfl)).1) (fun hln5 => (OPC (CALL 52 #[p, .slice a3 6 6] (some 9) (by kernel_rfl) [0] [curA (d) p] _ rfl (⟨{x : Int // True}, fun q => vi q.1, fun q => [curA (d) p]⟩) (fun w hw => (congrArg (fun z : Nat => Spec Tryz.prog w [curA (d) p] 52 #[p, .slice a3 z 6] (⟨{x : Int // True}, fun q => vi q.1, fun q => [curA (d) p]⟩)) hln5).mpr (l1PickInt_c w (d) (hd.fr hw.fr hS) p ([-1, 0, 60, 61, 9223372036854775807, -9223372036854775808]) a3 6 (RdP.own hw 1 0 rfl rfl (by decide)) (by first | omega | decide | simp))) (NO rfl) ?_)))))))))
 rintro ⟨m6, hm7⟩
 try dsimp only at hm7
 refine UU 1 [(4, I m6)] (ENDOPS (NEXT (SEQ (SEQ (RG (UU 1 [(10, .v (p))] (OPC (CALL 21 #[p, vi 16] (some 11) (by kernel_rfl) [1] [curA (d) p] _ rfl (⟨{x : Int // 0 ≤ x ∧ (16 ≤ 0 → x = 0) ∧ (0 < 16 → x < 16)}, fun q => vi q.1, fun q => [curA (d) p]⟩) (fun w hw => l1Below_c w (d) (hd.fr hw.fr hS) p 16) (NO rfl) ?_))))))))
 rintro ⟨m8, hm9⟩
 try dsimp only at hm9
 refine ENDOPS (NEXT (BLOCK (SEQ (RG (UU 2 [(12, B (m8 == 0))] (NI (m8 == 0) (fun bh10 => ?_) (fun bh10 => ?_)))))))
 ·
  have h10 := eq_of_beq bh10
  refine RG (UL 3 [] [(54, [vi 0, vi 0, vi 0, vi 0, vi 0]), (54, [vi m6, vi m1.free, vi m1.held, vi m1.sold, vi m1.tied])] (ENDOPS (OUTN (NEXT (SEQ (RG (UL 2 [] [(54, [vi m6, vi m1.free, vi m1.held, vi m1.sold, vi m1.tied]), (54, [vi m6, vi m1.free, vi m1.held, vi m1.sold, vi m1.tied])] (ENDOPS (NEXT (RF rfl (.agg #[vi m6, vi m1.free, vi m1.held, vi m1.sold, vi m1.tied]) ⟨(⟨m6, m1.free, m1.held, m1.sold, m1.tied⟩ : Ledger), trivial⟩ [1] ?_ ?_))))))))))
  · rfl
  · rfl
 ·
  have h10 := ne_of_beq_false bh10
  refine SEQ (RG (UU 2 [(16, B (m8 == 1))] (NI (m8 == 1) (fun bh11 => ?_) (fun bh11 => ?_))))
  ·
   have h11 := eq_of_beq bh11
   refine RG (UL 3 [] [(54, [vi 0, vi 0, vi 0, vi 0, vi 0]), (54, [vi m1.total, vi m6, vi m1.held, vi m1.sold, vi m1.tied])] (ENDOPS (OUTN (NEXT (SEQ (RG (UL 2 [] [(54, [vi m1.total, vi m6, vi m1.held, vi m1.sold, vi m1.tied]), (54, [vi m1.total, vi m6, vi m1.held, vi m1.sold, vi m1.tied])] (ENDOPS (NEXT (RF rfl (.agg #[vi m1.total, vi m6, vi m1.held, vi m1.sold, vi m1.tied]) ⟨(⟨m1.total, m6, m1.held, m1.sold, m1.tied⟩ : Ledger), trivial⟩ [1] ?_ ?_))))))))))
   · rfl
   · rfl
  ·
   have h11 := ne_of_beq_false bh11
   refine SEQ (RG (UU 2 [(20, B (m8 == 2))] (NI (m8 == 2) (fun bh12 => ?_) (fun bh12 => ?_))))
   ·
    have h12 := eq_of_beq bh12
    refine RG (UL 3 [] [(54, [vi 0, vi 0, vi 0, vi 0, vi 0]), (54, [vi m1.total, vi m1.free, vi m6, vi m1.sold, vi m1.tied])] (ENDOPS (OUTN (NEXT (SEQ (RG (UL 2 [] [(54, [vi m1.total, vi m1.free, vi m6, vi m1.sold, vi m1.tied]), (54, [vi m1.total, vi m1.free, vi m6, vi m1.sold, vi m1.tied])] (ENDOPS (NEXT (RF rfl (.agg #[vi m1.total, vi m1.free, vi m6, vi m1.sold, vi m1.tied]) ⟨(⟨m1.total, m1.free, m6, m1.sold, m1.tied⟩ : Ledger), trivial⟩ [1] ?_ ?_))))))))))
    · rfl
    · rfl
   ·
    have h12 := ne_of_beq_false bh12
    refine SEQ (RG (UU 2 [(24, B (m8 == 3))] (NI (m8 == 3) (fun bh13 => ?_) (fun bh13 => ?_))))
    ·
     have h13 := eq_of_beq bh13
     refine RG (UL 3 [] [(54, [vi 0, vi 0, vi 0, vi 0, vi 0]), (54, [vi m1.total, vi m1.free, vi m1.held, vi m6, vi m1.tied])] (ENDOPS (OUTN (NEXT (SEQ (RG (UL 2 [] [(54, [vi m1.total, vi m1.free, vi m1.held, vi m6, vi m1.tied]), (54, [vi m1.total, vi m1.free, vi m1.held, vi m6, vi m1.tied])] (ENDOPS (NEXT (RF rfl (.agg #[vi m1.total, vi m1.free, vi m1.held, vi m6, vi m1.tied]) ⟨(⟨m1.total, m1.free, m1.held, m6, m1.tied⟩ : Ledger), trivial⟩ [1] ?_ ?_))))))))))
     · rfl
     · rfl
    ·
     have h13 := ne_of_beq_false bh13
     refine SEQ (RG (UU 2 [(28, B (m8 == 4))] (NI (m8 == 4) (fun bh14 => ?_) (fun bh14 => ?_))))
     ·
      have h14 := eq_of_beq bh14
      refine RG (UL 3 [] [(54, [vi 0, vi 0, vi 0, vi 0, vi 0]), (54, [vi m1.total, vi m1.free, vi m1.held, vi m1.sold, vi m6])] (ENDOPS (OUTN (NEXT (SEQ (RG (UL 2 [] [(54, [vi m1.total, vi m1.free, vi m1.held, vi m1.sold, vi m6]), (54, [vi m1.total, vi m1.free, vi m1.held, vi m1.sold, vi m6])] (ENDOPS (NEXT (RF rfl (.agg #[vi m1.total, vi m1.free, vi m1.held, vi m1.sold, vi m6]) ⟨(⟨m1.total, m1.free, m1.held, m1.sold, m6⟩ : Ledger), trivial⟩ [1] ?_ ?_))))))))))
      · rfl
      · rfl
     ·
      have h14 := ne_of_beq_false bh14
      refine SKIP (OUTN (NEXT (SEQ (RG (UL 2 [] [(54, ledgerE m1), (54, ledgerE m1)] (ENDOPS (NEXT (RF rfl (.agg #[vi m1.total, vi m1.free, vi m1.held, vi m1.sold, vi m1.tied]) ⟨m1, trivial⟩ [1] ?_ ?_))))))))
      · rfl
      · rfl

theorem l7Entry_c (W : World) (d : Cd) (hd : CodeOk W d) (p : Value) : Spec Tryz.prog W [curA d p] 123 #[p] (⟨{x : Entry // True}, fun q => .agg #[vi q.1.level, vi q.1.turn, vi q.1.id, vi q.1.size], fun q => [curA (d) p]⟩) := by
 refine ENTERC (N := 39) (vs := [p]) Tryz.func123 rfl rfl (NL rfl) (fun S0 hS hP => ?_)
 refine SEQ (RG (UL 1 [(2, .p 0 0)] [(63, [vi 0, vi 0, vi 0, vi 0])] (NR (UU 1 [(5, .v (p))] (OPC (CALL 21 #[p, vi 4] (some 6) (by kernel_rfl) [0] [curA (d) p] _ rfl (⟨{x : Int // 0 ≤ x ∧ (4 ≤ 0 → x = 0) ∧ (0 < 4 → x < 4)}, fun q => vi q.1, fun q => [curA (d) p]⟩) (fun w hw => l1Below_c w (d) (hd.fr hw.fr hS) p 4) (NO rfl) ?_))))))
 rintro ⟨m1, hm2⟩
 try dsimp only at hm2
 refine UU 1 [(7, .v (p))] (OPC (CALL 21 #[p, vi 20] (some 8) (by kernel_rfl) [0] [curA (d) p] _ rfl (⟨{x : Int // 0 ≤ x ∧ (20 ≤ 0 → x = 0) ∧ (0 < 20 → x < 20)}, fun q => vi q.1, fun q => [curA (d) p]⟩) (fun w hw => l1Below_c w (d) (hd.fr hw.fr hS) p 20) (NO rfl) ?_))
 rintro ⟨m3, hm4⟩
 try dsimp only at hm4
 refine UU 2 [(9, I (wr (1 + m3))), (10, .v (p))] (OPC (CALL 21 #[p, vi 12] (some 11) (by kernel_rfl) [0] [curA (d) p] _ rfl (⟨{x : Int // 0 ≤ x ∧ (12 ≤ 0 → x = 0) ∧ (0 < 12 → x < 12)}, fun q => vi q.1, fun q => [curA (d) p]⟩) (fun w hw => l1Below_c w (d) (hd.fr hw.fr hS) p 12) (NO rfl) ?_))
 rintro ⟨m5, hm6⟩
 try dsimp only at hm6
 refine UU 2 [(12, I (wr (1 + m5))), (13, .v (p))] (OPC (CALL 21 #[p, vi 6] (some 14) (by kernel_rfl) [0] [curA (d) p] _ rfl (⟨{x : Int // 0 ≤ x ∧ (6 ≤ 0 → x = 0) ∧ (0 < 6 → x < 6)}, fun q => vi q.1, fun q => [curA (d) p]⟩) (fun w hw => l1Below_c w (d) (hd.fr hw.fr hS) p 6) (NO rfl) ?_))
 rintro ⟨m7, hm8⟩
 try dsimp only at hm8
 refine UL 4 [(3, .p 1 0)] [(63, [vi 0, vi 0, vi 0, vi 0]), (63, [vi m1, vi (wr (1 + m3)), vi (wr (1 + m5)), vi (wr (1 + m7))])] (NR (UU 1 [(17, .v (p))] (OPC (BUILDS 24 8 #[(0, .const (vi (-1))), (1, .const (vi 0)), (2, .const (vi 5)), (3, .const (vi 7)), (4, .const (vi 1000)), (5, .const (vi 1000001)), (6, .const (vi 9223372036854775807)), (7, .const (vi (-9223372036854775808)))] 18 24 (by kernel_rfl) (NL rfl) 3 [vi (-1), vi 0, vi 5, vi 7, vi 1000, vi 1000001, vi 9223372036854775807, vi (-9223372036854775808)] (by kernel_rfl) intL [-1, 0, 5, 7, 1000, 1000001, 9223372036854775807, -9223372036854775808] rfl (by simp only [maxLen]; omega) [] [] _ rfl (flatRep rfl) (fun a9 ha10 => (FACT (8 = ([-1, 0, 5, 7, 1000, 1000001, 9223372036854775807, -9223372036854775808]).length) (fun w hw => (SlO.lenE (hw.own 1 rfl)).1) (fun hln11 => (OPC (CALL 52 #[p, .slice a9 8 8] (some 19) (by kernel_rfl) [0] [curA (d) p] _ rfl (⟨{x : Int // True}, fun q => vi q.1, fun q => [curA (d) p]⟩) (fun w hw => (congrArg (fun z : Nat => Spec Tryz.prog w [curA (d) p] 52 #[p, .slice a9 z 8] (⟨{x : Int // True}, fun q => vi q.1, fun q => [curA (d) p]⟩)) hln11).mpr (l1PickInt_c w (d) (hd.fr hw.fr hS) p ([-1, 0, 5, 7, 1000, 1000001, 9223372036854775807, -9223372036854775808]) a9 8 (RdP.own hw 1 0 rfl rfl (by decide)) (by first | omega | decide | simp))) (NO rfl) ?_)))))))))
 rintro ⟨m12, hm13⟩
 try dsimp only at hm13
 refine UU 1 [(4, I m12)] (ENDOPS (NEXT (SEQ (SEQ (RG (UU 1 [(20, .v (p))] (OPC (CALL 21 #[p, vi 30] (some 21) (by kernel_rfl) [1] [curA (d) p] _ rfl (⟨{x : Int // 0 ≤ x ∧ (30 ≤ 0 → x = 0) ∧ (0 < 30 → x < 30)}, fun q => vi q.1, fun q => [curA (d) p]⟩) (fun w hw => l1Below_c w (d) (hd.fr hw.fr hS) p 30) (NO rfl) ?_))))))))
 rintro ⟨m14, hm15⟩
 try dsimp only at hm15
 refine ENDOPS (NEXT (BLOCK (SEQ (RG (UU 2 [(22, B (m14 == 0))] (NI (m14 == 0) (fun bh16 => ?_) (fun bh16 => ?_)))))))
 ·
  have h16 := eq_of_beq bh16
  refine RG (UL 3 [] [(63, [vi 0, vi 0, vi 0, vi 0]), (63, [vi m12, vi (wr (1 + m3)), vi (wr (1 + m5)), vi (wr (1 + m7))])] (ENDOPS (OUTN (NEXT (SEQ (RG (UL 2 [] [(63, [vi m12, vi (wr (1 + m3)), vi (wr (1 + m5)), vi (wr (1 + m7))]), (63, [vi m12, vi (wr (1 + m3)), vi (wr (1 + m5)), vi (wr (1 + m7))])] (ENDOPS (NEXT (RF rfl (.agg #[vi m12, vi (wr (1 + m3)), vi (wr (1 + m5)), vi (wr (1 + m7))]) ⟨(⟨m12, wr (1 + m3), wr (1 + m5), wr (1 + m7)⟩ : Entry), trivial⟩ [1] ?_ ?_))))))))))
  · rfl
  · rfl
 ·
  have h16 := ne_of_beq_false bh16
  refine SEQ (RG (UU 2 [(26, B (m14 == 1))] (NI (m14 == 1) (fun bh17 => ?_) (fun bh17 => ?_))))
  ·
   have h17 := eq_of_beq bh17
   refine RG (UL 3 [] [(63, [vi 0, vi 0, vi 0, vi 0]), (63, [vi m1, vi m12, vi (wr (1 + m5)), vi (wr (1 + m7))])] (ENDOPS (OUTN (NEXT (SEQ (RG (UL 2 [] [(63, [vi m1, vi m12, vi (wr (1 + m5)), vi (wr (1 + m7))]), (63, [vi m1, vi m12, vi (wr (1 + m5)), vi (wr (1 + m7))])] (ENDOPS (NEXT (RF rfl (.agg #[vi m1, vi m12, vi (wr (1 + m5)), vi (wr (1 + m7))]) ⟨(⟨m1, m12, wr (1 + m5), wr (1 + m7)⟩ : Entry), trivial⟩ [1] ?_ ?_))))))))))
   · rfl
   · rfl
  ·
   have h17 := ne_of_beq_false bh17
   refine SEQ (RG (UU 2 [(30, B (m14 == 2))] (NI (m14 == 2) (fun bh18 => ?_) (fun bh18 => ?_))))
   ·
    have h18 := eq_of_beq bh18
    refine RG (UL 3 [] [(63, [vi 0, vi 0, vi 0, vi 0]), (63, [vi m1, vi (wr (1 + m3)), vi m12, vi (wr (1 + m7))])] (ENDOPS (OUTN (NEXT (SEQ (RG (UL 2 [] [(63, [vi m1, vi (wr (1 + m3)), vi m12, vi (wr (1 + m7))]), (63, [vi m1, vi (wr (1 + m3)), vi m12, vi (wr (1 + m7))])] (ENDOPS (NEXT (RF rfl (.agg #[vi m1, vi (wr (1 + m3)), vi m12, vi (wr (1 + m7))]) ⟨(⟨m1, wr (1 + m3), m12, wr (1 + m7)⟩ : Entry), trivial⟩ [1] ?_ ?_))))))))))
    · rfl
    · rfl
   ·
    have h18 := ne_of_beq_false bh18
    refine SEQ (RG (UU 2 [(34, B (m14 == 3))] (NI (m14 == 3) (fun bh19 => ?_) (fun bh19 => ?_))))
    ·
     have h19 := eq_of_beq bh19
     refine RG (UL 3 [] [(63, [vi 0, vi 0, vi 0, vi 0]), (63, [vi m1, vi (wr (1 + m3)), vi (wr (1 + m5)), vi m12])] (ENDOPS (OUTN (NEXT (SEQ (RG (UL 2 [] [(63, [vi m1, vi (wr (1 + m3)), vi (wr (1 + m5)), vi m12]), (63, [vi m1, vi (wr (1 + m3)), vi (wr (1 + m5)), vi m12])] (ENDOPS (NEXT (RF rfl (.agg #[vi m1, vi (wr (1 + m3)), vi (wr (1 + m5)), vi m12]) ⟨(⟨m1, wr (1 + m3), wr (1 + m5), m12⟩ : Entry), trivial⟩ [1] ?_ ?_))))))))))
     · rfl
     · rfl
    ·
     have h19 := ne_of_beq_false bh19
     refine SKIP (OUTN (NEXT (SEQ (RG (UL 2 [] [(63, [vi m1, vi (wr (1 + m3)), vi (wr (1 + m5)), vi (wr (1 + m7))]), (63, [vi m1, vi (wr (1 + m3)), vi (wr (1 + m5)), vi (wr (1 + m7))])] (ENDOPS (NEXT (RF rfl (.agg #[vi m1, vi (wr (1 + m3)), vi (wr (1 + m5)), vi (wr (1 + m7))]) ⟨(⟨m1, wr (1 + m3), wr (1 + m5), wr (1 + m7)⟩ : Entry), trivial⟩ [1] ?_ ?_))))))))
     · rfl
     · rfl

theorem sQueuePut_c (W : World) (list : List Entry) (list_a : Option Addr) (list_c : Nat) (hlist : Rd entryL W list_a list) (e : Entry) (hcap : list.length ≤ list_c) (hb : list.length ≤ 1000000) : Spec Tryz.prog W [] 139 #[.slice list_a list.length list_c, .agg #[vi e.level, vi e.turn, vi e.id, vi e.size]] (⟨HH, fun p => .tuple #[.slice p.1 ((queuePut list e).length) p.2, .bool (queuePutB list e)], fun p => [slA 63 entryL (.slice p.1 (queuePut list e).length p.2) (queuePut list e)]⟩) := by
 refine ENTER0 (N := 21) (vs := [.slice list_a list.length list_c, .agg #[vi e.level, vi e.turn, vi e.id, vi e.size]]) Tryz.func139 rfl rfl (NL rfl) ?_
 have hlist_len := hlist.len
 refine SEQ (RG (UL 3 [(3, .p 0 0)] [(63, entryE e)] (NR (UU 2 [(7, .v (.slice list_a list.length list_c)), (8, .v (.agg (entryE e).toArray))] (OPC (CA 108 #[.slice list_a list.length list_c, .agg #[vi e.level, vi e.turn, vi e.id, vi e.size]] (some 9) (⟨HH, fun p => .slice p.1 ((qIns list e).length) p.2, fun p => [slA 63 entryL (.slice p.1 (qIns list e).length p.2) (qIns list e)]⟩) (fun w hw => sl7Put_c w list list_a list_c (hlist.fr hw.fr) e (by first | assumption | omega | (dsimp only; omega) | (simp only [List.length_append, List.length_cons, List.length_nil] at *; omega)) (by first | assumption | omega | (dsimp only; omega) | (simp only [List.length_append, List.length_cons, List.length_nil] at *; omega))) ?_))))))
 rintro ⟨a1, c2⟩
 have hr3 := qIns_len list e
 refine UU 1 [(6, .v (.slice a1 ((qIns list e).length) c2))] (ENDOPS (NEXT (SEQ (SEQ (RG (UU 1 [(10, .v (.slice list_a list.length list_c))] (OPC (CA 105 #[.slice list_a list.length list_c] (some 11) (RV (.bool (queueOk list))) (fun w hw => sQueueOk_c w list list_a list_c (hlist.fr hw.fr)) ?_))))))))
 rintro ⟨⟩
 refine UU 2 [(13, B (!(queueOk list)))] (SP 13 (!(queueOk list)) (fun bh4 => ?_) (fun bh4 => ?_))
 ·
  have h4 := notT bh4
  refine UU 4 [(17, B true)] (ENDOPS (NEXT (IFT (by kernel_rfl) (SEQ (RG (UU 1 [(18, .v (.slice list_a list.length list_c))] (OPC (CA 129 #[.slice list_a list.length list_c] (some 19) (⟨HH, fun p => .slice p.1 list.length p.2, fun p => [slA 63 entryL (.slice p.1 list.length p.2) list]⟩) (fun w hw => l7Copy_c w list list_a list_c (hlist.fr hw.fr) (by first | assumption | omega)) ?_))))))))
  rintro ⟨a5, c6⟩
  refine UU 2 [(4, .v (.slice a5 list.length c6)), (5, B false)] (ENDOPS (NEXT (RET (PASS trivial ?_))))
  have efin : queuePut list e = list ∧ queuePutB list e = false := by (first | (have h9 := queuePut_f (l := list) (e := e) (.inl (by assumption)); simpa using h9) | (have h9 := queuePut_f (l := list) (e := e) (.inr (by assumption)); simpa using h9))
  refine FIN (.tuple #[.slice a5 list.length c6, .bool false]) (by kernel_rfl) (a5, c6) ?_ [1] ?_
  · (rw [efin.1, efin.2] <;> rfl)
  · (rw [efin.1, efin.2] <;> rfl)
 ·
  have h4 := notF bh4
  refine UU 1 [(14, .v (.slice a1 ((qIns list e).length) c2))] (OPC (CA 105 #[.slice a1 ((qIns list e).length) c2] (some 15) (RV (.bool (queueOk (qIns list e)))) (fun w hw => sQueueOk_c w (qIns list e) a1 c2 (hw.rdO 0 rfl)) ?_))
  rintro ⟨⟩
  refine UU 2 [(17, B (!(queueOk (qIns list e))))] (NI (!(queueOk (qIns list e))) (fun bh7 => ?_) (fun bh7 => ?_))
  ·
   have h7 := notT bh7
   refine SEQ (RG (UU 1 [(18, .v (.slice list_a list.length list_c))] (OPC (CA 129 #[.slice list_a list.length list_c] (some 19) (⟨HH, fun p => .slice p.1 list.length p.2, fun p => [slA 63 entryL (.slice p.1 list.length p.2) list]⟩) (fun w hw => l7Copy_c w list list_a list_c (hlist.fr hw.fr) (by first | assumption | omega)) ?_))))
   rintro ⟨a8, c9⟩
   refine UU 2 [(4, .v (.slice a8 list.length c9)), (5, B false)] (ENDOPS (NEXT (RET (PASS trivial ?_))))
   have efin : queuePut list e = list ∧ queuePutB list e = false := by (first | (have h9 := queuePut_f (l := list) (e := e) (.inl (by assumption)); simpa using h9) | (have h9 := queuePut_f (l := list) (e := e) (.inr (by assumption)); simpa using h9))
   refine FIN (.tuple #[.slice a8 list.length c9, .bool false]) (by kernel_rfl) (a8, c9) ?_ [1] ?_
   · (rw [efin.1, efin.2] <;> rfl)
   · (rw [efin.1, efin.2] <;> rfl)
  ·
   have h7 := notF bh7
   refine SKIP (NEXT (SEQ (RG (UU 3 [(4, .v (.slice a1 ((qIns list e).length) c2)), (5, B true)] (ENDOPS (NEXT (RET ?_)))))))
   have efin : queuePut list e = qIns list e ∧ queuePutB list e = true := by exact queuePut_t (by assumption) (by assumption)
   refine FIN (.tuple #[.slice a1 ((qIns list e).length) c2, .bool true]) (by kernel_rfl) (a1, c2) ?_ [0] ?_
   · (rw [efin.1, efin.2] <;> rfl)
   · (rw [efin.1, efin.2] <;> rfl)

theorem l7Right_c (W : World) (d : Cd) (hd : CodeOk W d) (p : Value) : Spec Tryz.prog W [curA d p] 122 #[p] (⟨{q : (HH) × (List Entry) // (fun x : List Entry => x.length ≤ 13) q.2}, fun q => .slice q.1.1.1 q.1.2.length q.1.1.2, fun q => [slA 63 entryL (.slice q.1.1.1 q.1.2.length q.1.1.2) q.1.2, curA (d) p]⟩) := by
 refine ENTERC (N := 34) (vs := [p]) Tryz.func122 rfl rfl (NL rfl) (fun S0 hS hP => ?_)
 refine SEQ (RG (UU 1 [] (NR (OPC (BUILDS 55 0 #[] 7 55 (by kernel_rfl) (NL rfl) 63 [] (by kernel_rfl) entryL [] rfl (by simp only [maxLen]; omega) [] [] _ rfl (flatRep rfl) (fun a1 ha2 => (UU 1 [(3, .v (.slice a1 0 0))] (NR (UU 1 [(8, .v (p))] (OPC (CALL 21 #[p, vi 9] (some 9) (by kernel_rfl) [0] [curA (d) p] _ rfl (⟨{x : Int // 0 ≤ x ∧ (9 ≤ 0 → x = 0) ∧ (0 < 9 → x < 9)}, fun q => vi q.1, fun q => [curA (d) p]⟩) (fun w hw => l1Below_c w (d) (hd.fr hw.fr hS) p 9) (NO rfl) ?_)))))))))))
 rintro ⟨m3, hm4⟩
 try dsimp only at hm4
 refine UU 1 [(4, I m3)] (ENDOPS (NEXT (SEQJ (ι := Int) (fun j => [(0, .v (p)), (3, .v (.slice a1 0 0)), (4, I j)]) (fun j => []) (fun j => [slA 63 entryL (.slice a1 0 0) ([]), curA (d) p]) (fun j => j ≤ 13) ?_ ?_)))
 ·
  refine SEQ (RG (UU 1 [(10, .v (p))] (OPC (CALL 20 #[p, vi 12] (some 11) (by kernel_rfl) [1] [curA (d) p] _ rfl (⟨{x : Bool // True}, fun q => .bool q.1, fun q => [curA (d) p]⟩) (fun w hw => l1Once_c w (d) (hd.fr hw.fr hS) p 12) (NO rfl) ?_))))
  rintro ⟨m5, hm6⟩
  try dsimp only at hm6
  refine NI (m5) (fun bh7 => ?_) (fun bh7 => ?_)
  ·
   have h7 := bh7
   refine RG (UU 1 [(12, .v (p))] (OPC (CALL 21 #[p, vi 4] (some 13) (by kernel_rfl) [1] [curA (d) p] _ rfl (⟨{x : Int // 0 ≤ x ∧ (4 ≤ 0 → x = 0) ∧ (0 < 4 → x < 4)}, fun q => vi q.1, fun q => [curA (d) p]⟩) (fun w hw => l1Below_c w (d) (hd.fr hw.fr hS) p 4) (NO rfl) ?_)))
   rintro ⟨m8, hm9⟩
   try dsimp only at hm9
   refine UU 2 [(4, I (wr (10 + m8)))] (ENDOPS (JBACK (wr (10 + m8)) [0, 3, 4] 0 [0, 0] _ (by first | omega | (rw [wr_of (by omega) (by omega)]; omega) | (dsimp only; omega)) (by kernel_rfl) rfl rfl rfl))
  ·
   have h7 := bh7
   refine SKIP (JBACK (m3) [0, 3, 4] 0 [0, 0] _ (by first | omega | (rw [wr_of (by omega) (by omega)]; omega) | (dsimp only; omega)) (by kernel_rfl) rfl rfl rfl)
 rintro n hi10
 try dsimp only at hi10
 refine SEQ (SEQ (RG (UU 1 [(5, I 0)] (ENDOPS (NEXT (BLOCK (LOOP (ι := Nat × (Option Addr) × Nat × (List Entry)) (fun j => [(0, .v (p)), (3, .v (.slice j.2.1 j.2.2.2.length j.2.2.1)), (4, I n), (5, I (j.1 : Int))]) (fun j => []) (fun j => [slA 63 entryL (.slice j.2.1 j.2.2.2.length j.2.2.1) j.2.2.2, curA (d) p]) (fun j => j.2.2.2.length ≤ j.1 ∧ j.1 ≤ 13) (fun j => 13 - j.1) (0, a1, 0, []) [0, 3, 4, 5] ⟨by first | omega | (simp; done), by omega⟩ (by kernel_rfl) rfl rfl ?_)))))))
 rintro ⟨i, oa, oc, out⟩ ⟨hil, hib⟩
 try dsimp only at hil hib
 refine SEQ (SEQ (RG (UU 3 [(17, B (decide ((i : Int) < n)))] (NI (decide ((i : Int) < n)) (fun bh11 => ?_) (fun bh11 => ?_)))))
 ·
  have h11 := of_decide_eq_true bh11
  refine SKIP (NEXT (SEQ (BLOCK (SEQ (RG (UU 1 [(20, .v (p))] (OPC (CALL 123 #[p] (some 21) (by kernel_rfl) [1] [curA (d) p] _ rfl (⟨{x : Entry // True}, fun q => .agg #[vi q.1.level, vi q.1.turn, vi q.1.id, vi q.1.size], fun q => [curA (d) p]⟩) (fun w hw => l7Entry_c w (d) (hd.fr hw.fr hS) p) (NO rfl) ?_))))))))
  rintro ⟨m12, hm13⟩
  try dsimp only at hm13
  refine UL 2 [(6, .p 0 0)] [(63, entryE m12)] (ENDOPS (NEXT (SEQ (SEQ (RG (UU 2 [(23, B (decide (n > 9)))] (NI (decide (n > 9)) (fun bh14 => ?_) (fun bh14 => ?_))))))))
  ·
   have h14 := of_decide_eq_true bh14
   refine RG (UL 4 [] [(63, [vi m12.level, vi m12.turn, vi (wr (100 + (i : Int))), vi m12.size])] (ENDOPS (NEXT (RG (UU 2 [(28, .v (.slice oa out.length oc)), (29, .v (.agg #[vi m12.level, vi m12.turn, vi (wr (100 + (i : Int))), vi m12.size]))] (FACT (out.length ≤ oc) (fun w hw => SlO.capE (hw.own 0 rfl)) (fun hcap15 => (OPC (CA 139 #[.slice oa out.length oc, .agg #[vi m12.level, vi m12.turn, vi (wr (100 + (i : Int))), vi m12.size]] (some 30) (⟨HH, fun p => .tuple #[.slice p.1 ((queuePut out (⟨m12.level, m12.turn, wr (100 + (i : Int)), m12.size⟩ : Entry)).length) p.2, .bool (queuePutB out (⟨m12.level, m12.turn, wr (100 + (i : Int)), m12.size⟩ : Entry))], fun p => [slA 63 entryL (.slice p.1 (queuePut out (⟨m12.level, m12.turn, wr (100 + (i : Int)), m12.size⟩ : Entry)).length p.2) (queuePut out (⟨m12.level, m12.turn, wr (100 + (i : Int)), m12.size⟩ : Entry))]⟩) (fun w hw => sQueuePut_c w out oa oc (hw.rdO 0 rfl) (⟨m12.level, m12.turn, wr (100 + (i : Int)), m12.size⟩ : Entry) (by first | assumption | omega | (dsimp only; omega) | (simp only [List.length_append, List.length_cons, List.length_nil] at *; omega)) (by first | assumption | omega | (dsimp only; omega) | (simp only [List.length_append, List.length_cons, List.length_nil] at *; omega))) ?_)))))))))
   rintro ⟨a16, c17⟩
   have hr18 := queuePut_len out (⟨m12.level, m12.turn, wr (100 + (i : Int)), m12.size⟩ : Entry)
   refine UU 4 [(3, .v (.slice a16 ((queuePut out (⟨m12.level, m12.turn, wr (100 + (i : Int)), m12.size⟩ : Entry)).length) c17))] (ENDOPS (OUTN (NEXT (RG (UU 2 [(19, I (wr ((i : Int) + 1)))] (CS 19 (vi (wr ((i : Int) + 1))) (vi ((i + 1 : Nat) : Int)) (vi_cast (by omega) (by omega)) (UU 1 [(5, I ((i + 1 : Nat) : Int))] (ENDOPS (BK (i + 1, a16, c17, queuePut out (⟨m12.level, m12.turn, wr (100 + (i : Int)), m12.size⟩ : Entry)) [0, 3, 4, 5] 0 [2, 1] ⟨by first | omega | (dsimp only; omega) | (simp only [List.length_append, List.length_cons, List.length_nil]; omega), by dsimp only; omega⟩ (by dsimp only; omega))))))))))
  ·
   have h14 := of_decide_eq_false bh14
   refine SKIP (NEXT (RG (UU 2 [(28, .v (.slice oa out.length oc)), (29, .v (.agg (entryE m12).toArray))] (FACT (out.length ≤ oc) (fun w hw => SlO.capE (hw.own 0 rfl)) (fun hcap19 => (OPC (CA 139 #[.slice oa out.length oc, .agg #[vi m12.level, vi m12.turn, vi m12.id, vi m12.size]] (some 30) (⟨HH, fun p => .tuple #[.slice p.1 ((queuePut out m12).length) p.2, .bool (queuePutB out m12)], fun p => [slA 63 entryL (.slice p.1 (queuePut out m12).length p.2) (queuePut out m12)]⟩) (fun w hw => sQueuePut_c w out oa oc (hw.rdO 0 rfl) m12 (by first | assumption | omega | (dsimp only; omega) | (simp only [List.length_append, List.length_cons, List.length_nil] at *; omega)) (by first | assumption | omega | (dsimp only; omega) | (simp only [List.length_append, List.length_cons, List.length_nil] at *; omega))) ?_)))))))
   rintro ⟨a20, c21⟩
   have hr22 := queuePut_len out m12
   refine UU 4 [(3, .v (.slice a20 ((queuePut out m12).length) c21))] (ENDOPS (OUTN (NEXT (RG (UU 2 [(19, I (wr ((i : Int) + 1)))] (CS 19 (vi (wr ((i : Int) + 1))) (vi ((i + 1 : Nat) : Int)) (vi_cast (by omega) (by omega)) (UU 1 [(5, I ((i + 1 : Nat) : Int))] (ENDOPS (BK (i + 1, a20, c21, queuePut out m12) [0, 3, 4, 5] 0 [2, 1] ⟨by first | omega | (dsimp only; omega) | (simp only [List.length_append, List.length_cons, List.length_nil]; omega), by dsimp only; omega⟩ (by dsimp only; omega))))))))))
 ·
  have h11 := of_decide_eq_false bh11
  refine EXIT (PASS trivial (PASS trivial (OUT (NEXT (SEQ (RG (UU 2 [(2, .v (.slice oa out.length oc))] (ENDOPS (NEXT (RF rfl (.slice oa out.length oc) ⟨((oa, oc), out), (by first | omega | (dsimp only; omega))⟩ [0, 0] ?_ ?_))))))))))
  · rfl
  · rfl

theorem l7Draw_c (W : World) (d : Cd) (hd : CodeOk W d) (p : Value) : Spec Tryz.prog W [curA d p] 101 #[p] (⟨{q : (HH) × (List Entry) // (fun x : List Entry => x.length ≤ 14) q.2}, fun q => .slice q.1.1.1 q.1.2.length q.1.1.2, fun q => [slA 63 entryL (.slice q.1.1.1 q.1.2.length q.1.1.2) q.1.2, curA (d) p]⟩) := by
 refine ENTERC (N := 33) (vs := [p]) Tryz.func101 rfl rfl (NL rfl) (fun S0 hS hP => ?_)
 refine SEQ (RG (UU 1 [] (NR (UU 1 [(5, .v (p))] (OPC (CALL 122 #[p] (some 6) (by kernel_rfl) [0] [curA (d) p] _ rfl (⟨{q : (HH) × (List Entry) // (fun x : List Entry => x.length ≤ 13) q.2}, fun q => .slice q.1.1.1 q.1.2.length q.1.1.2, fun q => [slA 63 entryL (.slice q.1.1.1 q.1.2.length q.1.1.2) q.1.2, curA (d) p]⟩) (fun w hw => l7Right_c w (d) (hd.fr hw.fr hS) p) (NO rfl) ?_))))))
 rintro ⟨⟨⟨a3, c4⟩, m1⟩, hm2⟩
 try dsimp only at hm2
 refine UU 1 [(3, .v (.slice a3 m1.length c4))] (ENDOPS (NEXT (SEQ (SEQ (RG (UU 1 [(7, .v (p))] (OPC (CALL 21 #[p, vi 10] (some 8) (by kernel_rfl) [1] [curA (d) p] _ rfl (⟨{x : Int // 0 ≤ x ∧ (10 ≤ 0 → x = 0) ∧ (0 < 10 → x < 10)}, fun q => vi q.1, fun q => [curA (d) p]⟩) (fun w hw => l1Below_c w (d) (hd.fr hw.fr hS) p 10) (NO rfl) ?_))))))))
 rintro ⟨m5, hm6⟩
 try dsimp only at hm6
 refine ENDOPS (NEXT (BLOCK (SEQ (RG (UU 2 [(9, B (m5 == 0))] (NI (m5 == 0) (fun bh7 => ?_) (fun bh7 => ?_)))))))
 ·
  have h7 := eq_of_beq bh7
  refine RG (UU 2 [(11, .v (.slice a3 m1.length c4)), (12, .v (p))] (OPC (CALL 123 #[p] (some 13) (by kernel_rfl) [1] [curA (d) p] _ rfl (⟨{x : Entry // True}, fun q => .agg #[vi q.1.level, vi q.1.turn, vi q.1.id, vi q.1.size], fun q => [curA (d) p]⟩) (fun w hw => l7Entry_c w (d) (hd.fr hw.fr hS) p) (NO rfl) ?_)))
  rintro ⟨m8, hm9⟩
  try dsimp only at hm9
  refine OPC (BUILDS 55 1 #[(0, .tmp 13)] 14 55 (by kernel_rfl) (NL rfl) 63 [vi m8.level, vi m8.turn, vi m8.id, vi m8.size] (by kernel_rfl) entryL [m8] rfl (by simp only [maxLen]; omega) [] [] _ rfl (flatRep rfl) (fun a10 ha11 => (OPC (APPENDO 55 (.tmp 11) (.tmp 14) 15 55 (by kernel_rfl) (NL rfl) (.slice a3 m1.length c4) a10 1 1 (by kernel_rfl) (by kernel_rfl) ha11 63 (by kernel_rfl) entryL (.agg #[vi 0, vi 0, vi 0, vi 0]) 32 (by kernel_rfl) rfl (by decide) 0 1 m1 ([m8]) _ rfl rfl (by first | omega | (simp only [List.length_append, List.length_cons, List.length_nil, List.length_take, List.length_drop] at *; omega)) (by simp only [maxLen]; first | omega | (simp only [List.length_append, List.length_cons, List.length_nil, List.length_take, List.length_drop] at *; omega)) (fun a12 c13 hn14 => (UU 1 [(3, .v (.slice a12 ((m1 ++ ([m8])).length) c13))] (ENDOPS (OUTN (NEXT (SEQ (RG (UU 2 [(2, .v (.slice a12 ((m1 ++ ([m8])).length) c13))] (ENDOPS (NEXT (RF rfl (.slice a12 ((m1 ++ ([m8])).length) c13) ⟨((a12, c13), m1 ++ ([m8])), (by first | omega | (simp only [List.length_append, List.length_cons, List.length_nil, List.length_set]; omega))⟩ [1, 0] ?_ ?_)))))))))))))))
  · rfl
  · rfl
 ·
  have h7 := ne_of_beq_false bh7
  refine SEQ (RG (UU 2 [(16, B (m5 == 1))] (NI (m5 == 1) (fun bh15 => ?_) (fun bh15 => ?_))))
  ·
   have h15 := eq_of_beq bh15
   refine SEQ (RG (UU 3 [(20, B (decide ((m1.length : Int) > 1)))] (NI (decide ((m1.length : Int) > 1)) (fun bh16 => ?_) (fun bh16 => ?_))))
   ·
    have h16 := of_decide_eq_true bh16
    refine SEQ (RG (UU 1 [(21, .v (.slice a3 m1.length c4))] ?_))
    obtain ⟨x17, hx18⟩ : ∃ y, m1[0]? = some y := ⟨_, List.getElem?_eq_getElem (by omega)⟩
    refine FACT (a3.isSome = true) (fun w hw => SlO.isS (hw.own 0 rfl) (by first | omega | (dsimp only; omega))) (fun hs19 => (OPC (IX 55 (.tmp 21) (.const (vi 0)) 22 0 a3 m1.length c4 .i64 0 63 4 hs19 (by omega) (by omega) (OPC (LE 63 (.tmp 22) 23 63 a3 (0 * 4) 0 (entryE x17) (.agg (entryE x17).toArray) (fun w hw => (hw.rdO 0 rfl).flat hx18) (UL 2 [(4, .p 0 0)] [(63, entryE x17)] (NR (UU 2 [(24, .v (.slice a3 m1.length c4)), (25, .v (.slice a3 m1.length c4))] ?_))))))))
    obtain ⟨x20, hx21⟩ : ∃ y, m1[1]? = some y := ⟨_, List.getElem?_eq_getElem (by omega)⟩
    refine OPC (IX 55 (.tmp 25) (.const (vi 1)) 26 0 a3 m1.length c4 .i64 1 63 4 hs19 (by omega) (by omega) (OPC (LE 63 (.tmp 26) 27 63 a3 (1 * 4) 0 (entryE x20) (.agg (entryE x20).toArray) (fun w hw => (hw.rdO 0 rfl).flat hx21) (OPC (IX 55 (.tmp 24) (.const (vi 0)) 28 0 a3 m1.length c4 .i64 0 63 4 hs19 (by omega) (by omega) (OPC (STOREF 63 (.tmp 28) (.tmp 27) 0 (by kernel_rfl) 0 _ 63 a3 m1.length c4 0 0 m1 rfl x17 x20 hx18 (.agg #[vi x20.level, vi x20.turn, vi x20.id, vi x20.size]) (by kernel_rfl) (by kernel_rfl) (by kernel_rfl) (ENDOPS (NEXT (RG (UU 2 [(29, .v (.slice a3 m1.length c4)), (30, .v (.agg (entryE x17).toArray))] (FACT (m1.length = (m1.set 0 x20).length) (fun w hw => (SlO.lenE (hw.own 1 rfl)).1) (fun hln22 => ?_)))))))))))))
    obtain ⟨x23, hx24⟩ : ∃ y, (m1.set 0 x20)[1]? = some y := ⟨_, List.getElem?_eq_getElem (by simp only [List.length_set]; omega)⟩
    refine OPC (IX 55 (.tmp 29) (.const (vi 1)) 31 0 a3 m1.length c4 .i64 1 63 4 hs19 (by omega) (by omega) (OPC (STOREF 63 (.tmp 31) (.tmp 30) 0 (by kernel_rfl) 1 _ 63 a3 m1.length c4 1 0 (m1.set 0 x20) rfl x23 x17 hx24 (.agg #[vi x17.level, vi x17.turn, vi x17.id, vi x17.size]) (by kernel_rfl) (by kernel_rfl) (by kernel_rfl) (ENDOPS (OUTN (NEXT (SEQ (RG (UU 2 [(2, .v (.slice a3 m1.length c4))] (ENDOPS (NEXT (RET (FACT (m1.length = ((m1.set 0 x20).set 1 x17).length) (fun w hw => (SlO.lenE (hw.own 1 rfl)).1) (fun hln25 => ?_))))))))))))))
    refine RELENK (fun z : Nat => [(2, .v (.slice a3 z c4))]) (fun z : Nat => [(63, entryE x17)]) (fun z : Nat => [curA (d) p, slA 63 entryL (.slice a3 z c4) ((m1.set 0 x20).set 1 x17)]) hln25 ?_
    refine FIN (.slice a3 (((m1.set 0 x20).set 1 x17).length) c4) (by kernel_rfl) ⟨((a3, c4), (m1.set 0 x20).set 1 x17), (by first | omega | (simp only [List.length_append, List.length_cons, List.length_nil, List.length_set]; omega))⟩ ?_ [1, 0] ?_
    · rfl
    · rfl
   ·
    have h16 := of_decide_eq_false bh16
    refine SKIP (OUTN (NEXT (SEQ (RG (UU 2 [(2, .v (.slice a3 m1.length c4))] (ENDOPS (NEXT (RF rfl (.slice a3 m1.length c4) ⟨((a3, c4), m1), (by first | omega | (simp only [List.length_append, List.length_cons, List.length_nil, List.length_set]; omega))⟩ [0, 0] ?_ ?_))))))))
    · rfl
    · rfl
  ·
   have h15 := ne_of_beq_false bh15
   refine SKIP (OUTN (NEXT (SEQ (RG (UU 2 [(2, .v (.slice a3 m1.length c4))] (ENDOPS (NEXT (RF rfl (.slice a3 m1.length c4) ⟨((a3, c4), m1), (by first | omega | (simp only [List.length_append, List.length_cons, List.length_nil, List.length_set]; omega))⟩ [0, 0] ?_ ?_))))))))
   · rfl
   · rfl

theorem l9Pin_c (W : World) (d : Cd) (hd : CodeOk W d) (p : Value) : Spec Tryz.prog W [curA d p] 125 #[p] (⟨{x : Pin // True}, fun q => .agg #[vi q.1.at', vi q.1.id], fun q => [curA (d) p]⟩) := by
 refine ENTERC (N := 26) (vs := [p]) Tryz.func125 rfl rfl (NL rfl) (fun S0 hS hP => ?_)
 refine SEQ (RG (UL 1 [(2, .p 0 0)] [(114, [vi 0, vi 0])] (NR (UU 1 [(4, .v (p))] (OPC (CALL 21 #[p, vi 24] (some 5) (by kernel_rfl) [0] [curA (d) p] _ rfl (⟨{x : Int // 0 ≤ x ∧ (24 ≤ 0 → x = 0) ∧ (0 < 24 → x < 24)}, fun q => vi q.1, fun q => [curA (d) p]⟩) (fun w hw => l1Below_c w (d) (hd.fr hw.fr hS) p 24) (NO rfl) ?_))))))
 rintro ⟨m1, hm2⟩
 try dsimp only at hm2
 refine UU 2 [(6, I (wr (1 + m1))), (7, .v (p))] (OPC (CALL 21 #[p, vi 12] (some 8) (by kernel_rfl) [0] [curA (d) p] _ rfl (⟨{x : Int // 0 ≤ x ∧ (12 ≤ 0 → x = 0) ∧ (0 < 12 → x < 12)}, fun q => vi q.1, fun q => [curA (d) p]⟩) (fun w hw => l1Below_c w (d) (hd.fr hw.fr hS) p 12) (NO rfl) ?_))
 rintro ⟨m3, hm4⟩
 try dsimp only at hm4
 refine UL 4 [(3, .p 1 0)] [(114, [vi 0, vi 0]), (114, [vi (wr (1 + m1)), vi (wr (1 + m3))])] (ENDOPS (NEXT (SEQ (SEQ (RG (UU 1 [(11, .v (p))] (OPC (CALL 21 #[p, vi 20] (some 12) (by kernel_rfl) [0] [curA (d) p] _ rfl (⟨{x : Int // 0 ≤ x ∧ (20 ≤ 0 → x = 0) ∧ (0 < 20 → x < 20)}, fun q => vi q.1, fun q => [curA (d) p]⟩) (fun w hw => l1Below_c w (d) (hd.fr hw.fr hS) p 20) (NO rfl) ?_))))))))
 rintro ⟨m5, hm6⟩
 try dsimp only at hm6
 refine ENDOPS (NEXT (BLOCK (SEQ (RG (UU 2 [(13, B (m5 == 0))] (NI (m5 == 0) (fun bh7 => ?_) (fun bh7 => ?_)))))))
 ·
  have h7 := eq_of_beq bh7
  refine RG (UU 1 [(15, .v (p))] (OPC (BUILDS 24 7 #[(0, .const (vi 0)), (1, .const (vi (-1))), (2, .const (vi (-9))), (3, .const (vi 1000008)), (4, .const (vi 1000009)), (5, .const (vi 9223372036854775807)), (6, .const (vi (-9223372036854775808)))] 16 24 (by kernel_rfl) (NL rfl) 3 [vi 0, vi (-1), vi (-9), vi 1000008, vi 1000009, vi 9223372036854775807, vi (-9223372036854775808)] (by kernel_rfl) intL [0, -1, -9, 1000008, 1000009, 9223372036854775807, -9223372036854775808] rfl (by simp only [maxLen]; omega) [] [] _ rfl (flatRep rfl) (fun a8 ha9 => (FACT (7 = ([0, -1, -9, 1000008, 1000009, 9223372036854775807, -9223372036854775808]).length) (fun w hw => (SlO.lenE (hw.own 1 rfl)).1) (fun hln10 => (OPC (CALL 52 #[p, .slice a8 7 7] (some 17) (by kernel_rfl) [0] [curA (d) p] _ rfl (⟨{x : Int // True}, fun q => vi q.1, fun q => [curA (d) p]⟩) (fun w hw => (congrArg (fun z : Nat => Spec Tryz.prog w [curA (d) p] 52 #[p, .slice a8 z 7] (⟨{x : Int // True}, fun q => vi q.1, fun q => [curA (d) p]⟩)) hln10).mpr (l1PickInt_c w (d) (hd.fr hw.fr hS) p ([0, -1, -9, 1000008, 1000009, 9223372036854775807, -9223372036854775808]) a8 7 (RdP.own hw 1 0 rfl rfl (by decide)) (by first | omega | decide | simp))) (NO rfl) ?_))))))))
  rintro ⟨m11, hm12⟩
  try dsimp only at hm12
  refine UL 2 [] [(114, [vi 0, vi 0]), (114, [vi m11, vi (wr (1 + m3))])] (ENDOPS (OUTN (NEXT (SEQ (RG (UL 2 [] [(114, [vi m11, vi (wr (1 + m3))]), (114, [vi m11, vi (wr (1 + m3))])] (ENDOPS (NEXT (RF rfl (.agg #[vi m11, vi (wr (1 + m3))]) ⟨(⟨m11, wr (1 + m3)⟩ : Pin), trivial⟩ [1] ?_ ?_)))))))))
  · rfl
  · rfl
 ·
  have h7 := ne_of_beq_false bh7
  refine SEQ (RG (UU 2 [(19, B (m5 == 1))] (NI (m5 == 1) (fun bh13 => ?_) (fun bh13 => ?_))))
  ·
   have h13 := eq_of_beq bh13
   refine RG (UU 1 [(21, .v (p))] (OPC (BUILDS 24 4 #[(0, .const (vi 0)), (1, .const (vi 999)), (2, .const (vi 1000)), (3, .const (vi (-1)))] 22 24 (by kernel_rfl) (NL rfl) 3 [vi 0, vi 999, vi 1000, vi (-1)] (by kernel_rfl) intL [0, 999, 1000, -1] rfl (by simp only [maxLen]; omega) [] [] _ rfl (flatRep rfl) (fun a14 ha15 => (FACT (4 = ([0, 999, 1000, -1]).length) (fun w hw => (SlO.lenE (hw.own 1 rfl)).1) (fun hln16 => (OPC (CALL 52 #[p, .slice a14 4 4] (some 23) (by kernel_rfl) [0] [curA (d) p] _ rfl (⟨{x : Int // True}, fun q => vi q.1, fun q => [curA (d) p]⟩) (fun w hw => (congrArg (fun z : Nat => Spec Tryz.prog w [curA (d) p] 52 #[p, .slice a14 z 4] (⟨{x : Int // True}, fun q => vi q.1, fun q => [curA (d) p]⟩)) hln16).mpr (l1PickInt_c w (d) (hd.fr hw.fr hS) p ([0, 999, 1000, -1]) a14 4 (RdP.own hw 1 0 rfl rfl (by decide)) (by first | omega | decide | simp))) (NO rfl) ?_))))))))
   rintro ⟨m17, hm18⟩
   try dsimp only at hm18
   refine UL 2 [] [(114, [vi 0, vi 0]), (114, [vi (wr (1 + m1)), vi m17])] (ENDOPS (OUTN (NEXT (SEQ (RG (UL 2 [] [(114, [vi (wr (1 + m1)), vi m17]), (114, [vi (wr (1 + m1)), vi m17])] (ENDOPS (NEXT (RF rfl (.agg #[vi (wr (1 + m1)), vi m17]) ⟨(⟨wr (1 + m1), m17⟩ : Pin), trivial⟩ [1] ?_ ?_)))))))))
   · rfl
   · rfl
  ·
   have h13 := ne_of_beq_false bh13
   refine SKIP (OUTN (NEXT (SEQ (RG (UL 2 [] [(114, [vi (wr (1 + m1)), vi (wr (1 + m3))]), (114, [vi (wr (1 + m1)), vi (wr (1 + m3))])] (ENDOPS (NEXT (RF rfl (.agg #[vi (wr (1 + m1)), vi (wr (1 + m3))]) ⟨(⟨wr (1 + m1), wr (1 + m3)⟩ : Pin), trivial⟩ [0] ?_ ?_))))))))
   · rfl
   · rfl

theorem l9Pins_c (W : World) (d : Cd) (hd : CodeOk W d) (p : Value) : Spec Tryz.prog W [curA d p] 140 #[p] (⟨{q : (HH) × (List Pin) // (fun x : List Pin => x.length ≤ 8) q.2}, fun q => .slice q.1.1.1 q.1.2.length q.1.1.2, fun q => [slA 114 pinL (.slice q.1.1.1 q.1.2.length q.1.1.2) q.1.2, curA (d) p]⟩) := by
 refine ENTERC (N := 20) (vs := [p]) Tryz.func140 rfl rfl (NL rfl) (fun S0 hS hP => ?_)
 refine SEQ (RG (UU 1 [] (NR (OPC (BUILDS 99 0 #[] 6 99 (by kernel_rfl) (NL rfl) 114 [] (by kernel_rfl) pinL [] rfl (by simp only [maxLen]; omega) [] [] _ rfl (flatRep rfl) (fun a1 ha2 => (UU 1 [(3, .v (.slice a1 0 0))] (NR (UU 1 [(7, .v (p))] (OPC (CALL 21 #[p, vi 8] (some 8) (by kernel_rfl) [0] [curA (d) p] _ rfl (⟨{x : Int // 0 ≤ x ∧ (8 ≤ 0 → x = 0) ∧ (0 < 8 → x < 8)}, fun q => vi q.1, fun q => [curA (d) p]⟩) (fun w hw => l1Below_c w (d) (hd.fr hw.fr hS) p 8) (NO rfl) ?_)))))))))))
 rintro ⟨m3, hm4⟩
 try dsimp only at hm4
 refine UU 1 [(4, I m3)] (ENDOPS (NEXT (SEQ (SEQ (RG (UU 1 [(5, I 0)] (ENDOPS (NEXT (BLOCK (LOOP (ι := Nat × (Option Addr) × Nat × (List Pin)) (fun j => [(0, .v (p)), (3, .v (.slice j.2.1 j.2.2.2.length j.2.2.1)), (4, I m3), (5, I (j.1 : Int))]) (fun j => []) (fun j => [slA 114 pinL (.slice j.2.1 j.2.2.2.length j.2.2.1) j.2.2.2, curA (d) p]) (fun j => j.2.2.2.length ≤ j.1 ∧ j.1 ≤ 8) (fun j => 8 - j.1) (0, a1, 0, []) [0, 3, 4, 5] ⟨by first | omega | (simp; done), by omega⟩ (by kernel_rfl) rfl rfl ?_))))))))))
 rintro ⟨i, oa, oc, out⟩ ⟨hil, hib⟩
 try dsimp only at hil hib
 refine SEQ (SEQ (RG (UU 3 [(11, B (decide ((i : Int) < m3)))] (NI (decide ((i : Int) < m3)) (fun bh5 => ?_) (fun bh5 => ?_)))))
 ·
  have h5 := of_decide_eq_true bh5
  refine SKIP (NEXT (SEQ (BLOCK (RG (UU 2 [(14, .v (.slice oa out.length oc)), (15, .v (p))] (OPC (CALL 125 #[p] (some 16) (by kernel_rfl) [1] [curA (d) p] _ rfl (⟨{x : Pin // True}, fun q => .agg #[vi q.1.at', vi q.1.id], fun q => [curA (d) p]⟩) (fun w hw => l9Pin_c w (d) (hd.fr hw.fr hS) p) (NO rfl) ?_)))))))
  rintro ⟨m6, hm7⟩
  try dsimp only at hm7
  refine OPC (BUILDS 99 1 #[(0, .tmp 16)] 17 99 (by kernel_rfl) (NL rfl) 114 [vi m6.at', vi m6.id] (by kernel_rfl) pinL [m6] rfl (by simp only [maxLen]; omega) [] [] _ rfl (flatRep rfl) (fun a8 ha9 => (OPC (APPENDO 99 (.tmp 14) (.tmp 17) 18 99 (by kernel_rfl) (NL rfl) (.slice oa out.length oc) a8 1 1 (by kernel_rfl) (by kernel_rfl) ha9 114 (by kernel_rfl) pinL (.agg #[vi 0, vi 0]) 16 (by kernel_rfl) rfl (by decide) 0 1 out ([m6]) _ rfl rfl (by first | omega | (simp only [List.length_append, List.length_cons, List.length_nil, List.length_take, List.length_drop] at *; omega)) (by simp only [maxLen]; first | omega | (simp only [List.length_append, List.length_cons, List.length_nil, List.length_take, List.length_drop] at *; omega)) (fun a10 c11 hn12 => (UU 1 [(3, .v (.slice a10 ((out ++ ([m6])).length) c11))] (ENDOPS (OUTN (NEXT (RG (UU 2 [(13, I (wr ((i : Int) + 1)))] (CS 13 (vi (wr ((i : Int) + 1))) (vi ((i + 1 : Nat) : Int)) (vi_cast (by omega) (by omega)) (UU 1 [(5, I ((i + 1 : Nat) : Int))] (ENDOPS (BK (i + 1, a10, c11, out ++ ([m6])) [0, 3, 4, 5] 0 [1, 0] ⟨by first | omega | (dsimp only; omega) | (simp only [List.length_append, List.length_cons, List.length_nil]; omega), by dsimp only; omega⟩ (by dsimp only; omega))))))))))))))))
 ·
  have h5 := of_decide_eq_false bh5
  refine EXIT (PASS trivial (PASS trivial (OUT (NEXT (SEQ (RG (UU 2 [(2, .v (.slice oa out.length oc))] (ENDOPS (NEXT (RF rfl (.slice oa out.length oc) ⟨((oa, oc), out), (by first | omega | (dsimp only; omega))⟩ [0, 0] ?_ ?_))))))))))
  · rfl
  · rfl

theorem l9Right_c (W : World) (d : Cd) (hd : CodeOk W d) (p : Value) : Spec Tryz.prog W [curA d p] 124 #[p] (⟨{q : (HH) × Wheel // (fun x : Wheel => x.spoke.length = 9 ∧ x.spoke.flatten.length ≤ 18) q.2}, fun q => .agg #[.slice q.1.1.1 q.1.2.spoke.length q.1.1.2], fun q => [slA 99 (sl 114 pinL) (.slice q.1.1.1 q.1.2.spoke.length q.1.1.2) q.1.2.spoke, curA (d) p]⟩) := by
 refine ENTERC (N := 40) (vs := [p]) Tryz.func124 rfl rfl (NL rfl) (fun S0 hS hP => ?_)
 refine SEQ (RG (UL 1 [(2, .p 0 0)] [(58, [.slice none 0 0])] (NR (OPC (CA 98 #[] (some 7) (⟨{q : (HH) × Wheel // (fun x : Wheel => x.spoke.length = 9 ∧ x.spoke.flatten.length = 0) q.2}, fun q => .agg #[.slice q.1.1.1 q.1.2.spoke.length q.1.1.2], fun q => [slA 99 (sl 114 pinL) (.slice q.1.1.1 q.1.2.spoke.length q.1.1.2) q.1.2.spoke]⟩) (fun w hw => wheelNew_c w ) ?_)))))
 rintro ⟨⟨⟨a3, c4⟩, m1⟩, hm2⟩
 try dsimp only at hm2
 refine UL 2 [(3, .p 1 0)] [(58, [.slice none 0 0]), (58, [.slice a3 m1.spoke.length c4])] (NR (UU 1 [(8, .v (p))] (OPC (CALL 140 #[p] (some 9) (by kernel_rfl) [0] [curA (d) p] _ rfl (⟨{q : (HH) × (List Pin) // (fun x : List Pin => x.length ≤ 8) q.2}, fun q => .slice q.1.1.1 q.1.2.length q.1.1.2, fun q => [slA 114 pinL (.slice q.1.1.1 q.1.2.length q.1.1.2) q.1.2, curA (d) p]⟩) (fun w hw => l9Pins_c w (d) (hd.fr hw.fr hS) p) (NO rfl) ?_))))
 rintro ⟨⟨⟨a7, c8⟩, m5⟩, hm6⟩
 try dsimp only at hm6
 refine UU 1 [(4, .v (.slice a7 m5.length c8))] (ENDOPS (NEXT (SEQ (SEQ (RG (UU 1 [(10, .v (p))] (OPC (CALL 20 #[p, vi 10] (some 11) (by kernel_rfl) [2] [curA (d) p] _ rfl (⟨{x : Bool // True}, fun q => .bool q.1, fun q => [curA (d) p]⟩) (fun w hw => l1Once_c w (d) (hd.fr hw.fr hS) p 10) (NO rfl) ?_))))))))
 rintro ⟨m9, hm10⟩
 try dsimp only at hm10
 refine NI (m9) (fun bh11 => ?_) (fun bh11 => ?_)
 ·
  have h11 := bh11
  refine SEQ (RG (UU 1 [(5, I 0)] (ENDOPS (NEXT (BLOCK (LOOP (ι := Nat × (Option Addr) × Nat × (List Pin)) (fun j => [(2, .p 0 0), (3, .p 1 0), (4, .v (.slice j.2.1 j.2.2.2.length j.2.2.1)), (5, I (j.1 : Int))]) (fun j => [(58, [.slice none 0 0]), (58, [.slice a3 m1.spoke.length c4])]) (fun j => [slA 99 (sl 114 pinL) (.slice a3 m1.spoke.length c4) m1.spoke, slA 114 pinL (.slice j.2.1 j.2.2.2.length j.2.2.1) j.2.2.2, curA (d) p]) (fun j => j.2.2.2.length ≤ 8 + j.1 ∧ j.1 ≤ 10) (fun j => 10 - j.1) (0, a7, c8, m5) [2, 3, 4, 5] ⟨by dsimp only; omega, by omega⟩ (by kernel_rfl) rfl rfl ?_))))))
  rintro ⟨i, oa, oc, out⟩ ⟨hil, hib⟩
  try dsimp only at hil hib
  refine SEQ (SEQ (RG (UU 2 [(13, B (decide ((i : Int) < 10)))] (NI (decide ((i : Int) < 10)) (fun bh12 => ?_) (fun bh12 => ?_)))))
  ·
   have h12 := of_decide_eq_true bh12
   refine SKIP (NEXT (SEQ (BLOCK (RG (UU 6 [(16, .v (.slice oa out.length oc)), (21, .v (.agg #[vi (wr (3 + (i : Int))), vi (wr (100 + (i : Int)))]))] (OPC (BUILDS 99 1 #[(0, .tmp 21)] 22 99 (by kernel_rfl) (NL rfl) 114 [vi (wr (3 + (i : Int))), vi (wr (100 + (i : Int)))] (by kernel_rfl) pinL [(⟨wr (3 + (i : Int)), wr (100 + (i : Int))⟩ : Pin)] rfl (by simp only [maxLen]; omega) [] [] _ rfl (flatRep rfl) (fun a13 ha14 => (OPC (APPENDO 99 (.tmp 16) (.tmp 22) 23 99 (by kernel_rfl) (NL rfl) (.slice oa out.length oc) a13 1 1 (by kernel_rfl) (by kernel_rfl) ha14 114 (by kernel_rfl) pinL (.agg #[vi 0, vi 0]) 16 (by kernel_rfl) rfl (by decide) 1 2 out ([(⟨wr (3 + (i : Int)), wr (100 + (i : Int))⟩ : Pin)]) _ rfl rfl (by first | omega | (simp only [List.length_append, List.length_cons, List.length_nil, List.length_take, List.length_drop] at *; omega)) (by simp only [maxLen]; first | omega | (simp only [List.length_append, List.length_cons, List.length_nil, List.length_take, List.length_drop] at *; omega)) (fun a15 c16 hn17 => (UU 1 [(4, .v (.slice a15 ((out ++ ([(⟨wr (3 + (i : Int)), wr (100 + (i : Int))⟩ : Pin)])).length) c16))] (ENDOPS (OUTN (NEXT (RG (UU 2 [(15, I (wr ((i : Int) + 1)))] (CS 15 (vi (wr ((i : Int) + 1))) (vi ((i + 1 : Nat) : Int)) (vi_cast (by omega) (by omega)) (UU 1 [(5, I ((i + 1 : Nat) : Int))] (ENDOPS (BK (i + 1, a15, c16, out ++ ([(⟨wr (3 + (i : Int)), wr (100 + (i : Int))⟩ : Pin)])) [2, 3, 4, 5] 2 [0, 1, 0] ⟨by simp only [List.length_append, List.length_cons, List.length_nil]; omega, by dsimp only; omega⟩ (by dsimp only; omega))))))))))))))))))))))
  ·
   have h12 := of_decide_eq_false bh12
   refine EXIT (PASS trivial (PASS trivial (OUT (NEXT (SEQ (SEQ (RG (UU 1 [(6, I 0)] (ENDOPS (NEXT (BLOCK (LOOP (ι := Nat × (Option Addr) × Nat × (List (List Pin))) (fun j => [(2, .p 0 0), (3, .p 1 0), (4, .v (.slice oa out.length oc)), (6, I (j.1 : Int))]) (fun j => [(58, [.slice none 0 0]), (58, [.slice j.2.1 j.2.2.2.length j.2.2.1])]) (fun j => [slA 99 (sl 114 pinL) (.slice j.2.1 j.2.2.2.length j.2.2.1) j.2.2.2, slA 114 pinL (.slice oa out.length oc) out, curA (d) p]) (fun j => j.1 ≤ out.length ∧ j.2.2.2.length = 9 ∧ j.2.2.2.flatten.length ≤ j.1) (fun j => out.length - j.1) (0, a3, c4, m1.spoke) [2, 3, 4, 6] ⟨by first | omega | (dsimp only; omega) | (simp; done) | (simp; omega), by first | omega | (dsimp only; omega) | (simp; done) | (simp; omega), by first | omega | (dsimp only; omega) | (simp; done) | (simp; omega)⟩ (by kernel_rfl) rfl rfl ?_))))))))))))
   rintro ⟨k, sa, sc, sp⟩ ⟨hk, hs9, hsf⟩
   try dsimp only at hk hs9 hsf
   refine SEQ (SEQ (RG (UU 4 [(27, B (decide ((k : Int) < (out.length : Int))))] (NI (decide ((k : Int) < (out.length : Int))) (fun bh18 => ?_) (fun bh18 => ?_)))))
   ·
    have h18 := of_decide_eq_true bh18
    refine SKIP (NEXT (SEQ (BLOCK (FACT (oa.isSome = true) (fun w hw => SlO.isS (hw.own 1 rfl) (by first | omega | (dsimp only; omega))) (fun hs19 => (EXPORT (fun bs hbs => ?_)))))))
    obtain ⟨b20, b21, rfl⟩ := len2 hbs
    refine REGIONH (by kernel_rfl) 10 rfl [ptC b20 58 [.slice none 0 0], slA 99 (sl 114 pinL) (.slice sa sp.length sc) sp, slA 114 pinL (.slice oa out.length oc) out, curA (d) p] (HP [0, 1, 1, 1] 1 [(32, .v (.slice oa out.length oc))] (HP [0, 1, 1, 1] 2 [(33, I (k : Int))] ?_))
    obtain ⟨x22, hx23⟩ : ∃ y, out[k]? = some y := ⟨_, List.getElem?_eq_getElem (by omega)⟩
    refine HINDEX (i := 3) (js := [0, 1, 1, 1])  99 (.tmp 32) (.tmp 33) 34 0 (by kernel_rfl) (NL rfl) oa out.length oc .i64 (k : Int) 114 2 (by kernel_rfl) (by kernel_rfl) (by kernel_rfl) (by kernel_rfl) hs19 (by omega) (by omega) (by kernel_rfl) rfl (HLOADE (i := 4) (js := [0, 1, 1, 1])  114 (.tmp 34) 35 114 (by kernel_rfl) (NL rfl) oa (k * 2) 0 (pinE x22) (.agg (pinE x22).toArray) (by kernel_rfl) (fun w hw => (hw.rdO 2 rfl).flat hx23) (by kernel_rfl) (by kernel_rfl) rfl (HALL [0] (by kernel_rfl) (by decide) (LE 58 (.tmp 3) 31 58 (some ⟨b21, 0, none⟩) 0 0 ([.slice sa sp.length sc]) (.agg #[.slice sa sp.length sc]) (fun w hw => ptC_elem (hw.own 1 rfl)) (HKEEP (js := [0, 1, 1, 1]) rfl (HALL [5] (by kernel_rfl) (by decide) (CA 99 #[.agg #[.slice sa sp.length sc], .agg #[vi x22.at', vi x22.id]] (some 36) (⟨HH, fun p => .tuple #[.agg #[.slice p.1 (((wheelPut (⟨sp⟩ : Wheel) x22).spoke).length) p.2], .bool (wheelPutB (⟨sp⟩ : Wheel) x22)], fun p => [slA 99 (sl 114 pinL) (.slice p.1 ((wheelPut (⟨sp⟩ : Wheel) x22).spoke).length p.2) ((wheelPut (⟨sp⟩ : Wheel) x22).spoke)]⟩) (fun w hw => sWheelPut_c w (⟨sp⟩ : Wheel) sa sc (hw.rdO 2 rfl) x22 (by first | assumption | omega | (dsimp only; omega) | (simp only [List.length_append, List.length_cons, List.length_nil] at *; omega)) (by first | assumption | omega | (dsimp only; omega) | (simp only [List.length_append, List.length_cons, List.length_nil] at *; omega))) ?_))))))
    rintro ⟨a24, c25⟩
    have hr26 := wheelPut_len (⟨sp⟩ : Wheel) x22
    dsimp only at hr26
    refine HKEEP (js := [0, 1, 1, 1]) rfl (HP [0, 1, 1, 1] 6 [(30, .v (.tuple #[.agg #[.slice a24 (((wheelPut (⟨sp⟩ : Wheel) x22).spoke).length) c25], .bool (wheelPutB (⟨sp⟩ : Wheel) x22)]))] (HP [0, 1, 1, 1] 7 [(37, .v (.agg #[.slice a24 (((wheelPut (⟨sp⟩ : Wheel) x22).spoke).length) c25]))] (HP [0, 1, 1, 1] 8 [] (HALL [9] (by kernel_rfl) (by decide) (STOREC 58 (.tmp 3) (.tmp 37) 0 (by kernel_rfl) 1 _ b21 0 58 [.slice sa sp.length sc] [.slice a24 (((wheelPut (⟨sp⟩ : Wheel) x22).spoke).length) c25] rfl (.agg #[.slice a24 (((wheelPut (⟨sp⟩ : Wheel) x22).spoke).length) c25]) (by kernel_rfl) (by kernel_rfl) (by kernel_rfl) (HKEEP (js := [0, 0, 0, 0]) rfl (HEND (by kernel_rfl) (IMPORT (L0 := [(58, [.slice none 0 0]), (58, [.slice a24 (((wheelPut (⟨sp⟩ : Wheel) x22).spoke).length) c25])]) (L1 := []) [b20, b21] rfl [0, 4] _ rfl [(2, .p 0 0), (3, .p 1 0), (4, .v (.slice oa out.length oc)), (6, I (k : Int)), (37, .v (.agg #[.slice a24 (((wheelPut (⟨sp⟩ : Wheel) x22).spoke).length) c25]))] (by kernel_rfl) (by kernel_rfl) (OUTN (NEXT (RG (UU 2 [(29, I (wr ((k : Int) + 1)))] (CS 29 (vi (wr ((k : Int) + 1))) (vi ((k + 1 : Nat) : Int)) (vi_cast (by omega) (by omega)) (UU 1 [(6, I ((k + 1 : Nat) : Int))] (ENDOPS (BK (k + 1, a24, c25, (wheelPut (⟨sp⟩ : Wheel) x22).spoke) [2, 3, 4, 6] 2 [3, 1, 1] ⟨by first | omega | (dsimp only; omega) | (simp; done) | (simp; omega), by first | omega | (dsimp only; omega) | (simp; done) | (simp; omega), by first | omega | (dsimp only; omega) | (simp; done) | (simp; omega)⟩ (by first | omega | (dsimp only; omega))))))))))))))))))
   ·
    have h18 := of_decide_eq_false bh18
    refine EXIT (PASS trivial (PASS trivial (OUT (NEXT (SEQ (RG (UL 2 [] [(58, [.slice sa sp.length sc]), (58, [.slice sa sp.length sc])] (ENDOPS (NEXT (RF rfl (.agg #[.slice sa sp.length sc]) ⟨((sa, sc), (⟨sp⟩ : Wheel)), ⟨by first | omega | (dsimp only; omega) | (simp; done) | (simp; omega), by first | omega | (dsimp only; omega) | (simp; done) | (simp; omega)⟩⟩ [0, 1] ?_ ?_))))))))))
    · rfl
    · rfl
 ·
  have h11 := bh11
  refine SKIP (NEXT (SEQ (SEQ (RG (UU 1 [(6, I 0)] (ENDOPS (NEXT (BLOCK (LOOP (ι := Nat × (Option Addr) × Nat × (List (List Pin))) (fun j => [(2, .p 0 0), (3, .p 1 0), (4, .v (.slice a7 m5.length c8)), (6, I (j.1 : Int))]) (fun j => [(58, [.slice none 0 0]), (58, [.slice j.2.1 j.2.2.2.length j.2.2.1])]) (fun j => [slA 99 (sl 114 pinL) (.slice j.2.1 j.2.2.2.length j.2.2.1) j.2.2.2, slA 114 pinL (.slice a7 m5.length c8) m5, curA (d) p]) (fun j => j.1 ≤ m5.length ∧ j.2.2.2.length = 9 ∧ j.2.2.2.flatten.length ≤ j.1) (fun j => m5.length - j.1) (0, a3, c4, m1.spoke) [2, 3, 4, 6] ⟨by first | omega | (dsimp only; omega) | (simp; done) | (simp; omega), by first | omega | (dsimp only; omega) | (simp; done) | (simp; omega), by first | omega | (dsimp only; omega) | (simp; done) | (simp; omega)⟩ (by kernel_rfl) rfl rfl ?_)))))))))
  rintro ⟨k, sa, sc, sp⟩ ⟨hk, hs9, hsf⟩
  try dsimp only at hk hs9 hsf
  refine SEQ (SEQ (RG (UU 4 [(27, B (decide ((k : Int) < (m5.length : Int))))] (NI (decide ((k : Int) < (m5.length : Int))) (fun bh27 => ?_) (fun bh27 => ?_)))))
  ·
   have h27 := of_decide_eq_true bh27
   refine SKIP (NEXT (SEQ (BLOCK (FACT (a7.isSome = true) (fun w hw => SlO.isS (hw.own 1 rfl) (by first | omega | (dsimp only; omega))) (fun hs28 => (EXPORT (fun bs hbs => ?_)))))))
   obtain ⟨b29, b30, rfl⟩ := len2 hbs
   refine REGIONH (by kernel_rfl) 10 rfl [ptC b29 58 [.slice none 0 0], slA 99 (sl 114 pinL) (.slice sa sp.length sc) sp, slA 114 pinL (.slice a7 m5.length c8) m5, curA (d) p] (HP [0, 1, 1, 1] 1 [(32, .v (.slice a7 m5.length c8))] (HP [0, 1, 1, 1] 2 [(33, I (k : Int))] ?_))
   obtain ⟨x31, hx32⟩ : ∃ y, m5[k]? = some y := ⟨_, List.getElem?_eq_getElem (by omega)⟩
   refine HINDEX (i := 3) (js := [0, 1, 1, 1])  99 (.tmp 32) (.tmp 33) 34 0 (by kernel_rfl) (NL rfl) a7 m5.length c8 .i64 (k : Int) 114 2 (by kernel_rfl) (by kernel_rfl) (by kernel_rfl) (by kernel_rfl) hs28 (by omega) (by omega) (by kernel_rfl) rfl (HLOADE (i := 4) (js := [0, 1, 1, 1])  114 (.tmp 34) 35 114 (by kernel_rfl) (NL rfl) a7 (k * 2) 0 (pinE x31) (.agg (pinE x31).toArray) (by kernel_rfl) (fun w hw => (hw.rdO 2 rfl).flat hx32) (by kernel_rfl) (by kernel_rfl) rfl (HALL [0] (by kernel_rfl) (by decide) (LE 58 (.tmp 3) 31 58 (some ⟨b30, 0, none⟩) 0 0 ([.slice sa sp.length sc]) (.agg #[.slice sa sp.length sc]) (fun w hw => ptC_elem (hw.own 1 rfl)) (HKEEP (js := [0, 1, 1, 1]) rfl (HALL [5] (by kernel_rfl) (by decide) (CA 99 #[.agg #[.slice sa sp.length sc], .agg #[vi x31.at', vi x31.id]] (some 36) (⟨HH, fun p => .tuple #[.agg #[.slice p.1 (((wheelPut (⟨sp⟩ : Wheel) x31).spoke).length) p.2], .bool (wheelPutB (⟨sp⟩ : Wheel) x31)], fun p => [slA 99 (sl 114 pinL) (.slice p.1 ((wheelPut (⟨sp⟩ : Wheel) x31).spoke).length p.2) ((wheelPut (⟨sp⟩ : Wheel) x31).spoke)]⟩) (fun w hw => sWheelPut_c w (⟨sp⟩ : Wheel) sa sc (hw.rdO 2 rfl) x31 (by first | assumption | omega | (dsimp only; omega) | (simp only [List.length_append, List.length_cons, List.length_nil] at *; omega)) (by first | assumption | omega | (dsimp only; omega) | (simp only [List.length_append, List.length_cons, List.length_nil] at *; omega))) ?_))))))
   rintro ⟨a33, c34⟩
   have hr35 := wheelPut_len (⟨sp⟩ : Wheel) x31
   dsimp only at hr35
   refine HKEEP (js := [0, 1, 1, 1]) rfl (HP [0, 1, 1, 1] 6 [(30, .v (.tuple #[.agg #[.slice a33 (((wheelPut (⟨sp⟩ : Wheel) x31).spoke).length) c34], .bool (wheelPutB (⟨sp⟩ : Wheel) x31)]))] (HP [0, 1, 1, 1] 7 [(37, .v (.agg #[.slice a33 (((wheelPut (⟨sp⟩ : Wheel) x31).spoke).length) c34]))] (HP [0, 1, 1, 1] 8 [] (HALL [9] (by kernel_rfl) (by decide) (STOREC 58 (.tmp 3) (.tmp 37) 0 (by kernel_rfl) 1 _ b30 0 58 [.slice sa sp.length sc] [.slice a33 (((wheelPut (⟨sp⟩ : Wheel) x31).spoke).length) c34] rfl (.agg #[.slice a33 (((wheelPut (⟨sp⟩ : Wheel) x31).spoke).length) c34]) (by kernel_rfl) (by kernel_rfl) (by kernel_rfl) (HKEEP (js := [0, 0, 0, 0]) rfl (HEND (by kernel_rfl) (IMPORT (L0 := [(58, [.slice none 0 0]), (58, [.slice a33 (((wheelPut (⟨sp⟩ : Wheel) x31).spoke).length) c34])]) (L1 := []) [b29, b30] rfl [0, 4] _ rfl [(2, .p 0 0), (3, .p 1 0), (4, .v (.slice a7 m5.length c8)), (6, I (k : Int)), (37, .v (.agg #[.slice a33 (((wheelPut (⟨sp⟩ : Wheel) x31).spoke).length) c34]))] (by kernel_rfl) (by kernel_rfl) (OUTN (NEXT (RG (UU 2 [(29, I (wr ((k : Int) + 1)))] (CS 29 (vi (wr ((k : Int) + 1))) (vi ((k + 1 : Nat) : Int)) (vi_cast (by omega) (by omega)) (UU 1 [(6, I ((k + 1 : Nat) : Int))] (ENDOPS (BK (k + 1, a33, c34, (wheelPut (⟨sp⟩ : Wheel) x31).spoke) [2, 3, 4, 6] 2 [3, 1, 1] ⟨by first | omega | (dsimp only; omega) | (simp; done) | (simp; omega), by first | omega | (dsimp only; omega) | (simp; done) | (simp; omega), by first | omega | (dsimp only; omega) | (simp; done) | (simp; omega)⟩ (by first | omega | (dsimp only; omega))))))))))))))))))
  ·
   have h27 := of_decide_eq_false bh27
   refine EXIT (PASS trivial (PASS trivial (OUT (NEXT (SEQ (RG (UL 2 [] [(58, [.slice sa sp.length sc]), (58, [.slice sa sp.length sc])] (ENDOPS (NEXT (RF rfl (.agg #[.slice sa sp.length sc]) ⟨((sa, sc), (⟨sp⟩ : Wheel)), ⟨by first | omega | (dsimp only; omega) | (simp; done) | (simp; omega), by first | omega | (dsimp only; omega) | (simp; done) | (simp; omega)⟩⟩ [0, 1] ?_ ?_))))))))))
   · rfl
   · rfl

theorem l9Draw_c (W : World) (d : Cd) (hd : CodeOk W d) (p : Value) : Spec Tryz.prog W [curA d p] 102 #[p] (⟨{q : (HH) × Wheel // (fun x : Wheel => x.spoke.length ≤ 1048576 ∧ x.spoke.flatten.length ≤ 1048576) q.2}, fun q => .agg #[.slice q.1.1.1 q.1.2.spoke.length q.1.1.2], fun q => [slA 99 (sl 114 pinL) (.slice q.1.1.1 q.1.2.spoke.length q.1.1.2) q.1.2.spoke, curA (d) p]⟩) := by
 refine ENTERC (N := 43) (vs := [p]) Tryz.func102 rfl rfl (NL rfl) (fun S0 hS hP => ?_)
 refine SEQ (RG (UL 1 [(2, .p 0 0)] [(58, [.slice none 0 0])] (NR (UU 1 [(5, .v (p))] (OPC (CALL 124 #[p] (some 6) (by kernel_rfl) [0] [curA (d) p] _ rfl (⟨{q : (HH) × Wheel // (fun x : Wheel => x.spoke.length = 9 ∧ x.spoke.flatten.length ≤ 18) q.2}, fun q => .agg #[.slice q.1.1.1 q.1.2.spoke.length q.1.1.2], fun q => [slA 99 (sl 114 pinL) (.slice q.1.1.1 q.1.2.spoke.length q.1.1.2) q.1.2.spoke, curA (d) p]⟩) (fun w hw => l9Right_c w (d) (hd.fr hw.fr hS) p) (NO rfl) ?_))))))
 rintro ⟨⟨⟨a3, c4⟩, m1⟩, hm2⟩
 try dsimp only at hm2
 refine UL 2 [(3, .p 1 0)] [(58, [.slice none 0 0]), (58, [.slice a3 m1.spoke.length c4])] (ENDOPS (NEXT (SEQ (SEQ (RG (UU 1 [(7, .v (p))] (OPC (CALL 21 #[p, vi 10] (some 8) (by kernel_rfl) [1] [curA (d) p] _ rfl (⟨{x : Int // 0 ≤ x ∧ (10 ≤ 0 → x = 0) ∧ (0 < 10 → x < 10)}, fun q => vi q.1, fun q => [curA (d) p]⟩) (fun w hw => l1Below_c w (d) (hd.fr hw.fr hS) p 10) (NO rfl) ?_))))))))
 rintro ⟨m5, hm6⟩
 try dsimp only at hm6
 refine ENDOPS (NEXT (BLOCK (SEQ (RG (UU 2 [(9, B (m5 == 0))] (NI (m5 == 0) (fun bh7 => ?_) (fun bh7 => ?_)))))))
 ·
  have h7 := eq_of_beq bh7
  refine SEQ (RG (UU 1 [(11, .v (p))] (OPC (CALL 21 #[p, vi 9] (some 12) (by kernel_rfl) [1] [curA (d) p] _ rfl (⟨{x : Int // 0 ≤ x ∧ (9 ≤ 0 → x = 0) ∧ (0 < 9 → x < 9)}, fun q => vi q.1, fun q => [curA (d) p]⟩) (fun w hw => l1Below_c w (d) (hd.fr hw.fr hS) p 9) (NO rfl) ?_))))
  rintro ⟨m8, hm9⟩
  try dsimp only at hm9
  refine UU 1 [(4, I m8)] (ENDOPS (NEXT (FACT (a3.isSome = true) (fun w hw => SlO.isS (hw.own 0 rfl) (by first | omega | (dsimp only; omega))) (fun hs10 => (EXPORT (fun bs hbs => ?_))))))
  obtain ⟨b11, b12, rfl⟩ := len2 hbs
  refine REGIONH (by kernel_rfl) 14 rfl [ptC b11 58 [.slice none 0 0], ptC b12 58 [.slice a3 m1.spoke.length c4]] (HP [0, 0] 0 [(13, .e (some ⟨b12, 0, none⟩) 0 0)] (HLOADE (i := 1) (js := [0, 0])  56 (.tmp 13) 14 56 (by kernel_rfl) (NL rfl) (some ⟨b12, 0, none⟩) 0 0 ([.slice a3 m1.spoke.length c4]) (.slice a3 m1.spoke.length c4) (by kernel_rfl) (fun w hw => ptC_elem (hw.own 1 rfl)) (by kernel_rfl) (by kernel_rfl) rfl (HP [0, 0] 2 [(15, I m8)] (HP [0, 0] 3 [(16, .e (some ⟨b12, 0, none⟩) 0 0)] (HLOADE (i := 4) (js := [0, 0])  56 (.tmp 16) 17 56 (by kernel_rfl) (NL rfl) (some ⟨b12, 0, none⟩) 0 0 ([.slice a3 m1.spoke.length c4]) (.slice a3 m1.spoke.length c4) (by kernel_rfl) (fun w hw => ptC_elem (hw.own 1 rfl)) (by kernel_rfl) (by kernel_rfl) rfl (HP [0, 0] 5 [(18, I m8)] ?_))))))
  obtain ⟨x13, hx14⟩ : ∃ y, m1.spoke[m8.toNat]? = some y := ⟨_, List.getElem?_eq_getElem (by omega)⟩
  refine HINDEX (i := 6) (js := [0, 0])  56 (.tmp 17) (.tmp 18) 19 0 (by kernel_rfl) (NL rfl) a3 m1.spoke.length c4 .i64 m8 99 1 (by kernel_rfl) (by kernel_rfl) (by kernel_rfl) (by kernel_rfl) hs10 (by omega) (by omega) (by kernel_rfl) rfl (HP [0, 0] 8 [(21, .v (p))] (HALL [7, 9] (by kernel_rfl) (by decide) ⟨?_, ?_⟩))
  ·
   refine HOLE (ι := HH) (fun i => [.slice i.1 x13.length i.2]) (fun i => [slA 114 pinL (.slice i.1 x13.length i.2) x13]) 2 _ rfl hx14 slHun (fun ⟨a15, c16⟩ => ?_)
   have hfm := flat_mem hx14
   refine LE 99 (.tmp 19) 20 99 a3 (m8.toNat * 1) 0 ([.slice a15 x13.length c16]) (.slice a15 x13.length c16) (fun w hw => slHo.elem (hw.own 3 rfl)) (HKEEP (js := [0, 0]) rfl (HALL [9] (by kernel_rfl) (by decide) (CALL 125 #[p] (some 22) (by kernel_rfl) [2] [curA (d) p] _ rfl (⟨{x : Pin // True}, fun q => .agg #[vi q.1.at', vi q.1.id], fun q => [curA (d) p]⟩) (fun w hw => l9Pin_c w (d) (hd.fr hw.fr hS) p) (NO rfl) ?_)))
   rintro ⟨m17, hm18⟩
   try dsimp only at hm18
   refine HKEEP (js := [0, 0]) rfl (HALL [10] (by kernel_rfl) (by decide) (BUILDS 99 1 #[(0, .tmp 22)] 23 99 (by kernel_rfl) (NL rfl) 114 [vi m17.at', vi m17.id] (by kernel_rfl) pinL [m17] rfl (by simp only [maxLen]; omega) [] [] _ rfl (flatRep rfl) (fun a19 ha20 => (HKEEP (js := [0, 0]) rfl (HALL [11] (by kernel_rfl) (by decide) (APPENDO 99 (.tmp 20) (.tmp 23) 24 99 (by kernel_rfl) (NL rfl) (.slice a15 x13.length c16) a19 1 1 (by kernel_rfl) (by kernel_rfl) ha20 114 (by kernel_rfl) pinL (.agg #[vi 0, vi 0]) 16 (by kernel_rfl) rfl (by decide) 3 4 x13 ([m17]) _ rfl rfl (by first | omega | (simp only [List.length_append, List.length_cons, List.length_nil, List.length_take, List.length_drop] at *; omega)) (by simp only [maxLen]; first | omega | (simp only [List.length_append, List.length_cons, List.length_nil, List.length_take, List.length_drop] at *; omega)) (fun a21 c22 hn23 => (HKEEP (js := [0, 0]) rfl (HINDEX (i := 12) (js := [0, 0])  56 (.tmp 14) (.tmp 15) 25 0 (by kernel_rfl) (NL rfl) a3 m1.spoke.length c4 .i64 m8 99 1 (by kernel_rfl) (by kernel_rfl) (by kernel_rfl) (by kernel_rfl) hs10 (by omega) (by omega) (by kernel_rfl) rfl (HALL [13] (by kernel_rfl) (by decide) (STOREH 99 (.tmp 25) (.tmp 24) 0 (by kernel_rfl) 2 _ 99 (sl 114 pinL) a3 m1.spoke.length c4 m8.toNat 0 m1.spoke [.slice a15 x13.length c16] [.slice a21 ((x13 ++ ([m17])).length) c22] rfl (.slice a21 ((x13 ++ ([m17])).length) c22) (by kernel_rfl) (by kernel_rfl) (by kernel_rfl) (HKEEP (js := [0, 0]) rfl ?_))))))))))))
   refine HEND (by kernel_rfl) (IMPORT (L0 := [(58, [.slice none 0 0]), (58, [.slice a3 m1.spoke.length c4])]) (L1 := []) [b11, b12] rfl [0, 0] _ rfl [(2, .p 0 0), (3, .p 1 0), (14, .v (.slice a3 m1.spoke.length c4)), (15, I m8), (19, .e a3 (m8.toNat * 1) 0), (20, .v (.slice a15 x13.length c16)), (21, .v (p)), (22, .v (.agg (pinE m17).toArray)), (23, .v (.slice a19 1 1)), (24, .v (.slice a21 ((x13 ++ ([m17])).length) c22)), (25, .e a3 (m8.toNat * 1) 0)] (by kernel_rfl) (by kernel_rfl) (OUTN (NEXT (SEQ (RG (UL 2 [] [(58, [.slice a3 m1.spoke.length c4]), (58, [.slice a3 m1.spoke.length c4])] (ENDOPS (NEXT (RET (UNHOLE (x13 ++ ([m17])) [2, 1] [slA 114 pinL (.slice a21 (x13 ++ ([m17])).length c22) (x13 ++ ([m17]))] _ rfl (nestRepN (e' := 0) (x := x13 ++ ([m17]))) (FACT (m1.spoke.length = (m1.spoke.set m8.toNat (x13 ++ ([m17]))).length) (fun w hw => (SlO.lenE (hw.own 1 rfl)).1) (fun hln24 => ?_))))))))))))
   refine RELENK (fun z : Nat => [(2, .p 0 0)]) (fun z : Nat => [(58, [.slice a3 z c4]), (58, [.slice a3 z c4])]) (fun z : Nat => [curA (d) p, slA 99 (sl 114 pinL) (.slice a3 z c4) (m1.spoke.set m8.toNat (x13 ++ ([m17])))]) hln24 ?_
   refine FIN (.agg #[.slice a3 ((m1.spoke.set m8.toNat (x13 ++ ([m17]))).length) c4]) (by kernel_rfl) ⟨((a3, c4), (⟨m1.spoke.set m8.toNat (x13 ++ ([m17]))⟩ : Wheel)), ⟨by first | omega | (dsimp only; omega) | (simp; done) | (simp; omega), by dsimp only; first | omega | (refine Nat.le_trans (flat_set_le _ _ _) ?_; simp only [List.length_append, List.length_cons, List.length_nil]; omega) | (refine Nat.le_trans (flat_take_le _ _) ?_; omega) | (simp only [List.flatten_append, List.length_append, List.flatten_cons, List.flatten_nil, List.length_nil]; omega)⟩⟩ ?_ [1, 0] ?_
   · rfl
   · rfl
  ·
   refine CALL 125 #[p] (some 22) (by kernel_rfl) [3] [curA (d) p] _ rfl (⟨{x : Pin // True}, fun q => .agg #[vi q.1.at', vi q.1.id], fun q => [curA (d) p]⟩) (fun w hw => l9Pin_c w (d) (hd.fr hw.fr hS) p) (NO rfl) ?_
   rintro ⟨m25, hm26⟩
   try dsimp only at hm26
   refine HKEEP (js := [0, 0]) rfl (HALL [7, 10] (by kernel_rfl) (by decide) ⟨?_, ?_⟩)
   ·
    refine HOLE (ι := HH) (fun i => [.slice i.1 x13.length i.2]) (fun i => [slA 114 pinL (.slice i.1 x13.length i.2) x13]) 2 _ rfl hx14 slHun (fun ⟨a27, c28⟩ => ?_)
    have hfm := flat_mem hx14
    refine LE 99 (.tmp 19) 20 99 a3 (m8.toNat * 1) 0 ([.slice a27 x13.length c28]) (.slice a27 x13.length c28) (fun w hw => slHo.elem (hw.own 3 rfl)) (HKEEP (js := [0, 0]) rfl (HALL [10] (by kernel_rfl) (by decide) (BUILDS 99 1 #[(0, .tmp 22)] 23 99 (by kernel_rfl) (NL rfl) 114 [vi m25.at', vi m25.id] (by kernel_rfl) pinL [m25] rfl (by simp only [maxLen]; omega) [] [] _ rfl (flatRep rfl) (fun a29 ha30 => (HKEEP (js := [0, 0]) rfl (HALL [11] (by kernel_rfl) (by decide) (APPENDO 99 (.tmp 20) (.tmp 23) 24 99 (by kernel_rfl) (NL rfl) (.slice a27 x13.length c28) a29 1 1 (by kernel_rfl) (by kernel_rfl) ha30 114 (by kernel_rfl) pinL (.agg #[vi 0, vi 0]) 16 (by kernel_rfl) rfl (by decide) 4 4 x13 ([m25]) _ rfl rfl (by first | omega | (simp only [List.length_append, List.length_cons, List.length_nil, List.length_take, List.length_drop] at *; omega)) (by simp only [maxLen]; first | omega | (simp only [List.length_append, List.length_cons, List.length_nil, List.length_take, List.length_drop] at *; omega)) (fun a31 c32 hn33 => (HKEEP (js := [0, 0]) rfl (HINDEX (i := 12) (js := [0, 0])  56 (.tmp 14) (.tmp 15) 25 0 (by kernel_rfl) (NL rfl) a3 m1.spoke.length c4 .i64 m8 99 1 (by kernel_rfl) (by kernel_rfl) (by kernel_rfl) (by kernel_rfl) hs10 (by omega) (by omega) (by kernel_rfl) rfl (HALL [13] (by kernel_rfl) (by decide) (STOREH 99 (.tmp 25) (.tmp 24) 0 (by kernel_rfl) 3 _ 99 (sl 114 pinL) a3 m1.spoke.length c4 m8.toNat 0 m1.spoke [.slice a27 x13.length c28] [.slice a31 ((x13 ++ ([m25])).length) c32] rfl (.slice a31 ((x13 ++ ([m25])).length) c32) (by kernel_rfl) (by kernel_rfl) (by kernel_rfl) (HKEEP (js := [0, 0]) rfl ?_)))))))))))))
    refine HEND (by kernel_rfl) (IMPORT (L0 := [(58, [.slice none 0 0]), (58, [.slice a3 m1.spoke.length c4])]) (L1 := []) [b11, b12] rfl [0, 0] _ rfl [(2, .p 0 0), (3, .p 1 0), (14, .v (.slice a3 m1.spoke.length c4)), (15, I m8), (19, .e a3 (m8.toNat * 1) 0), (20, .v (.slice a27 x13.length c28)), (21, .v (p)), (22, .v (.agg (pinE m25).toArray)), (23, .v (.slice a29 1 1)), (24, .v (.slice a31 ((x13 ++ ([m25])).length) c32)), (25, .e a3 (m8.toNat * 1) 0)] (by kernel_rfl) (by kernel_rfl) (OUTN (NEXT (SEQ (RG (UL 2 [] [(58, [.slice a3 m1.spoke.length c4]), (58, [.slice a3 m1.spoke.length c4])] (ENDOPS (NEXT (RET (UNHOLE (x13 ++ ([m25])) [2, 1] [slA 114 pinL (.slice a31 (x13 ++ ([m25])).length c32) (x13 ++ ([m25]))] _ rfl (nestRepN (e' := 0) (x := x13 ++ ([m25]))) (FACT (m1.spoke.length = (m1.spoke.set m8.toNat (x13 ++ ([m25]))).length) (fun w hw => (SlO.lenE (hw.own 1 rfl)).1) (fun hln34 => ?_))))))))))))
    refine RELENK (fun z : Nat => [(2, .p 0 0)]) (fun z : Nat => [(58, [.slice a3 z c4]), (58, [.slice a3 z c4])]) (fun z : Nat => [curA (d) p, slA 99 (sl 114 pinL) (.slice a3 z c4) (m1.spoke.set m8.toNat (x13 ++ ([m25])))]) hln34 ?_
    refine FIN (.agg #[.slice a3 ((m1.spoke.set m8.toNat (x13 ++ ([m25]))).length) c4]) (by kernel_rfl) ⟨((a3, c4), (⟨m1.spoke.set m8.toNat (x13 ++ ([m25]))⟩ : Wheel)), ⟨by first | omega | (dsimp only; omega) | (simp; done) | (simp; omega), by dsimp only; first | omega | (refine Nat.le_trans (flat_set_le _ _ _) ?_; simp only [List.length_append, List.length_cons, List.length_nil]; omega) | (refine Nat.le_trans (flat_take_le _ _) ?_; omega) | (simp only [List.flatten_append, List.length_append, List.flatten_cons, List.flatten_nil, List.length_nil]; omega)⟩⟩ ?_ [1, 0] ?_
    · rfl
    · rfl
   ·
    refine BUILDS 99 1 #[(0, .tmp 22)] 23 99 (by kernel_rfl) (NL rfl) 114 [vi m25.at', vi m25.id] (by kernel_rfl) pinL [m25] rfl (by simp only [maxLen]; omega) [] [] _ rfl (flatRep rfl) (fun a35 ha36 => (HKEEP (js := [0, 0]) rfl (HALL [7] (by kernel_rfl) (by decide) (HOLE (ι := HH) (fun i => [.slice i.1 x13.length i.2]) (fun i => [slA 114 pinL (.slice i.1 x13.length i.2) x13]) 2 _ rfl hx14 slHun (fun ⟨a37, c38⟩ => ?_)))))
    have hfm := flat_mem hx14
    refine LE 99 (.tmp 19) 20 99 a3 (m8.toNat * 1) 0 ([.slice a37 x13.length c38]) (.slice a37 x13.length c38) (fun w hw => slHo.elem (hw.own 4 rfl)) (HKEEP (js := [0, 0]) rfl (HALL [11] (by kernel_rfl) (by decide) (APPENDO 99 (.tmp 20) (.tmp 23) 24 99 (by kernel_rfl) (NL rfl) (.slice a37 x13.length c38) a35 1 1 (by kernel_rfl) (by kernel_rfl) ha36 114 (by kernel_rfl) pinL (.agg #[vi 0, vi 0]) 16 (by kernel_rfl) rfl (by decide) 5 3 x13 ([m25]) _ rfl rfl (by first | omega | (simp only [List.length_append, List.length_cons, List.length_nil, List.length_take, List.length_drop] at *; omega)) (by simp only [maxLen]; first | omega | (simp only [List.length_append, List.length_cons, List.length_nil, List.length_take, List.length_drop] at *; omega)) (fun a39 c40 hn41 => (HKEEP (js := [0, 0]) rfl (HINDEX (i := 12) (js := [0, 0])  56 (.tmp 14) (.tmp 15) 25 0 (by kernel_rfl) (NL rfl) a3 m1.spoke.length c4 .i64 m8 99 1 (by kernel_rfl) (by kernel_rfl) (by kernel_rfl) (by kernel_rfl) hs10 (by omega) (by omega) (by kernel_rfl) rfl (HALL [13] (by kernel_rfl) (by decide) (STOREH 99 (.tmp 25) (.tmp 24) 0 (by kernel_rfl) 3 _ 99 (sl 114 pinL) a3 m1.spoke.length c4 m8.toNat 0 m1.spoke [.slice a37 x13.length c38] [.slice a39 ((x13 ++ ([m25])).length) c40] rfl (.slice a39 ((x13 ++ ([m25])).length) c40) (by kernel_rfl) (by kernel_rfl) (by kernel_rfl) (HKEEP (js := [0, 0]) rfl (HEND (by kernel_rfl) (IMPORT (L0 := [(58, [.slice none 0 0]), (58, [.slice a3 m1.spoke.length c4])]) (L1 := []) [b11, b12] rfl [0, 0] _ rfl [(2, .p 0 0), (3, .p 1 0), (14, .v (.slice a3 m1.spoke.length c4)), (15, I m8), (19, .e a3 (m8.toNat * 1) 0), (20, .v (.slice a37 x13.length c38)), (21, .v (p)), (22, .v (.agg (pinE m25).toArray)), (23, .v (.slice a35 1 1)), (24, .v (.slice a39 ((x13 ++ ([m25])).length) c40)), (25, .e a3 (m8.toNat * 1) 0)] (by kernel_rfl) (by kernel_rfl) (OUTN (NEXT (SEQ (RG ?_)))))))))))))))
    refine UL 2 [] [(58, [.slice a3 m1.spoke.length c4]), (58, [.slice a3 m1.spoke.length c4])] (ENDOPS (NEXT (RET (UNHOLE (x13 ++ ([m25])) [2, 1] [slA 114 pinL (.slice a39 (x13 ++ ([m25])).length c40) (x13 ++ ([m25]))] _ rfl (nestRepN (e' := 0) (x := x13 ++ ([m25]))) (FACT (m1.spoke.length = (m1.spoke.set m8.toNat (x13 ++ ([m25]))).length) (fun w hw => (SlO.lenE (hw.own 1 rfl)).1) (fun hln42 => ?_))))))
    refine RELENK (fun z : Nat => [(2, .p 0 0)]) (fun z : Nat => [(58, [.slice a3 z c4]), (58, [.slice a3 z c4])]) (fun z : Nat => [curA (d) p, slA 99 (sl 114 pinL) (.slice a3 z c4) (m1.spoke.set m8.toNat (x13 ++ ([m25])))]) hln42 ?_
    refine FIN (.agg #[.slice a3 ((m1.spoke.set m8.toNat (x13 ++ ([m25]))).length) c4]) (by kernel_rfl) ⟨((a3, c4), (⟨m1.spoke.set m8.toNat (x13 ++ ([m25]))⟩ : Wheel)), ⟨by first | omega | (dsimp only; omega) | (simp; done) | (simp; omega), by dsimp only; first | omega | (refine Nat.le_trans (flat_set_le _ _ _) ?_; simp only [List.length_append, List.length_cons, List.length_nil]; omega) | (refine Nat.le_trans (flat_take_le _ _) ?_; omega) | (simp only [List.flatten_append, List.length_append, List.flatten_cons, List.flatten_nil, List.length_nil]; omega)⟩⟩ ?_ [1, 0] ?_
    · rfl
    · rfl
 ·
  have h7 := ne_of_beq_false bh7
  refine SEQ (RG (UU 2 [(26, B (m5 == 1))] (NI (m5 == 1) (fun bh43 => ?_) (fun bh43 => ?_))))
  ·
   have h43 := eq_of_beq bh43
   refine EXPORT (fun bs hbs => ?_)
   obtain ⟨b44, b45, rfl⟩ := len2 hbs
   refine REGIONH (by kernel_rfl) 7 rfl [ptC b44 58 [.slice none 0 0]] (HP [0] 0 [(28, .e (some ⟨b45, 0, none⟩) 0 0)] (HP [0] 2 [(30, .v (p))] (HALL [1, 3] (by kernel_rfl) (by decide) ⟨?_, ?_⟩)))
   ·
    refine LE 56 (.tmp 28) 29 56 (some ⟨b45, 0, none⟩) 0 0 ([.slice a3 m1.spoke.length c4]) (.slice a3 m1.spoke.length c4) (fun w hw => ptC_elem (hw.own 1 rfl)) (HKEEP (js := [0]) rfl (HALL [3] (by kernel_rfl) (by decide) (CALL 21 #[p, vi 10] (some 31) (by kernel_rfl) [3] [curA (d) p] _ rfl (⟨{x : Int // 0 ≤ x ∧ (10 ≤ 0 → x = 0) ∧ (0 < 10 → x < 10)}, fun q => vi q.1, fun q => [curA (d) p]⟩) (fun w hw => l1Below_c w (d) (hd.fr hw.fr hS) p 10) (NO rfl) ?_)))
    rintro ⟨m46, hm47⟩
    try dsimp only at hm47
    refine HKEEP (js := [0]) rfl (HALL [4] (by kernel_rfl) (by decide) (FACT (m1.spoke.length ≤ c4) (fun w hw => SlO.capE (hw.own 2 rfl)) (fun hcap48 => (FACT (m1.spoke.length = m1.spoke.length) (fun w hw => (SlO.lenE (hw.own 2 rfl)).1) (fun hln49 => (CUTO 56 (.tmp 29) (.tmp 31) 32 56 (by kernel_rfl) (NL rfl) a3 m1.spoke.length c4 .i64 m46 (by kernel_rfl) (by kernel_rfl) 99 (sl 114 pinL) m1.spoke (by kernel_rfl) (by kernel_rfl) (by omega) (by first | omega | (simp only [List.length_append, List.length_cons, List.length_nil, List.length_take, List.length_drop] at *; omega)) hln49 hcap48 2 _ rfl (HKEEP (js := [0]) rfl (HP [0] 5 [(33, .e (some ⟨b45, 0, none⟩) 0 0)] (HALL [6] (by kernel_rfl) (by decide) (STOREC 56 (.tmp 33) (.tmp 32) 0 (by kernel_rfl) 1 _ b45 0 58 [.slice a3 m1.spoke.length c4] [.slice a3 m46.toNat c4] rfl (.slice a3 m46.toNat c4) (by kernel_rfl) (by kernel_rfl) (by kernel_rfl) (HKEEP (js := [0]) rfl (HEND (by kernel_rfl) (IMPORT (L0 := [(58, [.slice none 0 0]), (58, [.slice a3 m46.toNat c4])]) (L1 := []) [b44, b45] rfl [0, 2] _ rfl [(2, .p 0 0), (3, .p 1 0), (32, .v (.slice a3 m46.toNat c4)), (33, .p 1 0)] (by kernel_rfl) (by kernel_rfl) (OUTN (NEXT (SEQ (RG (UL 2 [] [(58, [.slice a3 m46.toNat c4]), (58, [.slice a3 m46.toNat c4])] (ENDOPS (NEXT (RET (FACT (m46.toNat = (m1.spoke.take m46.toNat).length) (fun w hw => (SlO.lenE (hw.own 1 rfl)).1) (fun hln50 => ?_)))))))))))))))))))))))
    refine RELENK (fun z : Nat => [(2, .p 0 0)]) (fun z : Nat => [(58, [.slice a3 z c4]), (58, [.slice a3 z c4])]) (fun z : Nat => [curA (d) p, slA 99 (sl 114 pinL) (.slice a3 z c4) (m1.spoke.take m46.toNat)]) hln50 ?_
    refine FIN (.agg #[.slice a3 ((m1.spoke.take m46.toNat).length) c4]) (by kernel_rfl) ⟨((a3, c4), (⟨m1.spoke.take m46.toNat⟩ : Wheel)), ⟨by first | omega | (dsimp only; omega) | (simp; done) | (simp; omega), by dsimp only; first | omega | (refine Nat.le_trans (flat_set_le _ _ _) ?_; simp only [List.length_append, List.length_cons, List.length_nil]; omega) | (refine Nat.le_trans (flat_take_le _ _) ?_; omega) | (simp only [List.flatten_append, List.length_append, List.flatten_cons, List.flatten_nil, List.length_nil]; omega)⟩⟩ ?_ [1, 0] ?_
    · rfl
    · rfl
   ·
    refine CALL 21 #[p, vi 10] (some 31) (by kernel_rfl) [3] [curA (d) p] _ rfl (⟨{x : Int // 0 ≤ x ∧ (10 ≤ 0 → x = 0) ∧ (0 < 10 → x < 10)}, fun q => vi q.1, fun q => [curA (d) p]⟩) (fun w hw => l1Below_c w (d) (hd.fr hw.fr hS) p 10) (NO rfl) ?_
    rintro ⟨m51, hm52⟩
    try dsimp only at hm52
    refine HKEEP (js := [0]) rfl (HALL [1] (by kernel_rfl) (by decide) (LE 56 (.tmp 28) 29 56 (some ⟨b45, 0, none⟩) 0 0 ([.slice a3 m1.spoke.length c4]) (.slice a3 m1.spoke.length c4) (fun w hw => ptC_elem (hw.own 1 rfl)) (HKEEP (js := [0]) rfl (HALL [4] (by kernel_rfl) (by decide) (FACT (m1.spoke.length ≤ c4) (fun w hw => SlO.capE (hw.own 2 rfl)) (fun hcap53 => (FACT (m1.spoke.length = m1.spoke.length) (fun w hw => (SlO.lenE (hw.own 2 rfl)).1) (fun hln54 => (CUTO 56 (.tmp 29) (.tmp 31) 32 56 (by kernel_rfl) (NL rfl) a3 m1.spoke.length c4 .i64 m51 (by kernel_rfl) (by kernel_rfl) 99 (sl 114 pinL) m1.spoke (by kernel_rfl) (by kernel_rfl) (by omega) (by first | omega | (simp only [List.length_append, List.length_cons, List.length_nil, List.length_take, List.length_drop] at *; omega)) hln54 hcap53 2 _ rfl (HKEEP (js := [0]) rfl (HP [0] 5 [(33, .e (some ⟨b45, 0, none⟩) 0 0)] (HALL [6] (by kernel_rfl) (by decide) (STOREC 56 (.tmp 33) (.tmp 32) 0 (by kernel_rfl) 1 _ b45 0 58 [.slice a3 m1.spoke.length c4] [.slice a3 m51.toNat c4] rfl (.slice a3 m51.toNat c4) (by kernel_rfl) (by kernel_rfl) (by kernel_rfl) (HKEEP (js := [0]) rfl (HEND (by kernel_rfl) (IMPORT (L0 := [(58, [.slice none 0 0]), (58, [.slice a3 m51.toNat c4])]) (L1 := []) [b44, b45] rfl [0, 2] _ rfl [(2, .p 0 0), (3, .p 1 0), (32, .v (.slice a3 m51.toNat c4)), (33, .p 1 0)] (by kernel_rfl) (by kernel_rfl) (OUTN (NEXT (SEQ (RG (UL 2 [] [(58, [.slice a3 m51.toNat c4]), (58, [.slice a3 m51.toNat c4])] (ENDOPS (NEXT (RET (FACT (m51.toNat = (m1.spoke.take m51.toNat).length) (fun w hw => (SlO.lenE (hw.own 1 rfl)).1) (fun hln55 => ?_))))))))))))))))))))))))))
    refine RELENK (fun z : Nat => [(2, .p 0 0)]) (fun z : Nat => [(58, [.slice a3 z c4]), (58, [.slice a3 z c4])]) (fun z : Nat => [curA (d) p, slA 99 (sl 114 pinL) (.slice a3 z c4) (m1.spoke.take m51.toNat)]) hln55 ?_
    refine FIN (.agg #[.slice a3 ((m1.spoke.take m51.toNat).length) c4]) (by kernel_rfl) ⟨((a3, c4), (⟨m1.spoke.take m51.toNat⟩ : Wheel)), ⟨by first | omega | (dsimp only; omega) | (simp; done) | (simp; omega), by dsimp only; first | omega | (refine Nat.le_trans (flat_set_le _ _ _) ?_; simp only [List.length_append, List.length_cons, List.length_nil]; omega) | (refine Nat.le_trans (flat_take_le _ _) ?_; omega) | (simp only [List.flatten_append, List.length_append, List.flatten_cons, List.flatten_nil, List.length_nil]; omega)⟩⟩ ?_ [1, 0] ?_
    · rfl
    · rfl
  ·
   have h43 := ne_of_beq_false bh43
   refine SEQ (RG (UU 2 [(34, B (m5 == 2))] (NI (m5 == 2) (fun bh56 => ?_) (fun bh56 => ?_))))
   ·
    have h56 := eq_of_beq bh56
    refine RG (UU 2 [(37, .v (.slice a3 m1.spoke.length c4))] (OPC (BUILDS 99 0 #[] 38 99 (by kernel_rfl) (NL rfl) 114 [] (by kernel_rfl) pinL [] rfl (by simp only [maxLen]; omega) [] [] _ rfl (flatRep rfl) (fun a57 ha58 => (OPC (BUILDS 56 1 #[(0, .tmp 38)] 39 56 (by kernel_rfl) (NL rfl) 99 [.slice a57 0 0] (by kernel_rfl) (sl 114 pinL) [[]] rfl (by simp only [maxLen]; omega) [2] [slA 114 pinL (.slice a57 0 0) ([])] _ rfl (oneRep (nestRep (e' := 0) (x := []))) (fun a59 ha60 => (OPC (APPENDO 56 (.tmp 37) (.tmp 39) 40 56 (by kernel_rfl) (NL rfl) (.slice a3 m1.spoke.length c4) a59 1 1 (by kernel_rfl) (by kernel_rfl) ha60 99 (by kernel_rfl) (sl 114 pinL) (.slice none 0 0) 24 (by kernel_rfl) rfl (by decide) 0 1 m1.spoke ([[]]) _ rfl rfl (by first | omega | (simp only [List.length_append, List.length_cons, List.length_nil, List.length_take, List.length_drop] at *; omega)) (by simp only [maxLen]; first | omega | (simp only [List.length_append, List.length_cons, List.length_nil, List.length_take, List.length_drop] at *; omega)) (fun a61 c62 hn63 => (UL 2 [] [(58, [.slice none 0 0]), (58, [.slice a61 ((m1.spoke ++ ([[]])).length) c62])] (ENDOPS (OUTN (NEXT (SEQ (RG (UL 2 [] [(58, [.slice a61 ((m1.spoke ++ ([[]])).length) c62]), (58, [.slice a61 ((m1.spoke ++ ([[]])).length) c62])] (ENDOPS (NEXT (RF rfl (.agg #[.slice a61 ((m1.spoke ++ ([[]])).length) c62]) ⟨((a61, c62), (⟨m1.spoke ++ ([[]])⟩ : Wheel)), ⟨by first | omega | (dsimp only; omega) | (simp; done) | (simp; omega), by dsimp only; first | omega | (refine Nat.le_trans (flat_set_le _ _ _) ?_; simp only [List.length_append, List.length_cons, List.length_nil]; omega) | (refine Nat.le_trans (flat_take_le _ _) ?_; omega) | (simp only [List.flatten_append, List.length_append, List.flatten_cons, List.flatten_nil, List.length_nil]; omega)⟩⟩ [1, 0] ?_ ?_))))))))))))))))))))
    · rfl
    · rfl
   ·
    have h56 := ne_of_beq_false bh56
    refine SKIP (OUTN (NEXT (SEQ (RG (UL 2 [] [(58, [.slice a3 m1.spoke.length c4]), (58, [.slice a3 m1.spoke.length c4])] (ENDOPS (NEXT (RF rfl (.agg #[.slice a3 m1.spoke.length c4]) ⟨((a3, c4), m1), ⟨by first | omega | (dsimp only; omega) | (simp; done) | (simp; omega), by dsimp only; first | omega | (refine Nat.le_trans (flat_set_le _ _ _) ?_; simp only [List.length_append, List.length_cons, List.length_nil]; omega) | (refine Nat.le_trans (flat_take_le _ _) ?_; omega) | (simp only [List.flatten_append, List.length_append, List.flatten_cons, List.flatten_nil, List.length_nil]; omega)⟩⟩ [0, 0] ?_ ?_))))))))
    · rfl
    · rfl

end SX
end Go.Proofs.YtcbpmjfjdjpalaaGreat
