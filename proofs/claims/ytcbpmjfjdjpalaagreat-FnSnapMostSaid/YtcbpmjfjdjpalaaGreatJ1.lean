/- Walks, printed by program. -/
import Derived.Test.YtcbpmjfjdjpalaaGreatI1
namespace Go.Proofs.YtcbpmjfjdjpalaaGreat
namespace SX
open Go Go.RowKit
set_option linter.unusedVariables false
set_option linter.unusedSimpArgs false
set_option maxRecDepth 10000
set_option maxHeartbeats 400000
theorem l1Max_c (W : World) (a : Int) (b : Int) : Spec Tryz.prog W [] 53 #[vi a, vi b] (RV (vi (if a > b then a else b))) := by
 refine ENTER0 (N := 10) (vs := [vi a, vi b]) Tryz.func53 rfl rfl (NL rfl) ?_
 refine SEQ (RG (UU 1 [] (ENDOPS (NEXT (SEQ (SEQ (RG (UU 3 [(7, B (decide (a > b)))] (NI (decide (a > b)) (fun bh1 => ?_) (fun bh1 => ?_))))))))))
 ·
  have h1 := of_decide_eq_true bh1
  refine SEQ (RG (UU 2 [(4, I a)] (ENDOPS (NEXT (RF rfl (vi a) () [] ?_ ?_)))))
  · simp [RV, *]
  · rfl
 ·
  have h1 := of_decide_eq_false bh1
  refine SKIP (NEXT (SEQ (RG (UU 2 [(4, I b)] (ENDOPS (NEXT (RF rfl (vi b) () [] ?_ ?_)))))))
  · simp [RV, *]
  · rfl

theorem sRulesOk_c (W : World) (r : Rules) (r_seats_a : Option Addr) (r_seats_c : Nat) (hr_seats : Rd intL W r_seats_a r.seats) : Spec Tryz.prog W [] 36 #[.agg #[.slice r_seats_a r.seats.length r_seats_c, vi r.tiers, vi r.room, vi r.size, vi r.period, vi r.window, vi r.rest, vi r.tries, vi r.crew]] (RV (.bool (rulesOk r))) := by
 refine ENTER0 (N := 65) (vs := [.agg #[.slice r_seats_a r.seats.length r_seats_c, vi r.tiers, vi r.room, vi r.size, vi r.period, vi r.window, vi r.rest, vi r.tries, vi r.crew]]) Tryz.func36 rfl rfl (NL rfl) ?_
 have hr_seats_len := hr_seats.len
 refine SEQ (RG (UL 2 [(1, .p 0 0)] [(26, [.slice r_seats_a r.seats.length r_seats_c, vi r.tiers, vi r.room, vi r.size, vi r.period, vi r.window, vi r.rest, vi r.tries, vi r.crew])] (ENDOPS (NEXT (SEQ (SEQ (RG (UU 3 [(6, I (r.seats.length : Int))] (OPC (CA 37 #[vi (r.seats.length : Int), vi 1, vi 4] (some 7) (RV (.bool (inB (r.seats.length : Int) 1 4))) (fun w hw => l1In_c w (r.seats.length : Int) 1 4) ?_))))))))))
 rintro ⟨⟩
 refine UU 2 [(9, B (!(inB (r.seats.length : Int) 1 4)))] (SP 9 (!(inB (r.seats.length : Int) 1 4)) (fun bh1 => ?_) (fun bh1 => ?_))
 ·
  have h1 := notT bh1
  refine UU 23 [(32, B true)] (ENDOPS (NEXT (IFT (by kernel_rfl) (SEQ (RG (UU 1 [(2, B false)] (ENDOPS (NEXT (RF rfl (.bool false) () [] ?_ ?_)))))))))
  · simp [RV, rulesOk, allSeats, *]
  · rfl
 ·
  have h1 := notF bh1
  refine UU 2 [(11, I r.tiers)] (OPC (CA 37 #[vi r.tiers, vi 1, vi 5] (some 12) (RV (.bool (inB r.tiers 1 5))) (fun w hw => l1In_c w r.tiers 1 5) ?_))
  rintro ⟨⟩
  refine UU 3 [(15, B (!(inB r.tiers 1 5)))] (SP 15 (!(inB r.tiers 1 5)) (fun bh2 => ?_) (fun bh2 => ?_))
  ·
   have h2 := notT bh2
   refine UU 17 [(32, B true)] (ENDOPS (NEXT (IFT (by kernel_rfl) (SEQ (RG (UU 1 [(2, B false)] (ENDOPS (NEXT (RF rfl (.bool false) () [] ?_ ?_)))))))))
   · simp [RV, rulesOk, allSeats, *]
   · rfl
  ·
   have h2 := notF bh2
   refine UU 2 [(17, I r.room)] (OPC (CA 37 #[vi r.room, vi 1, vi 10] (some 18) (RV (.bool (inB r.room 1 10))) (fun w hw => l1In_c w r.room 1 10) ?_))
   rintro ⟨⟩
   refine UU 3 [(21, B (!(inB r.room 1 10)))] (SP 21 (!(inB r.room 1 10)) (fun bh3 => ?_) (fun bh3 => ?_))
   ·
    have h3 := notT bh3
    refine UU 11 [(32, B true)] (ENDOPS (NEXT (IFT (by kernel_rfl) (SEQ (RG (UU 1 [(2, B false)] (ENDOPS (NEXT (RF rfl (.bool false) () [] ?_ ?_)))))))))
    · simp [RV, rulesOk, allSeats, *]
    · rfl
   ·
    have h3 := notF bh3
    refine UU 2 [(23, I r.size)] (OPC (CA 37 #[vi r.size, vi 1, vi 6] (some 24) (RV (.bool (inB r.size 1 6))) (fun w hw => l1In_c w r.size 1 6) ?_))
    rintro ⟨⟩
    refine UU 3 [(27, B (!(inB r.size 1 6)))] (SP 27 (!(inB r.size 1 6)) (fun bh4 => ?_) (fun bh4 => ?_))
    ·
     have h4 := notT bh4
     refine UU 5 [(32, B true)] (ENDOPS (NEXT (IFT (by kernel_rfl) (SEQ (RG (UU 1 [(2, B false)] (ENDOPS (NEXT (RF rfl (.bool false) () [] ?_ ?_)))))))))
     · simp [RV, rulesOk, allSeats, *]
     · rfl
    ·
     have h4 := notF bh4
     refine UU 2 [(29, I r.period)] (OPC (CA 37 #[vi r.period, vi 1, vi 12] (some 30) (RV (.bool (inB r.period 1 12))) (fun w hw => l1In_c w r.period 1 12) ?_))
     rintro ⟨⟩
     refine UU 2 [(32, B (!(inB r.period 1 12)))] (NI (!(inB r.period 1 12)) (fun bh5 => ?_) (fun bh5 => ?_))
     ·
      have h5 := notT bh5
      refine SEQ (RG (UU 1 [(2, B false)] (ENDOPS (NEXT (RF rfl (.bool false) () [] ?_ ?_)))))
      · simp [RV, rulesOk, allSeats, *]
      · rfl
     ·
      have h5 := notF bh5
      refine SKIP (NEXT (SEQ (SEQ (RG (UU 1 [(3, I 0)] (ENDOPS (NEXT (BLOCK (LOOP (ι := Nat × (List Int)) (fun j => [(1, .p 0 0), (3, I (j.1 : Int))]) (fun j => [(26, [.slice r_seats_a r.seats.length r_seats_c, vi r.tiers, vi r.room, vi r.size, vi r.period, vi r.window, vi r.rest, vi r.tries, vi r.crew])]) (fun j => []) (fun j => j.1 + j.2.length = r.seats.length ∧ r.seats.drop j.1 = j.2 ∧ allSeats r.seats = allSeats j.2) (fun j => j.2.length) (0, r.seats) [1, 3] ⟨by simp, rfl, rfl⟩ (by kernel_rfl) rfl rfl ?_)))))))))
      rintro ⟨k, ys⟩ ⟨hk, hd, hv0⟩
      try dsimp only at hk hd hv0
      refine SEQ (SEQ (RG (UU 5 [(37, B (decide ((k : Int) < (r.seats.length : Int))))] (NI (decide ((k : Int) < (r.seats.length : Int))) (fun bh6 => ?_) (fun bh6 => ?_)))))
      ·
       have h6 := of_decide_eq_true bh6
       obtain ⟨y7, ys8, rfl, hx_y7, hd_y7, hl_y7⟩ := drop_cons hd hk (by omega)
       refine SKIP (NEXT (SEQ (BLOCK (SEQ (RG (UU 3 [(41, .v (.slice r_seats_a r.seats.length r_seats_c)), (42, I (k : Int))] (OPC (IX 24 (.tmp 41) (.tmp 42) 43 0 r_seats_a r.seats.length r_seats_c .i64 (k : Int) 3 1 (Rd.some hr_seats (by omega)) (by omega) (by omega) (OPC (LE 3 (.tmp 43) 44 3 r_seats_a (k * 1) 0 ([vi y7]) (vi y7) (fun w hw => (hr_seats.fr hw.fr).flat hx_y7) (OPC (CA 37 #[vi y7, vi 1, vi 60] (some 45) (RV (.bool (inB y7 1 60))) (fun w hw => l1In_c w y7 1 60) ?_))))))))))))
       rintro ⟨⟩
       refine UU 1 [(46, B (!(inB y7 1 60)))] (NI (!(inB y7 1 60)) (fun bh9 => ?_) (fun bh9 => ?_))
       ·
        have h9 := notT bh9
        refine SEQ (RG (UU 1 [(2, B false)] (ENDOPS (NEXT (RF rfl (.bool false) () [] ?_ ?_)))))
        · simp [RV, rulesOk, allSeats, *]
        · rfl
       ·
        have h9 := notF bh9
        refine SKIP (OUTN (NEXT (RG (UU 2 [(39, I (wr ((k : Int) + 1)))] (CS 39 (vi (wr ((k : Int) + 1))) (vi ((k + 1 : Nat) : Int)) (vi_cast (by omega) (by omega)) (UU 1 [(3, I ((k + 1 : Nat) : Int))] (ENDOPS (BK (k + 1, ys8) [1, 3] 1 [] ⟨hl_y7, hd_y7, hv0.trans (by simp [allSeats, *])⟩ (by simp)))))))))
      ·
       have h6 := of_decide_eq_false bh6
       obtain rfl := drop_nil hk (by omega)
       refine EXIT (PASS trivial (PASS trivial (OUT (NEXT (SEQ (RG (UU 2 [(48, I r.window)] (OPC (CA 37 #[vi r.window, vi 1, vi 8] (some 49) (RV (.bool (inB r.window 1 8))) (fun w hw => l1In_c w r.window 1 8) ?_)))))))))
       rintro ⟨⟩
       refine UU 1 [(50, B (inB r.window 1 8))] (SP 50 (inB r.window 1 8) (fun bh10 => ?_) (fun bh10 => ?_))
       ·
        have h10 := bh10
        refine UU 2 [(52, I r.rest)] (OPC (CA 37 #[vi r.rest, vi 0, vi 8] (some 53) (RV (.bool (inB r.rest 0 8))) (fun w hw => l1In_c w r.rest 0 8) ?_))
        rintro ⟨⟩
        refine UU 2 [(55, B (inB r.rest 0 8))] (SP 55 (inB r.rest 0 8) (fun bh11 => ?_) (fun bh11 => ?_))
        ·
         have h11 := bh11
         refine UU 2 [(57, I r.tries)] (OPC (CA 37 #[vi r.tries, vi 1, vi 4] (some 58) (RV (.bool (inB r.tries 1 4))) (fun w hw => l1In_c w r.tries 1 4) ?_))
         rintro ⟨⟩
         refine UU 2 [(60, B (inB r.tries 1 4))] (SP 60 (inB r.tries 1 4) (fun bh12 => ?_) (fun bh12 => ?_))
         ·
          have h12 := bh12
          refine UU 2 [(62, I r.crew)] (OPC (CA 37 #[vi r.crew, vi 1, vi 3] (some 63) (RV (.bool (inB r.crew 1 3))) (fun w hw => l1In_c w r.crew 1 3) ?_))
          rintro ⟨⟩
          refine UU 2 [(2, B (inB r.crew 1 3))] (ENDOPS (NEXT (RF rfl (.bool (inB r.crew 1 3)) () [] ?_ ?_)))
          · simp [RV, rulesOk, allSeats, *]
          · rfl
         ·
          have h12 := bh12
          refine UU 5 [(2, B false)] (ENDOPS (NEXT (RF rfl (.bool false) () [] ?_ ?_)))
          · simp [RV, rulesOk, allSeats, *]
          · rfl
        ·
         have h11 := bh11
         refine UU 10 [(2, B false)] (ENDOPS (NEXT (RF rfl (.bool false) () [] ?_ ?_)))
         · simp [RV, rulesOk, allSeats, *]
         · rfl
       ·
        have h10 := bh10
        refine UU 15 [(2, B false)] (ENDOPS (NEXT (RF rfl (.bool false) () [] ?_ ?_)))
        · simp [RV, rulesOk, allSeats, *]
        · rfl

theorem sPartyOk_c (W : World) (r : Rules) (r_seats_a : Option Addr) (r_seats_c : Nat) (hr_seats : Rd intL W r_seats_a r.seats) (pa : Party) (now : Int) : Spec Tryz.prog W [] 75 #[.agg #[.slice r_seats_a r.seats.length r_seats_c, vi r.tiers, vi r.room, vi r.size, vi r.period, vi r.window, vi r.rest, vi r.tries, vi r.crew], .agg #[vi pa.id, vi pa.cabin, vi pa.from', vi pa.size, vi pa.tier, vi pa.since, vi pa.turn, vi pa.state, vi pa.until', vi pa.asked], vi now] (RV (.bool (partyOk r pa now))) := by
 refine ENTER0 (N := 111) (vs := [.agg #[.slice r_seats_a r.seats.length r_seats_c, vi r.tiers, vi r.room, vi r.size, vi r.period, vi r.window, vi r.rest, vi r.tries, vi r.crew], .agg #[vi pa.id, vi pa.cabin, vi pa.from', vi pa.size, vi pa.tier, vi pa.since, vi pa.turn, vi pa.state, vi pa.until', vi pa.asked], vi now]) Tryz.func75 rfl rfl (NL rfl) ?_
 have hr_seats_len := hr_seats.len
 refine SEQ (RG (UL 3 [(3, .p 0 0), (4, .p 1 0)] [(26, [.slice r_seats_a r.seats.length r_seats_c, vi r.tiers, vi r.room, vi r.size, vi r.period, vi r.window, vi r.rest, vi r.tries, vi r.crew]), (46, partyE pa)] (ENDOPS (NEXT (SEQ (SEQ (RG (UU 1 [(7, .v (.agg #[.slice r_seats_a r.seats.length r_seats_c, vi r.tiers, vi r.room, vi r.size, vi r.period, vi r.window, vi r.rest, vi r.tries, vi r.crew]))] (OPC (CA 36 #[.agg #[.slice r_seats_a r.seats.length r_seats_c, vi r.tiers, vi r.room, vi r.size, vi r.period, vi r.window, vi r.rest, vi r.tries, vi r.crew]] (some 8) (RV (.bool (rulesOk r))) (fun w hw => sRulesOk_c w r r_seats_a r_seats_c (hr_seats.fr hw.fr)) ?_))))))))))
 rintro ⟨⟩
 refine UU 2 [(10, B (!(rulesOk r)))] (SP 10 (!(rulesOk r)) (fun bh1 => ?_) (fun bh1 => ?_))
 ·
  have h1 := notT bh1
  refine UU 37 [(47, B true)] (ENDOPS (NEXT (IFT (by kernel_rfl) (SEQ (RG (UU 1 [(6, B false)] (ENDOPS (NEXT (RF rfl (.bool false) () [] ?_ ?_)))))))))
  · simp_all [RV, partyOk]
  · rfl
 ·
  have h1 := notF bh1
  refine UU 1 [(11, I now)] (OPC (CA 37 #[vi now, vi 0, vi 1000000] (some 12) (RV (.bool (inB now 0 1000000))) (fun w hw => l1In_c w now 0 1000000) ?_))
  rintro ⟨⟩
  refine UU 3 [(15, B (!(inB now 0 1000000)))] (SP 15 (!(inB now 0 1000000)) (fun bh2 => ?_) (fun bh2 => ?_))
  ·
   have h2 := notT bh2
   refine UU 32 [(47, B true)] (ENDOPS (NEXT (IFT (by kernel_rfl) (SEQ (RG (UU 1 [(6, B false)] (ENDOPS (NEXT (RF rfl (.bool false) () [] ?_ ?_)))))))))
   · simp_all [RV, partyOk]
   · rfl
  ·
   have h2 := notF bh2
   refine UU 2 [(17, I pa.id)] (OPC (CA 37 #[vi pa.id, vi 1, vi 999] (some 18) (RV (.bool (inB pa.id 1 999))) (fun w hw => l1In_c w pa.id 1 999) ?_))
   rintro ⟨⟩
   refine UU 3 [(21, B (!(inB pa.id 1 999)))] (SP 21 (!(inB pa.id 1 999)) (fun bh3 => ?_) (fun bh3 => ?_))
   ·
    have h3 := notT bh3
    refine UU 26 [(47, B true)] (ENDOPS (NEXT (IFT (by kernel_rfl) (SEQ (RG (UU 1 [(6, B false)] (ENDOPS (NEXT (RF rfl (.bool false) () [] ?_ ?_)))))))))
    · simp_all [RV, partyOk]
    · rfl
   ·
    have h3 := notF bh3
    refine UU 6 [(23, I pa.cabin), (27, I (wr ((r.seats.length : Int) - 1)))] (OPC (CA 37 #[vi pa.cabin, vi 0, vi (wr ((r.seats.length : Int) - 1))] (some 28) (RV (.bool (inB pa.cabin 0 (wr ((r.seats.length : Int) - 1))))) (fun w hw => l1In_c w pa.cabin 0 (wr ((r.seats.length : Int) - 1))) ?_))
    rintro ⟨⟩
    refine UU 3 [(31, B (!(inB pa.cabin 0 (wr ((r.seats.length : Int) - 1)))))] (SP 31 (!(inB pa.cabin 0 (wr ((r.seats.length : Int) - 1)))) (fun bh4 => ?_) (fun bh4 => ?_))
    ·
     have h4 := notT bh4
     refine UU 16 [(47, B true)] (ENDOPS (NEXT (IFT (by kernel_rfl) (SEQ (RG (UU 1 [(6, B false)] (ENDOPS (NEXT (RF rfl (.bool false) () [] ?_ ?_)))))))))
     · simp_all [RV, partyOk]
     · rfl
    ·
     have h4 := notF bh4
     refine UU 6 [(33, I pa.from'), (37, I (wr ((r.seats.length : Int) - 1)))] (OPC (CA 37 #[vi pa.from', vi (-1), vi (wr ((r.seats.length : Int) - 1))] (some 38) (RV (.bool (inB pa.from' (-1) (wr ((r.seats.length : Int) - 1))))) (fun w hw => l1In_c w pa.from' (-1) (wr ((r.seats.length : Int) - 1))) ?_))
     rintro ⟨⟩
     refine UU 3 [(41, B (!(inB pa.from' (-1) (wr ((r.seats.length : Int) - 1)))))] (SP 41 (!(inB pa.from' (-1) (wr ((r.seats.length : Int) - 1)))) (fun bh5 => ?_) (fun bh5 => ?_))
     ·
      have h5 := notT bh5
      refine UU 6 [(47, B true)] (ENDOPS (NEXT (IFT (by kernel_rfl) (SEQ (RG (UU 1 [(6, B false)] (ENDOPS (NEXT (RF rfl (.bool false) () [] ?_ ?_)))))))))
      · simp_all [RV, partyOk]
      · rfl
     ·
      have h5 := notF bh5
      refine UU 6 [(47, B (pa.from' == pa.cabin))] (NI (pa.from' == pa.cabin) (fun bh6 => ?_) (fun bh6 => ?_))
      ·
       have h6 := eq_of_beq bh6
       refine SEQ (RG (UU 1 [(6, B false)] (ENDOPS (NEXT (RF rfl (.bool false) () [] ?_ ?_)))))
       · simp_all [RV, partyOk]
       · rfl
      ·
       have h6 := ne_of_beq_false bh6
       refine SKIP (NEXT (SEQ (SEQ (RG (UU 4 [(49, I pa.size), (51, I r.size)] (OPC (CA 37 #[vi pa.size, vi 1, vi r.size] (some 52) (RV (.bool (inB pa.size 1 r.size))) (fun w hw => l1In_c w pa.size 1 r.size) ?_)))))))
       rintro ⟨⟩
       refine UU 2 [(54, B (!(inB pa.size 1 r.size)))] (SP 54 (!(inB pa.size 1 r.size)) (fun bh7 => ?_) (fun bh7 => ?_))
       ·
        have h7 := notT bh7
        refine UU 30 [(84, B true)] (ENDOPS (NEXT (IFT (by kernel_rfl) (SEQ (RG (UU 1 [(6, B false)] (ENDOPS (NEXT (RF rfl (.bool false) () [] ?_ ?_)))))))))
        · simp_all [RV, partyOk]
        · rfl
       ·
        have h7 := notF bh7
        refine UU 5 [(56, I pa.tier), (59, I (wr (r.tiers - 1)))] (OPC (CA 37 #[vi pa.tier, vi 0, vi (wr (r.tiers - 1))] (some 60) (RV (.bool (inB pa.tier 0 (wr (r.tiers - 1))))) (fun w hw => l1In_c w pa.tier 0 (wr (r.tiers - 1))) ?_))
        rintro ⟨⟩
        refine UU 3 [(63, B (!(inB pa.tier 0 (wr (r.tiers - 1)))))] (SP 63 (!(inB pa.tier 0 (wr (r.tiers - 1)))) (fun bh8 => ?_) (fun bh8 => ?_))
        ·
         have h8 := notT bh8
         refine UU 21 [(84, B true)] (ENDOPS (NEXT (IFT (by kernel_rfl) (SEQ (RG (UU 1 [(6, B false)] (ENDOPS (NEXT (RF rfl (.bool false) () [] ?_ ?_)))))))))
         · simp_all [RV, partyOk]
         · rfl
        ·
         have h8 := notF bh8
         refine UU 3 [(65, I pa.since), (66, I now)] (OPC (CA 37 #[vi pa.since, vi 0, vi now] (some 67) (RV (.bool (inB pa.since 0 now))) (fun w hw => l1In_c w pa.since 0 now) ?_))
         rintro ⟨⟩
         refine UU 3 [(70, B (!(inB pa.since 0 now)))] (SP 70 (!(inB pa.since 0 now)) (fun bh9 => ?_) (fun bh9 => ?_))
         ·
          have h9 := notT bh9
          refine UU 14 [(84, B true)] (ENDOPS (NEXT (IFT (by kernel_rfl) (SEQ (RG (UU 1 [(6, B false)] (ENDOPS (NEXT (RF rfl (.bool false) () [] ?_ ?_)))))))))
          · simp_all [RV, partyOk]
          · rfl
         ·
          have h9 := notF bh9
          refine UU 2 [(72, I pa.turn)] (OPC (CA 37 #[vi pa.turn, vi 1, vi 1000000] (some 73) (RV (.bool (inB pa.turn 1 1000000))) (fun w hw => l1In_c w pa.turn 1 1000000) ?_))
          rintro ⟨⟩
          refine UU 3 [(76, B (!(inB pa.turn 1 1000000)))] (SP 76 (!(inB pa.turn 1 1000000)) (fun bh10 => ?_) (fun bh10 => ?_))
          ·
           have h10 := notT bh10
           refine UU 8 [(84, B true)] (ENDOPS (NEXT (IFT (by kernel_rfl) (SEQ (RG (UU 1 [(6, B false)] (ENDOPS (NEXT (RF rfl (.bool false) () [] ?_ ?_)))))))))
           · simp_all [RV, partyOk]
           · rfl
          ·
           have h10 := notF bh10
           refine UU 5 [(78, I pa.asked), (81, I (wr (r.tries - 1)))] (OPC (CA 37 #[vi pa.asked, vi 0, vi (wr (r.tries - 1))] (some 82) (RV (.bool (inB pa.asked 0 (wr (r.tries - 1))))) (fun w hw => l1In_c w pa.asked 0 (wr (r.tries - 1))) ?_))
           rintro ⟨⟩
           refine UU 2 [(84, B (!(inB pa.asked 0 (wr (r.tries - 1)))))] (NI (!(inB pa.asked 0 (wr (r.tries - 1)))) (fun bh11 => ?_) (fun bh11 => ?_))
           ·
            have h11 := notT bh11
            refine SEQ (RG (UU 1 [(6, B false)] (ENDOPS (NEXT (RF rfl (.bool false) () [] ?_ ?_)))))
            · simp_all [RV, partyOk]
            · rfl
           ·
            have h11 := notF bh11
            refine SKIP (NEXT (SEQ (RG (UU 4 [(88, B (pa.state == 1))] (SP 88 (pa.state == 1) (fun bh12 => ?_) (fun bh12 => ?_))))))
            ·
             have h12 := eq_of_beq bh12
             refine UU 6 [(90, I pa.until'), (94, I (wr (now + r.rest)))] (OPC (CA 37 #[vi pa.until', vi 0, vi (wr (now + r.rest))] (some 95) (RV (.bool (inB pa.until' 0 (wr (now + r.rest))))) (fun w hw => l1In_c w pa.until' 0 (wr (now + r.rest))) ?_))
             rintro ⟨⟩
             refine UU 2 [(97, B (inB pa.until' 0 (wr (now + r.rest))))] (SP 97 (inB pa.until' 0 (wr (now + r.rest))) (fun bh13 => ?_) (fun bh13 => ?_))
             ·
              have h13 := bh13
              refine UU 14 [(6, B true)] (ENDOPS (NEXT (RF rfl (.bool true) () [] ?_ ?_)))
              · simp_all [RV, partyOk]
              · rfl
             ·
              have h13 := bh13
              refine UU 4 [(101, B (pa.state == 2))] (SP 101 (pa.state == 2) (fun bh14 => ?_) (fun bh14 => ?_))
              · have bh14 := eq_of_beq bh14; exfalso; omega
              ·
               have h14 := ne_of_beq_false bh14
               refine UU 10 [(6, B false)] (ENDOPS (NEXT (RF rfl (.bool false) () [] ?_ ?_)))
               · simp_all [RV, partyOk]
               · rfl
            ·
             have h12 := ne_of_beq_false bh12
             refine UU 13 [(97, B false), (101, B (pa.state == 2))] (SP 101 (pa.state == 2) (fun bh15 => ?_) (fun bh15 => ?_))
             ·
              have h15 := eq_of_beq bh15
              refine UU 6 [(103, I pa.until'), (107, I (wr (now + r.window)))] (OPC (CA 37 #[vi pa.until', vi 1, vi (wr (now + r.window))] (some 108) (RV (.bool (inB pa.until' 1 (wr (now + r.window))))) (fun w hw => l1In_c w pa.until' 1 (wr (now + r.window))) ?_))
              rintro ⟨⟩
              refine UU 3 [(6, B (inB pa.until' 1 (wr (now + r.window))))] (ENDOPS (NEXT (RF rfl (.bool (inB pa.until' 1 (wr (now + r.window)))) () [] ?_ ?_)))
              · simp_all [RV, partyOk]
              · rfl
             ·
              have h15 := ne_of_beq_false bh15
              refine UU 10 [(6, B false)] (ENDOPS (NEXT (RF rfl (.bool false) () [] ?_ ?_)))
              · simp_all [RV, partyOk]
              · rfl

theorem l5Level_c (W : World) (r : Rules) (r_seats_a : Option Addr) (r_seats_c : Nat) (hr_seats : Rd intL W r_seats_a r.seats) (tier : Int) (waited : Int) (hper : 1 ≤ r.period) : Spec Tryz.prog W [] 94 #[.agg #[.slice r_seats_a r.seats.length r_seats_c, vi r.tiers, vi r.room, vi r.size, vi r.period, vi r.window, vi r.rest, vi r.tries, vi r.crew], vi tier, vi waited] (RV (vi (levelAt r tier waited))) := by
 refine ENTER0 (N := 14) (vs := [.agg #[.slice r_seats_a r.seats.length r_seats_c, vi r.tiers, vi r.room, vi r.size, vi r.period, vi r.window, vi r.rest, vi r.tries, vi r.crew], vi tier, vi waited]) Tryz.func94 rfl rfl (NL rfl) ?_
 have hr_seats_len := hr_seats.len
 refine SEQ (RG (UL 2 [(3, .p 0 0)] [(26, [.slice r_seats_a r.seats.length r_seats_c, vi r.tiers, vi r.room, vi r.size, vi r.period, vi r.window, vi r.rest, vi r.tries, vi r.crew])] (NR (UU 4 [(7, I tier), (8, I waited), (10, I r.period)] (OPC (RUNV (.binOp .quo 3 (.tmp 8) (.tmp 10) 3) 11 3 (by kernel_rfl) (NL rfl) (vi (wr (Int.tdiv waited r.period))) (runs_quo (a := waited) (b := r.period) (by kernel_rfl) (by kernel_rfl) (by omega)) (UU 1 [(12, I (wr (tier - (wr (Int.tdiv waited r.period)))))] (OPC (CA 53 #[vi 0, vi (wr (tier - (wr (Int.tdiv waited r.period))))] (some 13) (RV (vi (if 0 > (wr (tier - (wr (Int.tdiv waited r.period)))) then 0 else (wr (tier - (wr (Int.tdiv waited r.period))))))) (fun w hw => l1Max_c w 0 (wr (tier - (wr (Int.tdiv waited r.period))))) ?_)))))))))
 rintro ⟨⟩
 refine UU 1 [(6, I (if 0 > (wr (tier - (wr (Int.tdiv waited r.period)))) then 0 else (wr (tier - (wr (Int.tdiv waited r.period))))))] (ENDOPS (NEXT (RF rfl (vi (if 0 > (wr (tier - (wr (Int.tdiv waited r.period)))) then 0 else (wr (tier - (wr (Int.tdiv waited r.period)))))) () [] ?_ ?_)))
 · simp [RV, levelAt]
 · rfl

theorem sLevelOf_c (W : World) (r : Rules) (r_seats_a : Option Addr) (r_seats_c : Nat) (hr_seats : Rd intL W r_seats_a r.seats) (pa : Party) (now : Int) : Spec Tryz.prog W [] 61 #[.agg #[.slice r_seats_a r.seats.length r_seats_c, vi r.tiers, vi r.room, vi r.size, vi r.period, vi r.window, vi r.rest, vi r.tries, vi r.crew], .agg #[vi pa.id, vi pa.cabin, vi pa.from', vi pa.size, vi pa.tier, vi pa.since, vi pa.turn, vi pa.state, vi pa.until', vi pa.asked], vi now] (RV (vi (levelOf r pa now))) := by
 refine ENTER0 (N := 20) (vs := [.agg #[.slice r_seats_a r.seats.length r_seats_c, vi r.tiers, vi r.room, vi r.size, vi r.period, vi r.window, vi r.rest, vi r.tries, vi r.crew], .agg #[vi pa.id, vi pa.cabin, vi pa.from', vi pa.size, vi pa.tier, vi pa.since, vi pa.turn, vi pa.state, vi pa.until', vi pa.asked], vi now]) Tryz.func61 rfl rfl (NL rfl) ?_
 have hr_seats_len := hr_seats.len
 refine SEQ (RG (UL 3 [(3, .p 0 0), (4, .p 1 0)] [(26, [.slice r_seats_a r.seats.length r_seats_c, vi r.tiers, vi r.room, vi r.size, vi r.period, vi r.window, vi r.rest, vi r.tries, vi r.crew]), (46, partyE pa)] (ENDOPS (NEXT (SEQ (SEQ (RG (UU 3 [(7, .v (.agg #[.slice r_seats_a r.seats.length r_seats_c, vi r.tiers, vi r.room, vi r.size, vi r.period, vi r.window, vi r.rest, vi r.tries, vi r.crew])), (8, .v (.agg (partyE pa).toArray)), (9, I now)] (OPC (CA 75 #[.agg #[.slice r_seats_a r.seats.length r_seats_c, vi r.tiers, vi r.room, vi r.size, vi r.period, vi r.window, vi r.rest, vi r.tries, vi r.crew], .agg #[vi pa.id, vi pa.cabin, vi pa.from', vi pa.size, vi pa.tier, vi pa.since, vi pa.turn, vi pa.state, vi pa.until', vi pa.asked], vi now] (some 10) (RV (.bool (partyOk r pa now))) (fun w hw => sPartyOk_c w r r_seats_a r_seats_c (hr_seats.fr hw.fr) pa now) ?_))))))))))
 rintro ⟨⟩
 refine UU 1 [(11, B (!(partyOk r pa now)))] (NI (!(partyOk r pa now)) (fun bh1 => ?_) (fun bh1 => ?_))
 ·
  have h1 := notT bh1
  refine SEQ (RG (UU 1 [(6, I (-1))] (ENDOPS (NEXT (RF rfl (vi (-1)) () [] ?_ ?_)))))
  · simp_all [RV, levelOf]
  · rfl
 ·
  have h1 := notF bh1
  refine SKIP (NEXT (SEQ (RG (UU 7 [(12, .v (.agg #[.slice r_seats_a r.seats.length r_seats_c, vi r.tiers, vi r.room, vi r.size, vi r.period, vi r.window, vi r.rest, vi r.tries, vi r.crew])), (14, I pa.tier), (18, I (wr (now - pa.since)))] (OPC (CA 94 #[.agg #[.slice r_seats_a r.seats.length r_seats_c, vi r.tiers, vi r.room, vi r.size, vi r.period, vi r.window, vi r.rest, vi r.tries, vi r.crew], vi pa.tier, vi (wr (now - pa.since))] (some 19) (RV (vi (levelAt r pa.tier (wr (now - pa.since))))) (fun w hw => l5Level_c w r r_seats_a r_seats_c (hr_seats.fr hw.fr) pa.tier (wr (now - pa.since)) (by first | assumption | omega | exact per_pos (by assumption))) ?_))))))
  rintro ⟨⟩
  refine UU 1 [(6, I (levelAt r pa.tier (wr (now - pa.since))))] (ENDOPS (NEXT (RF rfl (vi (levelAt r pa.tier (wr (now - pa.since)))) () [] ?_ ?_)))
  · simp_all [RV, levelOf]
  · rfl

theorem sEntryOf_c (W : World) (r : Rules) (r_seats_a : Option Addr) (r_seats_c : Nat) (hr_seats : Rd intL W r_seats_a r.seats) (pa : Party) (now : Int) : Spec Tryz.prog W [] 107 #[.agg #[.slice r_seats_a r.seats.length r_seats_c, vi r.tiers, vi r.room, vi r.size, vi r.period, vi r.window, vi r.rest, vi r.tries, vi r.crew], .agg #[vi pa.id, vi pa.cabin, vi pa.from', vi pa.size, vi pa.tier, vi pa.since, vi pa.turn, vi pa.state, vi pa.until', vi pa.asked], vi now] (RV (.tuple #[.agg #[vi ((entryOf r pa now).level), vi ((entryOf r pa now).turn), vi ((entryOf r pa now).id), vi ((entryOf r pa now).size)], .bool (entryOk r pa now)])) := by
 refine ENTER0 (N := 29) (vs := [.agg #[.slice r_seats_a r.seats.length r_seats_c, vi r.tiers, vi r.room, vi r.size, vi r.period, vi r.window, vi r.rest, vi r.tries, vi r.crew], .agg #[vi pa.id, vi pa.cabin, vi pa.from', vi pa.size, vi pa.tier, vi pa.since, vi pa.turn, vi pa.state, vi pa.until', vi pa.asked], vi now]) Tryz.func107 rfl rfl (NL rfl) ?_
 have hr_seats_len := hr_seats.len
 refine SEQ (RG (UL 4 [(3, .p 0 0), (4, .p 1 0), (6, .p 2 0)] [(26, [.slice r_seats_a r.seats.length r_seats_c, vi r.tiers, vi r.room, vi r.size, vi r.period, vi r.window, vi r.rest, vi r.tries, vi r.crew]), (46, partyE pa), (63, [vi 0, vi 0, vi 0, vi 0])] (NR (UU 3 [(9, .v (.agg #[.slice r_seats_a r.seats.length r_seats_c, vi r.tiers, vi r.room, vi r.size, vi r.period, vi r.window, vi r.rest, vi r.tries, vi r.crew])), (10, .v (.agg (partyE pa).toArray)), (11, I now)] (OPC (CA 61 #[.agg #[.slice r_seats_a r.seats.length r_seats_c, vi r.tiers, vi r.room, vi r.size, vi r.period, vi r.window, vi r.rest, vi r.tries, vi r.crew], .agg #[vi pa.id, vi pa.cabin, vi pa.from', vi pa.size, vi pa.tier, vi pa.since, vi pa.turn, vi pa.state, vi pa.until', vi pa.asked], vi now] (some 12) (RV (vi (levelOf r pa now))) (fun w hw => sLevelOf_c w r r_seats_a r_seats_c (hr_seats.fr hw.fr) pa now) ?_))))))
 rintro ⟨⟩
 refine UU 1 [(8, I (levelOf r pa now))] (ENDOPS (NEXT (SEQ (SEQ (RG (UU 3 [(15, B (decide ((levelOf r pa now) < 0)))] (SP 15 (decide ((levelOf r pa now) < 0)) (fun bh1 => ?_) (fun bh1 => ?_))))))))
 ·
  have h1 := of_decide_eq_true bh1
  refine UU 4 [(19, B true)] (ENDOPS (NEXT (IFT (by kernel_rfl) (SEQ (RG (UU 3 [(7, B false)] (ENDOPS (NEXT (RF rfl (.tuple #[.agg #[vi 0, vi 0, vi 0, vi 0], .bool false]) () [] ?_ ?_)))))))))
  · simp_all [RV, entryOf, entryOk]
  · rfl
 ·
  have h1 := of_decide_eq_false bh1
  refine UU 4 [(19, B (pa.state != 1))] (NI (pa.state != 1) (fun bh2 => ?_) (fun bh2 => ?_))
  ·
   have h2 := bne_iff_ne.1 bh2
   refine SEQ (RG (UU 3 [(7, B false)] (ENDOPS (NEXT (RF rfl (.tuple #[.agg #[vi 0, vi 0, vi 0, vi 0], .bool false]) () [] ?_ ?_)))))
   · simp_all [RV, entryOf, entryOk]
   · rfl
  ·
   have h2 := bneF bh2
   refine SKIP (NEXT (SEQ (RG (UL 10 [(7, B true)] [(26, [.slice r_seats_a r.seats.length r_seats_c, vi r.tiers, vi r.room, vi r.size, vi r.period, vi r.window, vi r.rest, vi r.tries, vi r.crew]), (46, partyE pa), (63, [vi (levelOf r pa now), vi pa.turn, vi pa.id, vi pa.size])] (ENDOPS (NEXT (RF rfl (.tuple #[.agg #[vi (levelOf r pa now), vi pa.turn, vi pa.id, vi pa.size], .bool true]) () [] ?_ ?_)))))))
   · simp_all [RV, entryOf, entryOk]
   · rfl

theorem sLedgerOk_c (W : World) (l : Ledger) : Spec Tryz.prog W [] 104 #[.agg #[vi l.total, vi l.free, vi l.held, vi l.sold, vi l.tied]] (RV (.bool (ledgerOk l))) := by
 refine ENTER0 (N := 47) (vs := [.agg #[vi l.total, vi l.free, vi l.held, vi l.sold, vi l.tied]]) Tryz.func104 rfl rfl (NL rfl) ?_
 refine SEQ (RG (UL 2 [(1, .p 0 0)] [(54, ledgerE l)] (NR (UU 2 [(4, I l.total)] (OPC (CA 37 #[vi l.total, vi 1, vi 60] (some 5) (RV (.bool (inB l.total 1 60))) (fun w hw => l1In_c w l.total 1 60) ?_))))))
 rintro ⟨⟩
 refine UU 1 [(6, B (inB l.total 1 60))] (SP 6 (inB l.total 1 60) (fun bh1 => ?_) (fun bh1 => ?_))
 ·
  have h1 := bh1
  refine UU 4 [(8, I l.free), (10, I l.total)] (OPC (CA 37 #[vi l.free, vi 0, vi l.total] (some 11) (RV (.bool (inB l.free 0 l.total))) (fun w hw => l1In_c w l.free 0 l.total) ?_))
  rintro ⟨⟩
  refine UU 2 [(13, B (inB l.free 0 l.total))] (SP 13 (inB l.free 0 l.total) (fun bh2 => ?_) (fun bh2 => ?_))
  ·
   have h2 := bh2
   refine UU 4 [(15, I l.held), (17, I l.total)] (OPC (CA 37 #[vi l.held, vi 0, vi l.total] (some 18) (RV (.bool (inB l.held 0 l.total))) (fun w hw => l1In_c w l.held 0 l.total) ?_))
   rintro ⟨⟩
   refine UU 2 [(20, B (inB l.held 0 l.total))] (SP 20 (inB l.held 0 l.total) (fun bh3 => ?_) (fun bh3 => ?_))
   ·
    have h3 := bh3
    refine UU 4 [(22, I l.sold), (24, I l.total)] (OPC (CA 37 #[vi l.sold, vi 0, vi l.total] (some 25) (RV (.bool (inB l.sold 0 l.total))) (fun w hw => l1In_c w l.sold 0 l.total) ?_))
    rintro ⟨⟩
    refine UU 2 [(27, B (inB l.sold 0 l.total))] (SP 27 (inB l.sold 0 l.total) (fun bh4 => ?_) (fun bh4 => ?_))
    ·
     have h4 := bh4
     refine UU 13 [(40, B ((wr ((wr (l.free + l.held)) + l.sold)) == l.total))] (SP 40 ((wr ((wr (l.free + l.held)) + l.sold)) == l.total) (fun bh5 => ?_) (fun bh5 => ?_))
     ·
      have h5 := eq_of_beq bh5
      refine UU 4 [(42, I l.tied), (44, I l.sold)] (OPC (CA 37 #[vi l.tied, vi 0, vi l.sold] (some 45) (RV (.bool (inB l.tied 0 l.sold))) (fun w hw => l1In_c w l.tied 0 l.sold) ?_))
      rintro ⟨⟩
      refine UU 2 [(2, B (inB l.tied 0 l.sold))] (ENDOPS (NEXT (RF rfl (.bool (inB l.tied 0 l.sold)) () [] ?_ ?_)))
      · simp_all [RV, ledgerOk]
      · rfl
     ·
      have h5 := ne_of_beq_false bh5
      refine UU 7 [(2, B false)] (ENDOPS (NEXT (RF rfl (.bool false) () [] ?_ ?_)))
      · simp_all [RV, ledgerOk]
      · rfl
    ·
     have h4 := bh4
     refine UU 20 [(2, B false)] (ENDOPS (NEXT (RF rfl (.bool false) () [] ?_ ?_)))
     · simp_all [RV, ledgerOk]
     · rfl
   ·
    have h3 := bh3
    refine UU 27 [(2, B false)] (ENDOPS (NEXT (RF rfl (.bool false) () [] ?_ ?_)))
    · simp_all [RV, ledgerOk]
    · rfl
  ·
   have h2 := bh2
   refine UU 34 [(2, B false)] (ENDOPS (NEXT (RF rfl (.bool false) () [] ?_ ?_)))
   · simp_all [RV, ledgerOk]
   · rfl
 ·
  have h1 := bh1
  refine UU 41 [(2, B false)] (ENDOPS (NEXT (RF rfl (.bool false) () [] ?_ ?_)))
  · simp_all [RV, ledgerOk]
  · rfl

theorem sCountIn_c (W : World) (list : List Party) (list_a : Option Addr) (list_c : Nat) (hlist : Rd partyL W list_a list) (cabin : Int) : Spec Tryz.prog W [] 41 #[.slice list_a list.length list_c, vi cabin] (RV (vi (countGo list cabin 0))) := by
 refine ENTER0 (N := 23) (vs := [.slice list_a list.length list_c, vi cabin]) Tryz.func41 rfl rfl (NL rfl) ?_
 have hlist_len := hlist.len
 refine SEQ (RG (UU 1 [] (NR (UU 1 [(5, I 0)] (ENDOPS (NEXT (SEQ (SEQ (RG (UU 1 [(6, I 0)] (ENDOPS (NEXT (BLOCK (LOOP (ι := Nat × (List Party) × Int) (fun j => [(0, .v (.slice list_a list.length list_c)), (1, I cabin), (5, I j.2.2), (6, I (j.1 : Int))]) (fun j => []) (fun j => []) (fun j => j.1 + j.2.1.length = list.length ∧ list.drop j.1 = j.2.1 ∧ countGo list cabin 0 = countGo j.2.1 cabin j.2.2) (fun j => j.2.1.length) (0, list, 0) [0, 1, 5, 6] ⟨by simp, rfl, rfl⟩ (by kernel_rfl) rfl rfl ?_))))))))))))))
 rintro ⟨k, ys, n⟩ ⟨hk, hd, hv0⟩
 try dsimp only at hk hd hv0
 refine SEQ (SEQ (RG (UU 4 [(10, B (decide ((k : Int) < (list.length : Int))))] (NI (decide ((k : Int) < (list.length : Int))) (fun bh1 => ?_) (fun bh1 => ?_)))))
 ·
  have h1 := of_decide_eq_true bh1
  obtain ⟨y2, ys3, rfl, hx_y2, hd_y2, hl_y2⟩ := drop_cons hd hk (by omega)
  refine SKIP (NEXT (SEQ (BLOCK (SEQ (RG (UU 2 [(13, .v (.slice list_a list.length list_c)), (14, I (k : Int))] (OPC (IX 27 (.tmp 13) (.tmp 14) 15 0 list_a list.length list_c .i64 (k : Int) 46 10 (Rd.some hlist (by omega)) (by omega) (by omega) (UU 1 [(16, .e list_a (k * 10) 1)] (OPC (LE 3 (.tmp 16) 17 3 list_a (k * 10) 1 (partyE y2) (vi y2.cabin) (fun w hw => (hlist.fr hw.fr).flat hx_y2) (UU 2 [(19, B (y2.cabin == cabin))] (NI (y2.cabin == cabin) (fun bh4 => ?_) (fun bh4 => ?_))))))))))))))
  ·
   have h4 := eq_of_beq bh4
   refine RG (UU 3 [(5, I (wr (n + 1)))] (ENDOPS (OUTN (NEXT (RG (UU 2 [(12, I (wr ((k : Int) + 1)))] (CS 12 (vi (wr ((k : Int) + 1))) (vi ((k + 1 : Nat) : Int)) (vi_cast (by omega) (by omega)) (UU 1 [(6, I ((k + 1 : Nat) : Int))] (ENDOPS (BK (k + 1, ys3, wr (n + 1)) [0, 1, 5, 6] 0 [] ⟨hl_y2, hd_y2, (hv0.trans (by simp_all [countGo]))⟩ (by simp)))))))))))
  ·
   have h4 := ne_of_beq_false bh4
   refine SKIP (OUTN (NEXT (RG (UU 2 [(12, I (wr ((k : Int) + 1)))] (CS 12 (vi (wr ((k : Int) + 1))) (vi ((k + 1 : Nat) : Int)) (vi_cast (by omega) (by omega)) (UU 1 [(6, I ((k + 1 : Nat) : Int))] (ENDOPS (BK (k + 1, ys3, n) [0, 1, 5, 6] 0 [] ⟨hl_y2, hd_y2, (hv0.trans (by simp_all [countGo]))⟩ (by simp)))))))))
 ·
  have h1 := of_decide_eq_false bh1
  obtain rfl := drop_nil hk (by omega)
  refine EXIT (PASS trivial (PASS trivial (OUT (NEXT (SEQ (RG (UU 2 [(4, I n)] (ENDOPS (NEXT (RF rfl (vi n) () [] ?_ ?_))))))))))
  · simp_all [RV, countGo]
  · rfl

theorem sHeldIn_c (W : World) (list : List Party) (list_a : Option Addr) (list_c : Nat) (hlist : Rd partyL W list_a list) (cabin : Int) : Spec Tryz.prog W [] 83 #[.slice list_a list.length list_c, vi cabin] (RV (vi (heldGo list cabin 0))) := by
 refine ENTER0 (N := 44) (vs := [.slice list_a list.length list_c, vi cabin]) Tryz.func83 rfl rfl (NL rfl) ?_
 have hlist_len := hlist.len
 refine SEQ (RG (UU 1 [] (NR (UU 1 [(5, I 0)] (ENDOPS (NEXT (SEQ (SEQ (RG (UU 1 [(6, I 0)] (ENDOPS (NEXT (BLOCK (LOOP (ι := Nat × (List Party) × Int) (fun j => [(0, .v (.slice list_a list.length list_c)), (1, I cabin), (5, I j.2.2), (6, I (j.1 : Int))]) (fun j => []) (fun j => []) (fun j => j.1 + j.2.1.length = list.length ∧ list.drop j.1 = j.2.1 ∧ heldGo list cabin 0 = heldGo j.2.1 cabin j.2.2) (fun j => j.2.1.length) (0, list, 0) [0, 1, 5, 6] ⟨by simp, rfl, rfl⟩ (by kernel_rfl) rfl rfl ?_))))))))))))))
 rintro ⟨k, ys, n⟩ ⟨hk, hd, hv0⟩
 try dsimp only at hk hd hv0
 refine SEQ (SEQ (RG (UU 4 [(10, B (decide ((k : Int) < (list.length : Int))))] (NI (decide ((k : Int) < (list.length : Int))) (fun bh1 => ?_) (fun bh1 => ?_)))))
 ·
  have h1 := of_decide_eq_true bh1
  obtain ⟨y2, ys3, rfl, hx_y2, hd_y2, hl_y2⟩ := drop_cons hd hk (by omega)
  refine SKIP (NEXT (SEQ (BLOCK (SEQ (RG (UU 2 [(13, .v (.slice list_a list.length list_c)), (14, I (k : Int))] (OPC (IX 27 (.tmp 13) (.tmp 14) 15 0 list_a list.length list_c .i64 (k : Int) 46 10 (Rd.some hlist (by omega)) (by omega) (by omega) (UU 1 [(16, .e list_a (k * 10) 7)] (OPC (LE 3 (.tmp 16) 17 3 list_a (k * 10) 7 (partyE y2) (vi y2.state) (fun w hw => (hlist.fr hw.fr).flat hx_y2) (UU 2 [(19, B (y2.state == 2))] (SP 19 (y2.state == 2) (fun bh4 => ?_) (fun bh4 => ?_))))))))))))))
  ·
   have h4 := eq_of_beq bh4
   refine UU 2 [(20, .v (.slice list_a list.length list_c)), (21, I (k : Int))] (OPC (IX 27 (.tmp 20) (.tmp 21) 22 0 list_a list.length list_c .i64 (k : Int) 46 10 (Rd.some hlist (by omega)) (by omega) (by omega) (UU 1 [(23, .e list_a (k * 10) 1)] (OPC (LE 3 (.tmp 23) 24 3 list_a (k * 10) 1 (partyE y2) (vi y2.cabin) (fun w hw => (hlist.fr hw.fr).flat hx_y2) (UU 4 [(28, B (y2.cabin == cabin))] (SP 28 (y2.cabin == cabin) (fun bh5 => ?_) (fun bh5 => ?_))))))))
   ·
    have h5 := eq_of_beq bh5
    refine UU 2 [(29, .v (.slice list_a list.length list_c)), (30, I (k : Int))] (OPC (IX 27 (.tmp 29) (.tmp 30) 31 0 list_a list.length list_c .i64 (k : Int) 46 10 (Rd.some hlist (by omega)) (by omega) (by omega) (UU 1 [(32, .e list_a (k * 10) 3)] (OPC (LE 3 (.tmp 32) 33 3 list_a (k * 10) 3 (partyE y2) (vi y2.size) (fun w hw => (hlist.fr hw.fr).flat hx_y2) (OPC (CA 37 #[vi y2.size, vi 1, vi 6] (some 34) (RV (.bool (inB y2.size 1 6))) (fun w hw => l1In_c w y2.size 1 6) ?_)))))))
    rintro ⟨⟩
    refine UU 1 [(35, B (inB y2.size 1 6))] (NI (inB y2.size 1 6) (fun bh6 => ?_) (fun bh6 => ?_))
    ·
     have h6 := bh6
     refine RG (UU 3 [(36, I n), (37, .v (.slice list_a list.length list_c)), (38, I (k : Int))] (OPC (IX 27 (.tmp 37) (.tmp 38) 39 0 list_a list.length list_c .i64 (k : Int) 46 10 (Rd.some hlist (by omega)) (by omega) (by omega) (UU 1 [(40, .e list_a (k * 10) 3)] (OPC (LE 3 (.tmp 40) 41 3 list_a (k * 10) 3 (partyE y2) (vi y2.size) (fun w hw => (hlist.fr hw.fr).flat hx_y2) (UU 2 [(5, I (wr (n + y2.size)))] (ENDOPS (OUTN (NEXT (RG (UU 2 [(12, I (wr ((k : Int) + 1)))] (CS 12 (vi (wr ((k : Int) + 1))) (vi ((k + 1 : Nat) : Int)) (vi_cast (by omega) (by omega)) (UU 1 [(6, I ((k + 1 : Nat) : Int))] (ENDOPS (BK (k + 1, ys3, wr (n + y2.size)) [0, 1, 5, 6] 0 [] ⟨hl_y2, hd_y2, (hv0.trans (by simp_all [heldGo]))⟩ (by simp)))))))))))))))))
    ·
     have h6 := bh6
     refine SKIP (OUTN (NEXT (RG (UU 2 [(12, I (wr ((k : Int) + 1)))] (CS 12 (vi (wr ((k : Int) + 1))) (vi ((k + 1 : Nat) : Int)) (vi_cast (by omega) (by omega)) (UU 1 [(6, I ((k + 1 : Nat) : Int))] (ENDOPS (BK (k + 1, ys3, n) [0, 1, 5, 6] 0 [] ⟨hl_y2, hd_y2, (hv0.trans (by simp_all [heldGo]))⟩ (by simp)))))))))
   ·
    have h5 := ne_of_beq_false bh5
    refine UU 7 [(35, B false)] (ENDOPS (NEXT (IFF (by kernel_rfl) (SKIP (OUTN (NEXT (RG (UU 2 [(12, I (wr ((k : Int) + 1)))] (CS 12 (vi (wr ((k : Int) + 1))) (vi ((k + 1 : Nat) : Int)) (vi_cast (by omega) (by omega)) (UU 1 [(6, I ((k + 1 : Nat) : Int))] (ENDOPS (BK (k + 1, ys3, n) [0, 1, 5, 6] 0 [] ⟨hl_y2, hd_y2, (hv0.trans (by simp_all [heldGo]))⟩ (by simp)))))))))))))
  ·
   have h4 := ne_of_beq_false bh4
   refine UU 16 [(35, B false)] (ENDOPS (NEXT (IFF (by kernel_rfl) (SKIP (OUTN (NEXT (RG (UU 2 [(12, I (wr ((k : Int) + 1)))] (CS 12 (vi (wr ((k : Int) + 1))) (vi ((k + 1 : Nat) : Int)) (vi_cast (by omega) (by omega)) (UU 1 [(6, I ((k + 1 : Nat) : Int))] (ENDOPS (BK (k + 1, ys3, n) [0, 1, 5, 6] 0 [] ⟨hl_y2, hd_y2, (hv0.trans (by simp_all [heldGo]))⟩ (by simp)))))))))))))
 ·
  have h1 := of_decide_eq_false bh1
  obtain rfl := drop_nil hk (by omega)
  refine EXIT (PASS trivial (PASS trivial (OUT (NEXT (SEQ (RG (UU 2 [(4, I n)] (ENDOPS (NEXT (RF rfl (vi n) () [] ?_ ?_))))))))))
  · simp_all [RV, heldGo]
  · rfl

theorem sTiedIn_c (W : World) (list : List Party) (list_a : Option Addr) (list_c : Nat) (hlist : Rd partyL W list_a list) (cabin : Int) : Spec Tryz.prog W [] 84 #[.slice list_a list.length list_c, vi cabin] (RV (vi (tiedGo list cabin 0))) := by
 refine ENTER0 (N := 36) (vs := [.slice list_a list.length list_c, vi cabin]) Tryz.func84 rfl rfl (NL rfl) ?_
 have hlist_len := hlist.len
 refine SEQ (RG (UU 1 [] (NR (UU 1 [(5, I 0)] (ENDOPS (NEXT (SEQ (SEQ (RG (UU 1 [(6, I 0)] (ENDOPS (NEXT (BLOCK (LOOP (ι := Nat × (List Party) × Int) (fun j => [(0, .v (.slice list_a list.length list_c)), (1, I cabin), (5, I j.2.2), (6, I (j.1 : Int))]) (fun j => []) (fun j => []) (fun j => j.1 + j.2.1.length = list.length ∧ list.drop j.1 = j.2.1 ∧ tiedGo list cabin 0 = tiedGo j.2.1 cabin j.2.2) (fun j => j.2.1.length) (0, list, 0) [0, 1, 5, 6] ⟨by simp, rfl, rfl⟩ (by kernel_rfl) rfl rfl ?_))))))))))))))
 rintro ⟨k, ys, n⟩ ⟨hk, hd, hv0⟩
 try dsimp only at hk hd hv0
 refine SEQ (SEQ (RG (UU 4 [(10, B (decide ((k : Int) < (list.length : Int))))] (NI (decide ((k : Int) < (list.length : Int))) (fun bh1 => ?_) (fun bh1 => ?_)))))
 ·
  have h1 := of_decide_eq_true bh1
  obtain ⟨y2, ys3, rfl, hx_y2, hd_y2, hl_y2⟩ := drop_cons hd hk (by omega)
  refine SKIP (NEXT (SEQ (BLOCK (SEQ (RG (UU 2 [(13, .v (.slice list_a list.length list_c)), (14, I (k : Int))] (OPC (IX 27 (.tmp 13) (.tmp 14) 15 0 list_a list.length list_c .i64 (k : Int) 46 10 (Rd.some hlist (by omega)) (by omega) (by omega) (UU 1 [(16, .e list_a (k * 10) 2)] (OPC (LE 3 (.tmp 16) 17 3 list_a (k * 10) 2 (partyE y2) (vi y2.from') (fun w hw => (hlist.fr hw.fr).flat hx_y2) (UU 3 [(20, B (y2.from' == cabin))] (SP 20 (y2.from' == cabin) (fun bh4 => ?_) (fun bh4 => ?_))))))))))))))
  ·
   have h4 := eq_of_beq bh4
   refine UU 2 [(21, .v (.slice list_a list.length list_c)), (22, I (k : Int))] (OPC (IX 27 (.tmp 21) (.tmp 22) 23 0 list_a list.length list_c .i64 (k : Int) 46 10 (Rd.some hlist (by omega)) (by omega) (by omega) (UU 1 [(24, .e list_a (k * 10) 3)] (OPC (LE 3 (.tmp 24) 25 3 list_a (k * 10) 3 (partyE y2) (vi y2.size) (fun w hw => (hlist.fr hw.fr).flat hx_y2) (OPC (CA 37 #[vi y2.size, vi 1, vi 6] (some 26) (RV (.bool (inB y2.size 1 6))) (fun w hw => l1In_c w y2.size 1 6) ?_)))))))
   rintro ⟨⟩
   refine UU 1 [(27, B (inB y2.size 1 6))] (NI (inB y2.size 1 6) (fun bh5 => ?_) (fun bh5 => ?_))
   ·
    have h5 := bh5
    refine RG (UU 3 [(28, I n), (29, .v (.slice list_a list.length list_c)), (30, I (k : Int))] (OPC (IX 27 (.tmp 29) (.tmp 30) 31 0 list_a list.length list_c .i64 (k : Int) 46 10 (Rd.some hlist (by omega)) (by omega) (by omega) (UU 1 [(32, .e list_a (k * 10) 3)] (OPC (LE 3 (.tmp 32) 33 3 list_a (k * 10) 3 (partyE y2) (vi y2.size) (fun w hw => (hlist.fr hw.fr).flat hx_y2) (UU 2 [(5, I (wr (n + y2.size)))] (ENDOPS (OUTN (NEXT (RG (UU 2 [(12, I (wr ((k : Int) + 1)))] (CS 12 (vi (wr ((k : Int) + 1))) (vi ((k + 1 : Nat) : Int)) (vi_cast (by omega) (by omega)) (UU 1 [(6, I ((k + 1 : Nat) : Int))] (ENDOPS (BK (k + 1, ys3, wr (n + y2.size)) [0, 1, 5, 6] 0 [] ⟨hl_y2, hd_y2, (hv0.trans (by simp_all [tiedGo]))⟩ (by simp)))))))))))))))))
   ·
    have h5 := bh5
    refine SKIP (OUTN (NEXT (RG (UU 2 [(12, I (wr ((k : Int) + 1)))] (CS 12 (vi (wr ((k : Int) + 1))) (vi ((k + 1 : Nat) : Int)) (vi_cast (by omega) (by omega)) (UU 1 [(6, I ((k + 1 : Nat) : Int))] (ENDOPS (BK (k + 1, ys3, n) [0, 1, 5, 6] 0 [] ⟨hl_y2, hd_y2, (hv0.trans (by simp_all [tiedGo]))⟩ (by simp)))))))))
  ·
   have h4 := ne_of_beq_false bh4
   refine UU 7 [(27, B false)] (ENDOPS (NEXT (IFF (by kernel_rfl) (SKIP (OUTN (NEXT (RG (UU 2 [(12, I (wr ((k : Int) + 1)))] (CS 12 (vi (wr ((k : Int) + 1))) (vi ((k + 1 : Nat) : Int)) (vi_cast (by omega) (by omega)) (UU 1 [(6, I ((k + 1 : Nat) : Int))] (ENDOPS (BK (k + 1, ys3, n) [0, 1, 5, 6] 0 [] ⟨hl_y2, hd_y2, (hv0.trans (by simp_all [tiedGo]))⟩ (by simp)))))))))))))
 ·
  have h1 := of_decide_eq_false bh1
  obtain rfl := drop_nil hk (by omega)
  refine EXIT (PASS trivial (PASS trivial (OUT (NEXT (SEQ (RG (UU 2 [(4, I n)] (ENDOPS (NEXT (RF rfl (vi n) () [] ?_ ?_))))))))))
  · simp_all [RV, tiedGo]
  · rfl

theorem l9Less_c (W : World) (a : Pin) (b : Pin) : Spec Tryz.prog W [] 128 #[.agg #[vi a.at', vi a.id], .agg #[vi b.at', vi b.id]] (RV (.bool (pinLess a b))) := by
 refine ENTER0 (N := 24) (vs := [.agg #[vi a.at', vi a.id], .agg #[vi b.at', vi b.id]]) Tryz.func128 rfl rfl (NL rfl) ?_
 refine SEQ (RG (UL 3 [(2, .p 0 0), (3, .p 1 0)] [(114, pinE a), (114, pinE b)] (NR (UU 6 [(10, B (decide (a.at' < b.at')))] (SP 10 (decide (a.at' < b.at')) (fun bh1 => ?_) (fun bh1 => ?_))))))
 ·
  have h1 := of_decide_eq_true bh1
  refine UU 14 [(4, B true)] (ENDOPS (NEXT (RF rfl (.bool true) () [] ?_ ?_)))
  · simp [RV, pinLess, *]
  · rfl
 ·
  have h1 := of_decide_eq_false bh1
  refine UU 6 [(16, B (a.at' == b.at'))] (SP 16 (a.at' == b.at') (fun bh2 => ?_) (fun bh2 => ?_))
  ·
   have h2 := eq_of_beq bh2
   refine UU 8 [(4, B (decide (a.id < b.id)))] (ENDOPS (NEXT (RF rfl (.bool (decide (a.id < b.id))) () [] ?_ ?_)))
   · simp [RV, pinLess, *]
   · rfl
  ·
   have h2 := ne_of_beq_false bh2
   refine UU 8 [(4, B false)] (ENDOPS (NEXT (RF rfl (.bool false) () [] ?_ ?_)))
   · simp [RV, pinLess, *]
   · rfl

theorem entryLess_c (W : World) (a : Entry) (b : Entry) : Spec Tryz.prog W [] 126 #[.agg #[vi a.level, vi a.turn, vi a.id, vi a.size], .agg #[vi b.level, vi b.turn, vi b.id, vi b.size]] (RV (.bool (entryLess a b))) := by
 refine ENTER0 (N := 24) (vs := [.agg #[vi a.level, vi a.turn, vi a.id, vi a.size], .agg #[vi b.level, vi b.turn, vi b.id, vi b.size]]) Tryz.func126 rfl rfl (NL rfl) ?_
 refine SEQ (RG (UL 3 [(2, .p 0 0), (3, .p 1 0)] [(63, entryE a), (63, entryE b)] (NR (UU 6 [(10, B (decide (a.level < b.level)))] (SP 10 (decide (a.level < b.level)) (fun bh1 => ?_) (fun bh1 => ?_))))))
 ·
  have h1 := of_decide_eq_true bh1
  refine UU 14 [(4, B true)] (ENDOPS (NEXT (RF rfl (.bool true) () [] ?_ ?_)))
  · simp [RV, entryLess, *]
  · rfl
 ·
  have h1 := of_decide_eq_false bh1
  refine UU 6 [(16, B (a.level == b.level))] (SP 16 (a.level == b.level) (fun bh2 => ?_) (fun bh2 => ?_))
  ·
   have h2 := eq_of_beq bh2
   refine UU 8 [(4, B (decide (a.turn < b.turn)))] (ENDOPS (NEXT (RF rfl (.bool (decide (a.turn < b.turn))) () [] ?_ ?_)))
   · simp [RV, entryLess, *]
   · rfl
  ·
   have h2 := ne_of_beq_false bh2
   refine UU 8 [(4, B false)] (ENDOPS (NEXT (RF rfl (.bool false) () [] ?_ ?_)))
   · simp [RV, entryLess, *]
   · rfl

theorem l7Copy_c (W : World) (list : List Entry) (list_a : Option Addr) (list_c : Nat) (hlist : Rd entryL W list_a list) (hb : list.length ≤ 1048576) : Spec Tryz.prog W [] 129 #[.slice list_a list.length list_c] (⟨HH, fun p => .slice p.1 list.length p.2, fun p => [slA 63 entryL (.slice p.1 list.length p.2) list]⟩) := by
 refine ENTER0 (N := 6) (vs := [.slice list_a list.length list_c]) Tryz.func129 rfl rfl (NL rfl) ?_
 have hlist_len := hlist.len
 refine SEQ (RG (UU 1 [] (NR (OPC (BUILDS 55 0 #[] 3 55 (by kernel_rfl) (NL rfl) 63 [] (by kernel_rfl) entryL [] rfl (by simp only [maxLen]; omega) [] [] _ rfl (flatRep rfl) (fun a1 ha2 => (UU 1 [(4, .v (.slice list_a list.length list_c))] (OPC (APPENDR 55 (.tmp 3) (.tmp 4) 5 55 (by kernel_rfl) (NL rfl) (.slice a1 0 0) list_a list.length list_c (by kernel_rfl) (by kernel_rfl) 63 (by kernel_rfl) (.agg #[vi 0, vi 0, vi 0, vi 0]) 32 (by kernel_rfl) rfl (by decide) 0 ([]) list _ rfl rfl (fun w hw => (hlist.fr hw.fr)) (by first | omega | (simp only [List.length_append, List.length_cons, List.length_nil, List.length_take, List.length_drop] at *; omega)) (by simp only [maxLen]; first | omega | (simp only [List.length_append, List.length_cons, List.length_nil, List.length_take, List.length_drop] at *; omega)) (fun a3 c4 hn5 => (UU 1 [(2, .v (.slice a3 ((([]) ++ list).length) c4))] (ENDOPS (NEXT (RET ?_))))))))))))))
 have e6 : ([]) ++ list = list := by simp
 refine FIN (.slice a3 ((([]) ++ list).length) c4) (by kernel_rfl) (a3, c4) ?_ [0] ?_
 · exact congrArg (fun z : List Entry => Value.slice a3 z.length c4) e6
 · exact congrArg (fun z : List Entry => some [slA 63 entryL (.slice a3 z.length c4) z]) e6

theorem sl7Put_c (W : World) (list : List Entry) (list_a : Option Addr) (list_c : Nat) (hlist : Rd entryL W list_a list) (e : Entry) (hcap : list.length ≤ list_c) (hb : list.length ≤ 1048576) : Spec Tryz.prog W [] 108 #[.slice list_a list.length list_c, .agg #[vi e.level, vi e.turn, vi e.id, vi e.size]] (⟨HH, fun p => .slice p.1 ((qIns list e).length) p.2, fun p => [slA 63 entryL (.slice p.1 (qIns list e).length p.2) (qIns list e)]⟩) := by
 refine ENTER0 (N := 33) (vs := [.slice list_a list.length list_c, .agg #[vi e.level, vi e.turn, vi e.id, vi e.size]]) Tryz.func108 rfl rfl (NL rfl) ?_
 have hlist_len := hlist.len
 refine SEQ (RG (UL 2 [(3, .p 0 0)] [(63, entryE e)] (NR (UU 1 [(5, I 0)] (ENDOPS (NEXT (SEQJ (ι := Nat) (fun j => [(0, .v (.slice list_a list.length list_c)), (3, .p 0 0), (5, I (j : Int))]) (fun j => [(63, entryE e)]) (fun j => []) (fun j => j ≤ list.length ∧ qIns list e = list.take j ++ e :: list.drop j) ?_ ?_)))))))
 ·
  refine BLOCK (LOOP (ι := Nat × (List Entry)) (fun j => [(0, .v (.slice list_a list.length list_c)), (3, .p 0 0), (5, I (j.1 : Int))]) (fun j => [(63, entryE e)]) (fun j => []) (fun j => j.1 + j.2.length = list.length ∧ list.drop j.1 = j.2 ∧ qIns list e = list.take j.1 ++ qIns j.2 e) (fun j => j.2.length) (0, list) [0, 3, 5] ⟨by simp, rfl, by simp⟩ (by kernel_rfl) rfl rfl ?_)
  rintro ⟨k, ys⟩ ⟨hk, hd, hv0⟩
  try dsimp only at hk hd hv0
  refine SEQ (SEQ (REGIONQ (by kernel_rfl) (by kernel_rfl) (QU 5 [(11, B (decide ((k : Int) < (list.length : Int))))] (QSP 11 (decide ((k : Int) < (list.length : Int))) (fun bh1 => ?_) (fun bh1 => ?_)))))
  ·
   have h1 := of_decide_eq_true bh1
   obtain ⟨y2, ys3, rfl, hx_y2, hd_y2, hl_y2⟩ := drop_cons hd hk (by omega)
   refine QU 2 [(12, .v (.slice list_a list.length list_c)), (13, I (k : Int))] (QIX 55 (.tmp 12) (.tmp 13) 14 0 list_a list.length list_c .i64 (k : Int) 63 4 (Rd.some hlist (by omega)) (by omega) (by omega) (QLE 63 (.tmp 14) 15 63 list_a (k * 4) 0 (entryE y2) (.agg (entryE y2).toArray) (fun w hw => (hlist.fr hw.fr).flat hx_y2) (QU 1 [(16, .v (.agg (entryE e).toArray))] (QCA 126 #[.agg #[vi y2.level, vi y2.turn, vi y2.id, vi y2.size], .agg #[vi e.level, vi e.turn, vi e.id, vi e.size]] (some 17) (.bool (entryLess y2 e)) (fun w hw => entryLess_c w y2 e) (QU 1 [(18, B (entryLess y2 e))] (QEND rfl (NEXT (IFK (entryLess y2 e) (fun bh4 => ?_) (fun bh4 => ?_)))))))))
   ·
    have h4 := bh4
    refine SKIP (NEXT (BLOCK (RG (UU 2 [(20, I (wr ((k : Int) + 1)))] (CS 20 (vi (wr ((k : Int) + 1))) (vi ((k + 1 : Nat) : Int)) (vi_cast (by omega) (by omega)) (UU 1 [(5, I ((k + 1 : Nat) : Int))] (ENDOPS (OUTN (BK (k + 1, ys3) [0, 3, 5] 1 [] ⟨hl_y2, hd_y2, (hv0.trans (by simp_all [qIns, List.take_add_one]))⟩ (by simp))))))))))
   ·
    have h4 := bh4
    refine EXIT (PASS trivial (PASS trivial (OUT (JBACK (k) [0, 3, 5] 1 [] _ ⟨by first | omega | (dsimp only; simp at *; omega), by simp_all [qIns]⟩ (by kernel_rfl) rfl rfl rfl))))
  ·
   have h1 := of_decide_eq_false bh1
   obtain rfl := drop_nil hk (by omega)
   refine QU 7 [(18, B false)] (QEND rfl (NEXT (IFF (by kernel_rfl) (EXIT (PASS trivial (PASS trivial (OUT (JBACK (k) [0, 3, 5] 1 [] _ ⟨by first | omega | (dsimp only; simp at *; omega), by simp_all [qIns]⟩ (by kernel_rfl) rfl rfl rfl))))))))
 rintro kk ⟨hkl, hke⟩
 try dsimp only at hkl hke
 refine SEQJ (ι := (Option Addr) × Nat) (fun j => [(0, .v (.slice list_a list.length list_c)), (5, I (kk : Int)), (6, .v (.slice j.1 (((list.take kk) ++ ([e])).length) j.2))]) (fun j => [(63, entryE e)]) (fun j => [slA 63 entryL (.slice j.1 (((list.take kk) ++ ([e])).length) j.2) ((list.take kk) ++ ([e]))]) (fun j => True) ?_ ?_
 ·
  refine EXPORT (fun bs hbs => ?_)
  obtain ⟨b5, rfl⟩ := len1 hbs
  refine REGIONH (by kernel_rfl) 8 rfl [ptC b5 63 [vi e.level, vi e.turn, vi e.id, vi e.size]] (HP [0] 0 [(21, .v (.slice list_a list.length list_c))] (HP [0] 1 [(22, I (kk : Int))] (HLOADE (i := 4) (js := [0])  63 (.tmp 3) 25 63 (by kernel_rfl) (NL rfl) (some ⟨b5, 0, none⟩) 0 0 (entryE e) (.agg (entryE e).toArray) (by kernel_rfl) (fun w hw => ptC_elem (hw.own 0 rfl)) (by kernel_rfl) (by kernel_rfl) rfl (HALL [2, 5] (by kernel_rfl) (by decide) ⟨?_, ?_⟩))))
  ·
   refine CUTH 55 (.tmp 21) (.tmp 22) 23 55 (by kernel_rfl) (NL rfl) list_a list.length list_c .i64 (kk : Int) (by kernel_rfl) (by kernel_rfl) 63 entryL list (by kernel_rfl) (by kernel_rfl) (by omega) (by first | omega | (simp only [List.length_append, List.length_cons, List.length_nil, List.length_take, List.length_drop] at *; omega)) rfl (by omega) (fun a6 hsh7 => ?_)
   have hsh7 : ∀ w, Rd entryL w list_a list → Rd entryL w a6 (list.take kk) := hsh7
   have hln8 : (list.take kk).length = kk := by first | (simp; done) | (simp; omega)
   refine CS 23 (.slice a6 kk list_c) (.slice a6 ((list.take kk).length) list_c) (by rw [hln8]) (HKEEP (js := [0]) rfl (HALL [3, 5] (by kernel_rfl) (by decide) ⟨?_, ?_⟩))
   ·
    refine CA 129 #[.slice a6 ((list.take kk).length) list_c] (some 24) (⟨HH, fun p => .slice p.1 ((list.take kk).length) p.2, fun p => [slA 63 entryL (.slice p.1 (list.take kk).length p.2) (list.take kk)]⟩) (fun w hw => l7Copy_c w (list.take kk) a6 list_c (hsh7 _ (hlist.fr hw.fr)) (by first | assumption | omega)) ?_
    rintro ⟨a9, c10⟩
    refine HKEEP (js := [0]) rfl (HALL [5] (by kernel_rfl) (by decide) (BUILDS 55 1 #[(0, .tmp 25)] 26 55 (by kernel_rfl) (NL rfl) 63 [vi e.level, vi e.turn, vi e.id, vi e.size] (by kernel_rfl) entryL [e] rfl (by simp only [maxLen]; omega) [] [] _ rfl (flatRep rfl) (fun a11 ha12 => (HKEEP (js := [0]) rfl (HALL [6] (by kernel_rfl) (by decide) (APPENDO 55 (.tmp 24) (.tmp 26) 27 55 (by kernel_rfl) (NL rfl) (.slice a9 ((list.take kk).length) c10) a11 1 1 (by kernel_rfl) (by kernel_rfl) ha12 63 (by kernel_rfl) entryL (.agg #[vi 0, vi 0, vi 0, vi 0]) 32 (by kernel_rfl) rfl (by decide) 1 1 (list.take kk) ([e]) _ rfl rfl (by first | omega | (simp only [List.length_append, List.length_cons, List.length_nil, List.length_take, List.length_drop] at *; omega)) (by simp only [maxLen]; first | omega | (simp only [List.length_append, List.length_cons, List.length_nil, List.length_take, List.length_drop] at *; omega)) (fun a13 c14 hn15 => (HKEEP (js := [0]) rfl (HP [0] 7 [(6, .v (.slice a13 (((list.take kk) ++ ([e])).length) c14))] (HEND (by kernel_rfl) (IMPORT (L0 := [(63, entryE e)]) (L1 := []) [b5] rfl [0] _ rfl [(0, .v (.slice list_a list.length list_c)), (5, I (kk : Int)), (6, .v (.slice a13 (((list.take kk) ++ ([e])).length) c14))] (by kernel_rfl) (by kernel_rfl) (JBACK (a13, c14) [0, 5, 6] 1 [0] _ trivial (by kernel_rfl) rfl rfl rfl))))))))))))
   ·
    refine BUILDS 55 1 #[(0, .tmp 25)] 26 55 (by kernel_rfl) (NL rfl) 63 [vi e.level, vi e.turn, vi e.id, vi e.size] (by kernel_rfl) entryL [e] rfl (by simp only [maxLen]; omega) [] [] _ rfl (flatRep rfl) (fun a16 ha17 => (HKEEP (js := [0]) rfl (HALL [3] (by kernel_rfl) (by decide) (CA 129 #[.slice a6 ((list.take kk).length) list_c] (some 24) (⟨HH, fun p => .slice p.1 ((list.take kk).length) p.2, fun p => [slA 63 entryL (.slice p.1 (list.take kk).length p.2) (list.take kk)]⟩) (fun w hw => l7Copy_c w (list.take kk) a6 list_c (hsh7 _ (hlist.fr hw.fr)) (by first | assumption | omega)) ?_))))
    rintro ⟨a18, c19⟩
    refine HKEEP (js := [0]) rfl (HALL [6] (by kernel_rfl) (by decide) (APPENDO 55 (.tmp 24) (.tmp 26) 27 55 (by kernel_rfl) (NL rfl) (.slice a18 ((list.take kk).length) c19) a16 1 1 (by kernel_rfl) (by kernel_rfl) ha17 63 (by kernel_rfl) entryL (.agg #[vi 0, vi 0, vi 0, vi 0]) 32 (by kernel_rfl) rfl (by decide) 2 1 (list.take kk) ([e]) _ rfl rfl (by first | omega | (simp only [List.length_append, List.length_cons, List.length_nil, List.length_take, List.length_drop] at *; omega)) (by simp only [maxLen]; first | omega | (simp only [List.length_append, List.length_cons, List.length_nil, List.length_take, List.length_drop] at *; omega)) (fun a20 c21 hn22 => (HKEEP (js := [0]) rfl (HP [0] 7 [(6, .v (.slice a20 (((list.take kk) ++ ([e])).length) c21))] (HEND (by kernel_rfl) (IMPORT (L0 := [(63, entryE e)]) (L1 := []) [b5] rfl [0] _ rfl [(0, .v (.slice list_a list.length list_c)), (5, I (kk : Int)), (6, .v (.slice a20 (((list.take kk) ++ ([e])).length) c21))] (by kernel_rfl) (by kernel_rfl) (JBACK (a20, c21) [0, 5, 6] 1 [0] _ trivial (by kernel_rfl) rfl rfl rfl))))))))
  ·
   refine BUILDS 55 1 #[(0, .tmp 25)] 26 55 (by kernel_rfl) (NL rfl) 63 [vi e.level, vi e.turn, vi e.id, vi e.size] (by kernel_rfl) entryL [e] rfl (by simp only [maxLen]; omega) [] [] _ rfl (flatRep rfl) (fun a23 ha24 => (HKEEP (js := [0]) rfl (HALL [2] (by kernel_rfl) (by decide) (CUTH 55 (.tmp 21) (.tmp 22) 23 55 (by kernel_rfl) (NL rfl) list_a list.length list_c .i64 (kk : Int) (by kernel_rfl) (by kernel_rfl) 63 entryL list (by kernel_rfl) (by kernel_rfl) (by omega) (by first | omega | (simp only [List.length_append, List.length_cons, List.length_nil, List.length_take, List.length_drop] at *; omega)) rfl (by omega) (fun a25 hsh26 => ?_)))))
   have hsh26 : ∀ w, Rd entryL w list_a list → Rd entryL w a25 (list.take kk) := hsh26
   have hln27 : (list.take kk).length = kk := by first | (simp; done) | (simp; omega)
   refine CS 23 (.slice a25 kk list_c) (.slice a25 ((list.take kk).length) list_c) (by rw [hln27]) (HKEEP (js := [0]) rfl (HALL [3] (by kernel_rfl) (by decide) (CA 129 #[.slice a25 ((list.take kk).length) list_c] (some 24) (⟨HH, fun p => .slice p.1 ((list.take kk).length) p.2, fun p => [slA 63 entryL (.slice p.1 (list.take kk).length p.2) (list.take kk)]⟩) (fun w hw => l7Copy_c w (list.take kk) a25 list_c (hsh26 _ (hlist.fr hw.fr)) (by first | assumption | omega)) ?_)))
   rintro ⟨a28, c29⟩
   refine HKEEP (js := [0]) rfl (HALL [6] (by kernel_rfl) (by decide) (APPENDO 55 (.tmp 24) (.tmp 26) 27 55 (by kernel_rfl) (NL rfl) (.slice a28 ((list.take kk).length) c29) a23 1 1 (by kernel_rfl) (by kernel_rfl) ha24 63 (by kernel_rfl) entryL (.agg #[vi 0, vi 0, vi 0, vi 0]) 32 (by kernel_rfl) rfl (by decide) 2 1 (list.take kk) ([e]) _ rfl rfl (by first | omega | (simp only [List.length_append, List.length_cons, List.length_nil, List.length_take, List.length_drop] at *; omega)) (by simp only [maxLen]; first | omega | (simp only [List.length_append, List.length_cons, List.length_nil, List.length_take, List.length_drop] at *; omega)) (fun a30 c31 hn32 => (HKEEP (js := [0]) rfl (HP [0] 7 [(6, .v (.slice a30 (((list.take kk) ++ ([e])).length) c31))] (HEND (by kernel_rfl) (IMPORT (L0 := [(63, entryE e)]) (L1 := []) [b5] rfl [0] _ rfl [(0, .v (.slice list_a list.length list_c)), (5, I (kk : Int)), (6, .v (.slice a30 (((list.take kk) ++ ([e])).length) c31))] (by kernel_rfl) (by kernel_rfl) (JBACK (a30, c31) [0, 5, 6] 1 [0] _ trivial (by kernel_rfl) rfl rfl rfl))))))))
 rintro ⟨oa, oc⟩ hi33
 try dsimp only at hi33
 refine SEQ (RG (UU 3 [(28, .v (.slice oa (((list.take kk) ++ ([e])).length) oc)), (29, .v (.slice list_a list.length list_c)), (30, I (kk : Int))] (OPC (CUTL 55 (.tmp 29) (.tmp 30) 31 55 (by kernel_rfl) (NL rfl) list_a list.length list_c .i64 (kk : Int) (by kernel_rfl) (by kernel_rfl) 63 entryL list (by kernel_rfl) (by kernel_rfl) (by omega) (by first | omega | (simp only [List.length_append, List.length_cons, List.length_nil, List.length_take, List.length_drop] at *; omega)) rfl (by omega) (fun a34 hsh35 => ?_)))))
 have hsh35 : ∀ w, Rd entryL w list_a list → Rd entryL w a34 (list.drop kk) := hsh35
 have hln36 : (list.drop kk).length = list.length - kk := by first | (simp; done) | (simp; omega)
 refine CS 31 (.slice a34 (list.length - kk) (list_c - kk)) (.slice a34 ((list.drop kk).length) (list_c - kk)) (by rw [hln36]) (OPC (APPENDR 55 (.tmp 28) (.tmp 31) 32 55 (by kernel_rfl) (NL rfl) (.slice oa (((list.take kk) ++ ([e])).length) oc) a34 ((list.drop kk).length) (list_c - kk) (by kernel_rfl) (by kernel_rfl) 63 (by kernel_rfl) (.agg #[vi 0, vi 0, vi 0, vi 0]) 32 (by kernel_rfl) rfl (by decide) 0 ((list.take kk) ++ ([e])) (list.drop kk) _ rfl rfl (fun w hw => (hsh35 _ (hlist.fr hw.fr))) (by first | omega | (simp only [List.length_append, List.length_cons, List.length_nil, List.length_take, List.length_drop] at *; omega)) (by simp only [maxLen]; first | omega | (simp only [List.length_append, List.length_cons, List.length_nil, List.length_take, List.length_drop] at *; omega)) (fun a37 c38 hn39 => (UU 1 [(4, .v (.slice a37 ((((list.take kk) ++ ([e])) ++ (list.drop kk)).length) c38))] (ENDOPS (NEXT (RET ?_)))))))
 have efin : qIns list e = ((list.take kk) ++ ([e])) ++ (list.drop kk) := by rw [hke]; simp
 refine FIN (.slice a37 ((((list.take kk) ++ ([e])) ++ (list.drop kk)).length) c38) (by kernel_rfl) (a37, c38) ?_ [0] ?_
 · (rw [efin] <;> rfl)
 · (rw [efin] <;> rfl)

theorem sl9Put_c (W : World) (list : List Pin) (list_a : Option Addr) (list_c : Nat) (hlist : Rd pinL W list_a list) (e : Pin) (hcap : list.length ≤ list_c) (hb : list.length ≤ 4194304) : Spec Tryz.prog W [] 110 #[.slice list_a list.length list_c, .agg #[vi e.at', vi e.id]] (⟨HH, fun p => .slice p.1 ((pIns list e).length) p.2, fun p => [slA 114 pinL (.slice p.1 (pIns list e).length p.2) (pIns list e)]⟩) := by
 refine ENTER0 (N := 35) (vs := [.slice list_a list.length list_c, .agg #[vi e.at', vi e.id]]) Tryz.func110 rfl rfl (NL rfl) ?_
 have hlist_len := hlist.len
 refine SEQ (RG (UL 2 [(3, .p 0 0)] [(114, pinE e)] (NR (UU 1 [(5, I 0)] (ENDOPS (NEXT (SEQJ (ι := Nat) (fun j => [(0, .v (.slice list_a list.length list_c)), (3, .p 0 0), (5, I (j : Int))]) (fun j => [(114, pinE e)]) (fun j => []) (fun j => j ≤ list.length ∧ pIns list e = list.take j ++ e :: list.drop j) ?_ ?_)))))))
 ·
  refine BLOCK (LOOP (ι := Nat × (List Pin)) (fun j => [(0, .v (.slice list_a list.length list_c)), (3, .p 0 0), (5, I (j.1 : Int))]) (fun j => [(114, pinE e)]) (fun j => []) (fun j => j.1 + j.2.length = list.length ∧ list.drop j.1 = j.2 ∧ pIns list e = list.take j.1 ++ pIns j.2 e) (fun j => j.2.length) (0, list) [0, 3, 5] ⟨by simp, rfl, by simp⟩ (by kernel_rfl) rfl rfl ?_)
  rintro ⟨k, ys⟩ ⟨hk, hd, hv0⟩
  try dsimp only at hk hd hv0
  refine SEQ (SEQ (REGIONQ (by kernel_rfl) (by kernel_rfl) (QU 5 [(11, B (decide ((k : Int) < (list.length : Int))))] (QSP 11 (decide ((k : Int) < (list.length : Int))) (fun bh1 => ?_) (fun bh1 => ?_)))))
  ·
   have h1 := of_decide_eq_true bh1
   obtain ⟨y2, ys3, rfl, hx_y2, hd_y2, hl_y2⟩ := drop_cons hd hk (by omega)
   refine QU 2 [(12, .v (.slice list_a list.length list_c)), (13, I (k : Int))] (QIX 99 (.tmp 12) (.tmp 13) 14 0 list_a list.length list_c .i64 (k : Int) 114 2 (Rd.some hlist (by omega)) (by omega) (by omega) (QLE 114 (.tmp 14) 15 114 list_a (k * 2) 0 (pinE y2) (.agg (pinE y2).toArray) (fun w hw => (hlist.fr hw.fr).flat hx_y2) (QU 1 [(16, .v (.agg (pinE e).toArray))] (QCA 128 #[.agg #[vi y2.at', vi y2.id], .agg #[vi e.at', vi e.id]] (some 17) (.bool (pinLess y2 e)) (fun w hw => l9Less_c w y2 e) (QU 1 [(18, B (pinLess y2 e))] (QEND rfl (NEXT (IFK (pinLess y2 e) (fun bh4 => ?_) (fun bh4 => ?_)))))))))
   ·
    have h4 := bh4
    refine SKIP (NEXT (BLOCK (RG (UU 2 [(20, I (wr ((k : Int) + 1)))] (CS 20 (vi (wr ((k : Int) + 1))) (vi ((k + 1 : Nat) : Int)) (vi_cast (by omega) (by omega)) (UU 1 [(5, I ((k + 1 : Nat) : Int))] (ENDOPS (OUTN (BK (k + 1, ys3) [0, 3, 5] 1 [] ⟨hl_y2, hd_y2, (hv0.trans (by simp_all [pIns, List.take_add_one]))⟩ (by simp))))))))))
   ·
    have h4 := bh4
    refine EXIT (PASS trivial (PASS trivial (OUT (JBACK (k) [0, 3, 5] 1 [] _ ⟨by first | omega | (dsimp only; simp at *; omega), by simp_all [pIns]⟩ (by kernel_rfl) rfl rfl rfl))))
  ·
   have h1 := of_decide_eq_false bh1
   obtain rfl := drop_nil hk (by omega)
   refine QU 7 [(18, B false)] (QEND rfl (NEXT (IFF (by kernel_rfl) (EXIT (PASS trivial (PASS trivial (OUT (JBACK (k) [0, 3, 5] 1 [] _ ⟨by first | omega | (dsimp only; simp at *; omega), by simp_all [pIns]⟩ (by kernel_rfl) rfl rfl rfl))))))))
 rintro kk ⟨hkl, hke⟩
 try dsimp only at hkl hke
 refine SEQ (RG (OPC (BUILDS 99 0 #[] 21 99 (by kernel_rfl) (NL rfl) 114 [] (by kernel_rfl) pinL [] rfl (by simp only [maxLen]; omega) [] [] _ rfl (flatRep rfl) (fun a5 ha6 => (UU 2 [(22, .v (.slice list_a list.length list_c)), (23, I (kk : Int))] (OPC (CUTH 99 (.tmp 22) (.tmp 23) 24 99 (by kernel_rfl) (NL rfl) list_a list.length list_c .i64 (kk : Int) (by kernel_rfl) (by kernel_rfl) 114 pinL list (by kernel_rfl) (by kernel_rfl) (by omega) (by first | omega | (simp only [List.length_append, List.length_cons, List.length_nil, List.length_take, List.length_drop] at *; omega)) rfl (by omega) (fun a7 hsh8 => ?_))))))))
 have hsh8 : ∀ w, Rd pinL w list_a list → Rd pinL w a7 (list.take kk) := hsh8
 have hln9 : (list.take kk).length = kk := by first | (simp; done) | (simp; omega)
 refine CS 24 (.slice a7 kk list_c) (.slice a7 ((list.take kk).length) list_c) (by rw [hln9]) (OPC (APPENDR 99 (.tmp 21) (.tmp 24) 25 99 (by kernel_rfl) (NL rfl) (.slice a5 0 0) a7 ((list.take kk).length) list_c (by kernel_rfl) (by kernel_rfl) 114 (by kernel_rfl) (.agg #[vi 0, vi 0]) 16 (by kernel_rfl) rfl (by decide) 0 ([]) (list.take kk) _ rfl rfl (fun w hw => (hsh8 _ (hlist.fr hw.fr))) (by first | omega | (simp only [List.length_append, List.length_cons, List.length_nil, List.length_take, List.length_drop] at *; omega)) (by simp only [maxLen]; first | omega | (simp only [List.length_append, List.length_cons, List.length_nil, List.length_take, List.length_drop] at *; omega)) (fun a10 c11 hn12 => (UU 1 [(6, .v (.slice a10 ((([]) ++ (list.take kk)).length) c11))] (NR (UU 2 [(26, .v (.slice a10 ((([]) ++ (list.take kk)).length) c11)), (27, .v (.agg (pinE e).toArray))] (OPC (BUILDS 99 1 #[(0, .tmp 27)] 28 99 (by kernel_rfl) (NL rfl) 114 [vi e.at', vi e.id] (by kernel_rfl) pinL [e] rfl (by simp only [maxLen]; omega) [] [] _ rfl (flatRep rfl) (fun a13 ha14 => (OPC (APPENDO 99 (.tmp 26) (.tmp 28) 29 99 (by kernel_rfl) (NL rfl) (.slice a10 ((([]) ++ (list.take kk)).length) c11) a13 1 1 (by kernel_rfl) (by kernel_rfl) ha14 114 (by kernel_rfl) pinL (.agg #[vi 0, vi 0]) 16 (by kernel_rfl) rfl (by decide) 0 0 (([]) ++ (list.take kk)) ([e]) _ rfl rfl (by first | omega | (simp only [List.length_append, List.length_cons, List.length_nil, List.length_take, List.length_drop] at *; omega)) (by simp only [maxLen]; first | omega | (simp only [List.length_append, List.length_cons, List.length_nil, List.length_take, List.length_drop] at *; omega)) (fun a15 c16 hn17 => ?_))))))))))))
 refine UU 1 [(6, .v (.slice a15 (((([]) ++ (list.take kk)) ++ ([e])).length) c16))] (NR (UU 3 [(30, .v (.slice a15 (((([]) ++ (list.take kk)) ++ ([e])).length) c16)), (31, .v (.slice list_a list.length list_c)), (32, I (kk : Int))] (OPC (CUTL 99 (.tmp 31) (.tmp 32) 33 99 (by kernel_rfl) (NL rfl) list_a list.length list_c .i64 (kk : Int) (by kernel_rfl) (by kernel_rfl) 114 pinL list (by kernel_rfl) (by kernel_rfl) (by omega) (by first | omega | (simp only [List.length_append, List.length_cons, List.length_nil, List.length_take, List.length_drop] at *; omega)) rfl (by omega) (fun a18 hsh19 => ?_)))))
 have hsh19 : ∀ w, Rd pinL w list_a list → Rd pinL w a18 (list.drop kk) := hsh19
 have hln20 : (list.drop kk).length = list.length - kk := by first | (simp; done) | (simp; omega)
 refine CS 33 (.slice a18 (list.length - kk) (list_c - kk)) (.slice a18 ((list.drop kk).length) (list_c - kk)) (by rw [hln20]) (OPC (APPENDR 99 (.tmp 30) (.tmp 33) 34 99 (by kernel_rfl) (NL rfl) (.slice a15 (((([]) ++ (list.take kk)) ++ ([e])).length) c16) a18 ((list.drop kk).length) (list_c - kk) (by kernel_rfl) (by kernel_rfl) 114 (by kernel_rfl) (.agg #[vi 0, vi 0]) 16 (by kernel_rfl) rfl (by decide) 0 ((([]) ++ (list.take kk)) ++ ([e])) (list.drop kk) _ rfl rfl (fun w hw => (hsh19 _ (hlist.fr hw.fr))) (by first | omega | (simp only [List.length_append, List.length_cons, List.length_nil, List.length_take, List.length_drop] at *; omega)) (by simp only [maxLen]; first | omega | (simp only [List.length_append, List.length_cons, List.length_nil, List.length_take, List.length_drop] at *; omega)) (fun a21 c22 hn23 => (UU 1 [(4, .v (.slice a21 ((((([]) ++ (list.take kk)) ++ ([e])) ++ (list.drop kk)).length) c22))] (ENDOPS (NEXT (RET ?_)))))))
 have efin : pIns list e = ((([]) ++ (list.take kk)) ++ ([e])) ++ (list.drop kk) := by rw [hke]; simp
 refine FIN (.slice a21 ((((([]) ++ (list.take kk)) ++ ([e])) ++ (list.drop kk)).length) c22) (by kernel_rfl) (a21, c22) ?_ [0] ?_
 · (rw [efin] <;> rfl)
 · (rw [efin] <;> rfl)

theorem sQueueOf_c (W : World) (r : Rules) (r_seats_a : Option Addr) (r_seats_c : Nat) (hr_seats : Rd intL W r_seats_a r.seats) (list : List Party) (list_a : Option Addr) (list_c : Nat) (hlist : Rd partyL W list_a list) (cabin : Int) (now : Int) (hb : list.length ≤ 1048576) : Spec Tryz.prog W [] 79 #[.agg #[.slice r_seats_a r.seats.length r_seats_c, vi r.tiers, vi r.room, vi r.size, vi r.period, vi r.window, vi r.rest, vi r.tries, vi r.crew], .slice list_a list.length list_c, vi cabin, vi now] (⟨HH, fun p => .slice p.1 ((queueOf r list cabin now).length) p.2, fun p => [slA 63 entryL (.slice p.1 (queueOf r list cabin now).length p.2) (queueOf r list cabin now)]⟩) := by
 refine ENTER0 (N := 45) (vs := [.agg #[.slice r_seats_a r.seats.length r_seats_c, vi r.tiers, vi r.room, vi r.size, vi r.period, vi r.window, vi r.rest, vi r.tries, vi r.crew], .slice list_a list.length list_c, vi cabin, vi now]) Tryz.func79 rfl rfl (NL rfl) ?_
 have hr_seats_len := hr_seats.len
 have hlist_len := hlist.len
 refine SEQ (RG (UL 2 [(4, .p 0 0)] [(26, [.slice r_seats_a r.seats.length r_seats_c, vi r.tiers, vi r.room, vi r.size, vi r.period, vi r.window, vi r.rest, vi r.tries, vi r.crew])] (NR (OPC (BUILDS 55 0 #[] 13 55 (by kernel_rfl) (NL rfl) 63 [] (by kernel_rfl) entryL [] rfl (by simp only [maxLen]; omega) [] [] _ rfl (flatRep rfl) (fun a1 ha2 => (UU 1 [(9, .v (.slice a1 0 0))] (ENDOPS (NEXT (SEQ (SEQ (RG (UU 4 [(10, I (wr ((list.length : Int) - 1)))] (ENDOPS (NEXT (BLOCK (LOOP (ι := Int × (Option Addr) × Nat × (List Entry)) (fun j => [(1, .v (.slice list_a list.length list_c)), (2, I cabin), (3, I now), (4, .p 0 0), (9, .v (.slice j.2.1 j.2.2.2.length j.2.2.1)), (10, I j.1)]) (fun j => [(26, [.slice r_seats_a r.seats.length r_seats_c, vi r.tiers, vi r.room, vi r.size, vi r.period, vi r.window, vi r.rest, vi r.tries, vi r.crew])]) (fun j => [slA 63 entryL (.slice j.2.1 j.2.2.2.length j.2.2.1) j.2.2.2]) (fun j => -1 ≤ j.1 ∧ j.1 < (list.length : Int) ∧ (j.2.2.2.length : Int) + j.1 + 1 ≤ list.length ∧ j.2.2.2 = queueOf r (list.drop (j.1 + 1).toNat) cabin now) (fun j => (j.1 + 1).toNat) (wr ((list.length : Int) - 1), a1, 0, []) [1, 2, 3, 4, 9, 10] ⟨by dsimp only; rw [wr_of (by omega) (by omega)]; omega, by dsimp only; rw [wr_of (by omega) (by omega)]; omega, by dsimp only; rw [wr_of (by omega) (by omega)]; simp only [List.length_nil]; omega, by dsimp only; rw [wr_of (by omega) (by omega), show ((list.length : Int) - 1 + 1).toNat = list.length by omega]; simp [queueOf]⟩ (by kernel_rfl) rfl rfl ?_)))))))))))))))))
 rintro ⟨z, oa, oc, out⟩ ⟨hz, hzl, hol, hoq⟩
 try dsimp only at hz hzl hol hoq
 have hzw : wr (z - 1) = z - 1 := wr_of (by omega) (by omega)
 refine SEQ (SEQ (RG (UU 2 [(18, B (decide (z ≥ 0)))] (NI (decide (z ≥ 0)) (fun bh3 => ?_) (fun bh3 => ?_)))))
 ·
  have h3 := of_decide_eq_true bh3
  refine SKIP (NEXT (SEQ (BLOCK (SEQ (EXPORT (fun bs hbs => ?_))))))
  obtain ⟨b4, rfl⟩ := len1 hbs
  refine REGIONH (by kernel_rfl) 13 rfl [ptC b4 26 [.slice r_seats_a r.seats.length r_seats_c, vi r.tiers, vi r.room, vi r.size, vi r.period, vi r.window, vi r.rest, vi r.tries, vi r.crew], slA 63 entryL (.slice oa out.length oc) out] (HLOADE (i := 0) (js := [0, 0])  26 (.tmp 4) 22 26 (by kernel_rfl) (NL rfl) (some ⟨b4, 0, none⟩) 0 0 ([.slice r_seats_a r.seats.length r_seats_c, vi r.tiers, vi r.room, vi r.size, vi r.period, vi r.window, vi r.rest, vi r.tries, vi r.crew]) (.agg #[.slice r_seats_a r.seats.length r_seats_c, vi r.tiers, vi r.room, vi r.size, vi r.period, vi r.window, vi r.rest, vi r.tries, vi r.crew]) (by kernel_rfl) (fun w hw => ptC_elem (hw.own 0 rfl)) (by kernel_rfl) (by kernel_rfl) rfl (HP [0, 0] 1 [(23, .v (.slice list_a list.length list_c))] (HP [0, 0] 2 [(24, I z)] ?_)))
  obtain ⟨x5, hx6⟩ : ∃ y, list[z.toNat]? = some y := ⟨_, List.getElem?_eq_getElem (by omega)⟩
  refine HINDEX (i := 3) (js := [0, 0])  27 (.tmp 23) (.tmp 24) 25 0 (by kernel_rfl) (NL rfl) list_a list.length list_c .i64 z 46 10 (by kernel_rfl) (by kernel_rfl) (by kernel_rfl) (by kernel_rfl) (Rd.some hlist (by omega)) (by omega) (by omega) (by kernel_rfl) rfl (HLOADE (i := 4) (js := [0, 0])  46 (.tmp 25) 26 46 (by kernel_rfl) (NL rfl) list_a (z.toNat * 10) 0 (partyE x5) (.agg (partyE x5).toArray) (by kernel_rfl) (fun w hw => (hlist.fr hw.fr).flat hx6) (by kernel_rfl) (by kernel_rfl) rfl (HP [0, 0] 5 [(27, I now)] (HALL [6, 10] (by kernel_rfl) (by decide) ⟨?_, ?_⟩)))
  ·
   refine CA 107 #[.agg #[.slice r_seats_a r.seats.length r_seats_c, vi r.tiers, vi r.room, vi r.size, vi r.period, vi r.window, vi r.rest, vi r.tries, vi r.crew], .agg #[vi x5.id, vi x5.cabin, vi x5.from', vi x5.size, vi x5.tier, vi x5.since, vi x5.turn, vi x5.state, vi x5.until', vi x5.asked], vi now] (some 28) (RV (.tuple #[.agg #[vi ((entryOf r x5 now).level), vi ((entryOf r x5 now).turn), vi ((entryOf r x5 now).id), vi ((entryOf r x5 now).size)], .bool (entryOk r x5 now)])) (fun w hw => sEntryOf_c w r r_seats_a r_seats_c (hr_seats.fr hw.fr) x5 now) ?_
   rintro ⟨⟩
   refine HKEEP (js := [0, 0]) rfl (HP [0, 0] 7 [(21, .v (.tuple #[.agg #[vi ((entryOf r x5 now).level), vi ((entryOf r x5 now).turn), vi ((entryOf r x5 now).id), vi ((entryOf r x5 now).size)], .bool (entryOk r x5 now)]))] (HP [0, 0] 8 [(29, .v (.agg #[vi ((entryOf r x5 now).level), vi ((entryOf r x5 now).turn), vi ((entryOf r x5 now).id), vi ((entryOf r x5 now).size)]))] (HP [0, 0] 9 [(30, B (entryOk r x5 now))] (HALL [10] (by kernel_rfl) (by decide) (UO [(11, .p 0 0)] [(63, [vi 0, vi 0, vi 0, vi 0])] (HKEEP (js := [0, 0]) rfl (HALL [11] (by kernel_rfl) (by decide) (UO [] [(63, [vi ((entryOf r x5 now).level), vi ((entryOf r x5 now).turn), vi ((entryOf r x5 now).id), vi ((entryOf r x5 now).size)])] (HKEEP (js := [0, 0]) rfl (HP [0, 0] 12 [(12, B (entryOk r x5 now))] (HEND (by kernel_rfl) (IMPORT (L0 := [(26, [.slice r_seats_a r.seats.length r_seats_c, vi r.tiers, vi r.room, vi r.size, vi r.period, vi r.window, vi r.rest, vi r.tries, vi r.crew])]) (L1 := [(63, [vi ((entryOf r x5 now).level), vi ((entryOf r x5 now).turn), vi ((entryOf r x5 now).id), vi ((entryOf r x5 now).size)])]) [b4] rfl [0] _ rfl [(1, .v (.slice list_a list.length list_c)), (2, I cabin), (3, I now), (4, .p 0 0), (9, .v (.slice oa out.length oc)), (10, I z), (11, .p 1 0), (12, B (entryOk r x5 now))] (by kernel_rfl) (by kernel_rfl) (NEXT (SEQ (RG (UU 2 [(32, B (entryOk r x5 now))] (SP 32 (entryOk r x5 now) (fun bh7 => ?_) (fun bh7 => ?_))))))))))))))))))
   ·
    have h7 := bh7
    refine UU 2 [(33, .v (.slice list_a list.length list_c)), (34, I z)] (OPC (IX 27 (.tmp 33) (.tmp 34) 35 0 list_a list.length list_c .i64 z 46 10 (Rd.some hlist (by omega)) (by omega) (by omega) (UU 1 [(36, .e list_a (z.toNat * 10) 1)] (OPC (LE 3 (.tmp 36) 37 3 list_a (z.toNat * 10) 1 (partyE x5) (vi x5.cabin) (fun w hw => (hlist.fr hw.fr).flat hx6) (UU 3 [(40, B (x5.cabin == cabin))] (NI (x5.cabin == cabin) (fun bh8 => ?_) (fun bh8 => ?_))))))))
    ·
     have h8 := eq_of_beq bh8
     refine RG (UU 2 [(41, .v (.slice oa out.length oc)), (42, .v (.agg #[vi ((entryOf r x5 now).level), vi ((entryOf r x5 now).turn), vi ((entryOf r x5 now).id), vi ((entryOf r x5 now).size)]))] (FACT (out.length ≤ oc) (fun w hw => SlO.capE (hw.own 0 rfl)) (fun hcap9 => (OPC (CA 108 #[.slice oa out.length oc, .agg #[vi ((entryOf r x5 now).level), vi ((entryOf r x5 now).turn), vi ((entryOf r x5 now).id), vi ((entryOf r x5 now).size)]] (some 43) (⟨HH, fun p => .slice p.1 ((qIns out (entryOf r x5 now)).length) p.2, fun p => [slA 63 entryL (.slice p.1 (qIns out (entryOf r x5 now)).length p.2) (qIns out (entryOf r x5 now))]⟩) (fun w hw => sl7Put_c w out oa oc (hw.rdO 0 rfl) (entryOf r x5 now) (by first | assumption | omega | (dsimp only; omega) | (simp only [List.length_append, List.length_cons, List.length_nil] at *; omega)) (by first | assumption | omega | (dsimp only; omega) | (simp only [List.length_append, List.length_cons, List.length_nil] at *; omega))) ?_)))))
     rintro ⟨a10, c11⟩
     have hr12 := qIns_len out (entryOf r x5 now)
     refine UU 1 [(9, .v (.slice a10 ((qIns out (entryOf r x5 now)).length) c11))] (ENDOPS (OUTN (NEXT (RG (UU 3 [(10, I (wr (z - 1)))] (ENDOPS (BK (wr (z - 1), a10, c11, qIns out (entryOf r x5 now)) [1, 2, 3, 4, 9, 10] 1 [1] ⟨by dsimp only; omega, by dsimp only; omega, by dsimp only; omega, by have hdd := drop_get hx6; have e1 : (wr (z - 1) + 1).toNat = z.toNat := (by omega); have e2 : (z + 1).toNat = z.toNat + 1 := (by omega); dsimp only; rw [e1, hdd]; rw [e2] at hoq; simp_all [queueOf]⟩ (by dsimp only; omega))))))))
    ·
     have h8 := ne_of_beq_false bh8
     refine SKIP (OUTN (NEXT (RG (UU 3 [(10, I (wr (z - 1)))] (ENDOPS (BK (wr (z - 1), oa, oc, out) [1, 2, 3, 4, 9, 10] 1 [0] ⟨by dsimp only; omega, by dsimp only; omega, by dsimp only; omega, by have hdd := drop_get hx6; have e1 : (wr (z - 1) + 1).toNat = z.toNat := (by omega); have e2 : (z + 1).toNat = z.toNat + 1 := (by omega); dsimp only; rw [e1, hdd]; rw [e2] at hoq; simp_all [queueOf]⟩ (by dsimp only; omega)))))))
   ·
    have h7 := bh7
    refine UU 8 [(40, B false)] (ENDOPS (NEXT (IFF (by kernel_rfl) (SKIP (OUTN (NEXT (RG (UU 3 [(10, I (wr (z - 1)))] (ENDOPS (BK (wr (z - 1), oa, oc, out) [1, 2, 3, 4, 9, 10] 1 [0] ⟨by dsimp only; omega, by dsimp only; omega, by dsimp only; omega, by have hdd := drop_get hx6; have e1 : (wr (z - 1) + 1).toNat = z.toNat := (by omega); have e2 : (z + 1).toNat = z.toNat + 1 := (by omega); dsimp only; rw [e1, hdd]; rw [e2] at hoq; simp_all [queueOf]⟩ (by dsimp only; omega)))))))))))
  ·
   refine UO [(11, .p 0 0)] [(63, [vi 0, vi 0, vi 0, vi 0])] (HKEEP (js := [0, 0]) rfl (HALL [6] (by kernel_rfl) (by decide) (CA 107 #[.agg #[.slice r_seats_a r.seats.length r_seats_c, vi r.tiers, vi r.room, vi r.size, vi r.period, vi r.window, vi r.rest, vi r.tries, vi r.crew], .agg #[vi x5.id, vi x5.cabin, vi x5.from', vi x5.size, vi x5.tier, vi x5.since, vi x5.turn, vi x5.state, vi x5.until', vi x5.asked], vi now] (some 28) (RV (.tuple #[.agg #[vi ((entryOf r x5 now).level), vi ((entryOf r x5 now).turn), vi ((entryOf r x5 now).id), vi ((entryOf r x5 now).size)], .bool (entryOk r x5 now)])) (fun w hw => sEntryOf_c w r r_seats_a r_seats_c (hr_seats.fr hw.fr) x5 now) ?_)))
   rintro ⟨⟩
   refine HKEEP (js := [0, 0]) rfl (HP [0, 0] 7 [(21, .v (.tuple #[.agg #[vi ((entryOf r x5 now).level), vi ((entryOf r x5 now).turn), vi ((entryOf r x5 now).id), vi ((entryOf r x5 now).size)], .bool (entryOk r x5 now)]))] (HP [0, 0] 8 [(29, .v (.agg #[vi ((entryOf r x5 now).level), vi ((entryOf r x5 now).turn), vi ((entryOf r x5 now).id), vi ((entryOf r x5 now).size)]))] (HP [0, 0] 9 [(30, B (entryOk r x5 now))] (HALL [11] (by kernel_rfl) (by decide) (UO [] [(63, [vi ((entryOf r x5 now).level), vi ((entryOf r x5 now).turn), vi ((entryOf r x5 now).id), vi ((entryOf r x5 now).size)])] (HKEEP (js := [0, 0]) rfl (HP [0, 0] 12 [(12, B (entryOk r x5 now))] (HEND (by kernel_rfl) (IMPORT (L0 := [(26, [.slice r_seats_a r.seats.length r_seats_c, vi r.tiers, vi r.room, vi r.size, vi r.period, vi r.window, vi r.rest, vi r.tries, vi r.crew])]) (L1 := [(63, [vi ((entryOf r x5 now).level), vi ((entryOf r x5 now).turn), vi ((entryOf r x5 now).id), vi ((entryOf r x5 now).size)])]) [b4] rfl [0] _ rfl [(1, .v (.slice list_a list.length list_c)), (2, I cabin), (3, I now), (4, .p 0 0), (9, .v (.slice oa out.length oc)), (10, I z), (11, .p 1 0), (12, B (entryOk r x5 now))] (by kernel_rfl) (by kernel_rfl) (NEXT (SEQ (RG (UU 2 [(32, B (entryOk r x5 now))] (SP 32 (entryOk r x5 now) (fun bh13 => ?_) (fun bh13 => ?_)))))))))))))))
   ·
    have h13 := bh13
    refine UU 2 [(33, .v (.slice list_a list.length list_c)), (34, I z)] (OPC (IX 27 (.tmp 33) (.tmp 34) 35 0 list_a list.length list_c .i64 z 46 10 (Rd.some hlist (by omega)) (by omega) (by omega) (UU 1 [(36, .e list_a (z.toNat * 10) 1)] (OPC (LE 3 (.tmp 36) 37 3 list_a (z.toNat * 10) 1 (partyE x5) (vi x5.cabin) (fun w hw => (hlist.fr hw.fr).flat hx6) (UU 3 [(40, B (x5.cabin == cabin))] (NI (x5.cabin == cabin) (fun bh14 => ?_) (fun bh14 => ?_))))))))
    ·
     have h14 := eq_of_beq bh14
     refine RG (UU 2 [(41, .v (.slice oa out.length oc)), (42, .v (.agg #[vi ((entryOf r x5 now).level), vi ((entryOf r x5 now).turn), vi ((entryOf r x5 now).id), vi ((entryOf r x5 now).size)]))] (FACT (out.length ≤ oc) (fun w hw => SlO.capE (hw.own 0 rfl)) (fun hcap15 => (OPC (CA 108 #[.slice oa out.length oc, .agg #[vi ((entryOf r x5 now).level), vi ((entryOf r x5 now).turn), vi ((entryOf r x5 now).id), vi ((entryOf r x5 now).size)]] (some 43) (⟨HH, fun p => .slice p.1 ((qIns out (entryOf r x5 now)).length) p.2, fun p => [slA 63 entryL (.slice p.1 (qIns out (entryOf r x5 now)).length p.2) (qIns out (entryOf r x5 now))]⟩) (fun w hw => sl7Put_c w out oa oc (hw.rdO 0 rfl) (entryOf r x5 now) (by first | assumption | omega | (dsimp only; omega) | (simp only [List.length_append, List.length_cons, List.length_nil] at *; omega)) (by first | assumption | omega | (dsimp only; omega) | (simp only [List.length_append, List.length_cons, List.length_nil] at *; omega))) ?_)))))
     rintro ⟨a16, c17⟩
     have hr18 := qIns_len out (entryOf r x5 now)
     refine UU 1 [(9, .v (.slice a16 ((qIns out (entryOf r x5 now)).length) c17))] (ENDOPS (OUTN (NEXT (RG (UU 3 [(10, I (wr (z - 1)))] (ENDOPS (BK (wr (z - 1), a16, c17, qIns out (entryOf r x5 now)) [1, 2, 3, 4, 9, 10] 1 [1] ⟨by dsimp only; omega, by dsimp only; omega, by dsimp only; omega, by have hdd := drop_get hx6; have e1 : (wr (z - 1) + 1).toNat = z.toNat := (by omega); have e2 : (z + 1).toNat = z.toNat + 1 := (by omega); dsimp only; rw [e1, hdd]; rw [e2] at hoq; simp_all [queueOf]⟩ (by dsimp only; omega))))))))
    ·
     have h14 := ne_of_beq_false bh14
     refine SKIP (OUTN (NEXT (RG (UU 3 [(10, I (wr (z - 1)))] (ENDOPS (BK (wr (z - 1), oa, oc, out) [1, 2, 3, 4, 9, 10] 1 [0] ⟨by dsimp only; omega, by dsimp only; omega, by dsimp only; omega, by have hdd := drop_get hx6; have e1 : (wr (z - 1) + 1).toNat = z.toNat := (by omega); have e2 : (z + 1).toNat = z.toNat + 1 := (by omega); dsimp only; rw [e1, hdd]; rw [e2] at hoq; simp_all [queueOf]⟩ (by dsimp only; omega)))))))
   ·
    have h13 := bh13
    refine UU 8 [(40, B false)] (ENDOPS (NEXT (IFF (by kernel_rfl) (SKIP (OUTN (NEXT (RG (UU 3 [(10, I (wr (z - 1)))] (ENDOPS (BK (wr (z - 1), oa, oc, out) [1, 2, 3, 4, 9, 10] 1 [0] ⟨by dsimp only; omega, by dsimp only; omega, by dsimp only; omega, by have hdd := drop_get hx6; have e1 : (wr (z - 1) + 1).toNat = z.toNat := (by omega); have e2 : (z + 1).toNat = z.toNat + 1 := (by omega); dsimp only; rw [e1, hdd]; rw [e2] at hoq; simp_all [queueOf]⟩ (by dsimp only; omega)))))))))))
 ·
  have h3 := of_decide_eq_false bh3
  refine EXIT (PASS trivial (PASS trivial (OUT (NEXT (SEQ (RG (UU 2 [(8, .v (.slice oa out.length oc))] (ENDOPS (NEXT (RET ?_))))))))))
  have efin : queueOf r list cabin now = out := by rw [hoq, show (z + 1).toNat = 0 by omega]; rfl
  refine FIN (.slice oa out.length oc) (by kernel_rfl) (oa, oc) ?_ [0] ?_
  · (rw [efin] <;> rfl)
  · (rw [efin] <;> rfl)

theorem sPinsIn_c (W : World) (list : List Party) (list_a : Option Addr) (list_c : Nat) (hlist : Rd partyL W list_a list) (cabin : Int) (hb : list.length ≤ 1048576) : Spec Tryz.prog W [] 82 #[.slice list_a list.length list_c, vi cabin] (⟨HH, fun p => .slice p.1 ((pinsGo list cabin []).length) p.2, fun p => [slA 114 pinL (.slice p.1 (pinsGo list cabin []).length p.2) (pinsGo list cabin [])]⟩) := by
 refine ENTER0 (N := 43) (vs := [.slice list_a list.length list_c, vi cabin]) Tryz.func82 rfl rfl (NL rfl) ?_
 have hlist_len := hlist.len
 refine SEQ (RG (UU 1 [] (NR (OPC (BUILDS 99 0 #[] 7 99 (by kernel_rfl) (NL rfl) 114 [] (by kernel_rfl) pinL [] rfl (by simp only [maxLen]; omega) [] [] _ rfl (flatRep rfl) (fun a1 ha2 => (UU 1 [(5, .v (.slice a1 0 0))] (ENDOPS (NEXT (SEQ (SEQ (RG (UU 1 [(6, I 0)] (ENDOPS (NEXT (BLOCK (LOOP (ι := Nat × (List Party) × (Option Addr) × Nat × (List Pin)) (fun j => [(0, .v (.slice list_a list.length list_c)), (1, I cabin), (5, .v (.slice j.2.2.1 j.2.2.2.2.length j.2.2.2.1)), (6, I (j.1 : Int))]) (fun j => []) (fun j => [slA 114 pinL (.slice j.2.2.1 j.2.2.2.2.length j.2.2.2.1) j.2.2.2.2]) (fun j => j.1 + j.2.1.length = list.length ∧ list.drop j.1 = j.2.1 ∧ j.2.2.2.2.length ≤ j.1 ∧ pinsGo list cabin [] = pinsGo j.2.1 cabin j.2.2.2.2) (fun j => j.2.1.length) (0, list, a1, 0, []) [0, 1, 5, 6] ⟨by simp, rfl, by simp, rfl⟩ (by kernel_rfl) rfl rfl ?_)))))))))))))))))
 rintro ⟨k, ys, oa, oc, out⟩ ⟨hk, hd, hv0, hv1⟩
 try dsimp only at hk hd hv0 hv1
 refine SEQ (SEQ (RG (UU 4 [(11, B (decide ((k : Int) < (list.length : Int))))] (NI (decide ((k : Int) < (list.length : Int))) (fun bh3 => ?_) (fun bh3 => ?_)))))
 ·
  have h3 := of_decide_eq_true bh3
  obtain ⟨y4, ys5, rfl, hx_y4, hd_y4, hl_y4⟩ := drop_cons hd hk (by omega)
  refine SKIP (NEXT (SEQ (BLOCK (SEQ (RG (UU 2 [(14, .v (.slice list_a list.length list_c)), (15, I (k : Int))] (OPC (IX 27 (.tmp 14) (.tmp 15) 16 0 list_a list.length list_c .i64 (k : Int) 46 10 (Rd.some hlist (by omega)) (by omega) (by omega) (UU 1 [(17, .e list_a (k * 10) 7)] (OPC (LE 3 (.tmp 17) 18 3 list_a (k * 10) 7 (partyE y4) (vi y4.state) (fun w hw => (hlist.fr hw.fr).flat hx_y4) (UU 2 [(20, B (y4.state == 2))] (SP 20 (y4.state == 2) (fun bh6 => ?_) (fun bh6 => ?_))))))))))))))
  ·
   have h6 := eq_of_beq bh6
   refine UU 2 [(21, .v (.slice list_a list.length list_c)), (22, I (k : Int))] (OPC (IX 27 (.tmp 21) (.tmp 22) 23 0 list_a list.length list_c .i64 (k : Int) 46 10 (Rd.some hlist (by omega)) (by omega) (by omega) (UU 1 [(24, .e list_a (k * 10) 1)] (OPC (LE 3 (.tmp 24) 25 3 list_a (k * 10) 1 (partyE y4) (vi y4.cabin) (fun w hw => (hlist.fr hw.fr).flat hx_y4) (UU 3 [(28, B (y4.cabin == cabin))] (NI (y4.cabin == cabin) (fun bh7 => ?_) (fun bh7 => ?_))))))))
   ·
    have h7 := eq_of_beq bh7
    refine REGIONH (by kernel_rfl) 14 rfl [slA 114 pinL (.slice oa out.length oc) out] (HP [0] 0 [(29, .v (.slice oa out.length oc))] (HP [0] 1 [(30, .v (.slice list_a list.length list_c))] (HP [0] 2 [(31, I (k : Int))] (HINDEX (i := 3) (js := [0])  27 (.tmp 30) (.tmp 31) 32 0 (by kernel_rfl) (NL rfl) list_a list.length list_c .i64 (k : Int) 46 10 (by kernel_rfl) (by kernel_rfl) (by kernel_rfl) (by kernel_rfl) (Rd.some hlist (by omega)) (by omega) (by omega) (by kernel_rfl) rfl (HP [0] 4 [(33, .e list_a (k * 10) 8)] (HLOADE (i := 5) (js := [0])  3 (.tmp 33) 34 3 (by kernel_rfl) (NL rfl) list_a (k * 10) 8 (partyE y4) (vi y4.until') (by kernel_rfl) (fun w hw => (hlist.fr hw.fr).flat hx_y4) (by kernel_rfl) (by kernel_rfl) rfl (HP [0] 6 [(35, .v (.slice list_a list.length list_c))] (HP [0] 7 [(36, I (k : Int))] (HINDEX (i := 8) (js := [0])  27 (.tmp 35) (.tmp 36) 37 0 (by kernel_rfl) (NL rfl) list_a list.length list_c .i64 (k : Int) 46 10 (by kernel_rfl) (by kernel_rfl) (by kernel_rfl) (by kernel_rfl) (Rd.some hlist (by omega)) (by omega) (by omega) (by kernel_rfl) rfl (HP [0] 9 [(38, .e list_a (k * 10) 0)] (HLOADE (i := 10) (js := [0])  3 (.tmp 38) 39 3 (by kernel_rfl) (NL rfl) list_a (k * 10) 0 (partyE y4) (vi y4.id) (by kernel_rfl) (fun w hw => (hlist.fr hw.fr).flat hx_y4) (by kernel_rfl) (by kernel_rfl) rfl (HP [0] 11 [(40, .v (.agg #[vi y4.until', vi y4.id]))] (HALL [12] (by kernel_rfl) (by decide) ?_)))))))))))))
    refine FACT (out.length ≤ oc) (fun w hw => SlO.capE (hw.own 0 rfl)) (fun hcap8 => (CA 110 #[.slice oa out.length oc, .agg #[vi y4.until', vi y4.id]] (some 41) (⟨HH, fun p => .slice p.1 ((pIns out (⟨y4.until', y4.id⟩ : Pin)).length) p.2, fun p => [slA 114 pinL (.slice p.1 (pIns out (⟨y4.until', y4.id⟩ : Pin)).length p.2) (pIns out (⟨y4.until', y4.id⟩ : Pin))]⟩) (fun w hw => sl9Put_c w out oa oc (hw.rdO 0 rfl) (⟨y4.until', y4.id⟩ : Pin) (by first | assumption | omega | (dsimp only; omega) | (simp only [List.length_append, List.length_cons, List.length_nil] at *; omega)) (by first | assumption | omega | (dsimp only; omega) | (simp only [List.length_append, List.length_cons, List.length_nil] at *; omega))) ?_))
    rintro ⟨a9, c10⟩
    have hr11 := pIns_len out (⟨y4.until', y4.id⟩ : Pin)
    refine HKEEP (js := [0]) rfl (HP [0] 13 [(5, .v (.slice a9 ((pIns out (⟨y4.until', y4.id⟩ : Pin)).length) c10))] (HEND (by kernel_rfl) (OUTN (NEXT (RG (UU 2 [(13, I (wr ((k : Int) + 1)))] (CS 13 (vi (wr ((k : Int) + 1))) (vi ((k + 1 : Nat) : Int)) (vi_cast (by omega) (by omega)) (UU 1 [(6, I ((k + 1 : Nat) : Int))] (ENDOPS (BK (k + 1, ys5, a9, c10, pIns out (⟨y4.until', y4.id⟩ : Pin)) [0, 1, 5, 6] 0 [1] ⟨hl_y4, hd_y4, (by first | omega | (dsimp only; omega) | (simp only [pIns_len]; omega)), (hv1.trans (by simp_all [pinsGo]))⟩ (by simp)))))))))))
   ·
    have h7 := ne_of_beq_false bh7
    refine SKIP (OUTN (NEXT (RG (UU 2 [(13, I (wr ((k : Int) + 1)))] (CS 13 (vi (wr ((k : Int) + 1))) (vi ((k + 1 : Nat) : Int)) (vi_cast (by omega) (by omega)) (UU 1 [(6, I ((k + 1 : Nat) : Int))] (ENDOPS (BK (k + 1, ys5, oa, oc, out) [0, 1, 5, 6] 0 [0] ⟨hl_y4, hd_y4, (by first | omega | (dsimp only; omega) | (simp only [pIns_len]; omega)), (hv1.trans (by simp_all [pinsGo]))⟩ (by simp)))))))))
  ·
   have h6 := ne_of_beq_false bh6
   refine UU 8 [(28, B false)] (ENDOPS (NEXT (IFF (by kernel_rfl) (SKIP (OUTN (NEXT (RG (UU 2 [(13, I (wr ((k : Int) + 1)))] (CS 13 (vi (wr ((k : Int) + 1))) (vi ((k + 1 : Nat) : Int)) (vi_cast (by omega) (by omega)) (UU 1 [(6, I ((k + 1 : Nat) : Int))] (ENDOPS (BK (k + 1, ys5, oa, oc, out) [0, 1, 5, 6] 0 [0] ⟨hl_y4, hd_y4, (by first | omega | (dsimp only; omega) | (simp only [pIns_len]; omega)), (hv1.trans (by simp_all [pinsGo]))⟩ (by simp)))))))))))))
 ·
  have h3 := of_decide_eq_false bh3
  obtain rfl := drop_nil hk (by omega)
  refine EXIT (PASS trivial (PASS trivial (OUT (NEXT (SEQ (RG (UU 2 [(4, .v (.slice oa out.length oc))] (ENDOPS (NEXT (RET ?_))))))))))
  have efin : pinsGo list cabin [] = out := by rw [hv1]; rfl
  refine FIN (.slice oa out.length oc) (by kernel_rfl) (oa, oc) ?_ [0] ?_
  · (rw [efin] <;> rfl)
  · (rw [efin] <;> rfl)

theorem sl9All_c (W : World) (wh : Wheel) (wh_spoke_a : Option Addr) (wh_spoke_c : Nat) (hwh_spoke : Rd (sl 114 pinL) W wh_spoke_a wh.spoke) (hb : wh.spoke.flatten.length ≤ 4194304) : Spec Tryz.prog W [] 109 #[.agg #[.slice wh_spoke_a wh.spoke.length wh_spoke_c]] (⟨HH, fun p => .slice p.1 wh.spoke.flatten.length p.2, fun p => [slA 114 pinL (.slice p.1 wh.spoke.flatten.length p.2) wh.spoke.flatten]⟩) := by
 refine ENTER0 (N := 21) (vs := [.agg #[.slice wh_spoke_a wh.spoke.length wh_spoke_c]]) Tryz.func109 rfl rfl (NL rfl) ?_
 have hwh_spoke_len := hwh_spoke.len
 refine SEQ (RG (UL 2 [(1, .p 0 0)] [(58, [.slice wh_spoke_a wh.spoke.length wh_spoke_c])] (NR (OPC (BUILDS 99 0 #[] 5 99 (by kernel_rfl) (NL rfl) 114 [] (by kernel_rfl) pinL [] rfl (by simp only [maxLen]; omega) [] [] _ rfl (flatRep rfl) (fun a1 ha2 => (UU 1 [(3, .v (.slice a1 0 0))] (ENDOPS (NEXT (SEQ (SEQ (RG (UU 1 [(4, I 0)] (ENDOPS (NEXT (BLOCK (LOOP (ι := Nat × (List (List Pin)) × (Option Addr) × Nat × (List Pin)) (fun j => [(1, .p 0 0), (3, .v (.slice j.2.2.1 j.2.2.2.2.length j.2.2.2.1)), (4, I (j.1 : Int))]) (fun j => [(58, [.slice wh_spoke_a wh.spoke.length wh_spoke_c])]) (fun j => [slA 114 pinL (.slice j.2.2.1 j.2.2.2.2.length j.2.2.2.1) j.2.2.2.2]) (fun j => j.1 + j.2.1.length = wh.spoke.length ∧ wh.spoke.drop j.1 = j.2.1 ∧ j.2.2.2.2 ++ j.2.1.flatten = wh.spoke.flatten ∧ j.2.2.2.2.length + j.2.1.flatten.length = wh.spoke.flatten.length) (fun j => j.2.1.length) (0, wh.spoke, a1, 0, []) [1, 3, 4] ⟨by simp, rfl, rfl, by simp⟩ (by kernel_rfl) rfl rfl ?_)))))))))))))))))
 rintro ⟨k, ys, oa, oc, out⟩ ⟨hk, hd, hv0, hv1⟩
 try dsimp only at hk hd hv0 hv1
 refine SEQ (SEQ (RG (UU 5 [(10, B (decide ((k : Int) < (wh.spoke.length : Int))))] (NI (decide ((k : Int) < (wh.spoke.length : Int))) (fun bh3 => ?_) (fun bh3 => ?_)))))
 ·
  have h3 := of_decide_eq_true bh3
  obtain ⟨y4, ys5, rfl, hx_y4, hd_y4, hl_y4⟩ := drop_cons hd hk (by omega)
  have hfy := hv1; simp only [List.flatten_cons, List.length_append] at hfy
  refine SKIP (NEXT (SEQ (BLOCK (RG (UU 4 [(13, .v (.slice oa out.length oc)), (15, .v (.slice wh_spoke_a wh.spoke.length wh_spoke_c)), (16, I (k : Int))] ?_)))))
  obtain ⟨a6, c7, hel9, hi8, hi8_cap⟩ := sl_view hwh_spoke hx_y4
  have hi8_len := hi8.len
  refine OPC (IX 56 (.tmp 15) (.tmp 16) 17 0 wh_spoke_a wh.spoke.length wh_spoke_c .i64 (k : Int) 99 1 (Rd.some hwh_spoke (by omega)) (by omega) (by omega) (OPC (LE 99 (.tmp 17) 18 99 wh_spoke_a (k * 1) 0 ([.slice a6 y4.length c7]) (.slice a6 y4.length c7) (fun w hw => hel9.fr hw.fr) (OPC (APPENDR 99 (.tmp 13) (.tmp 18) 19 99 (by kernel_rfl) (NL rfl) (.slice oa out.length oc) a6 y4.length c7 (by kernel_rfl) (by kernel_rfl) 114 (by kernel_rfl) (.agg #[vi 0, vi 0]) 16 (by kernel_rfl) rfl (by decide) 0 out y4 _ rfl rfl (fun w hw => (hi8.fr hw.fr)) (by first | omega | (simp only [List.length_append, List.length_cons, List.length_nil, List.length_take, List.length_drop] at *; omega)) (by simp only [maxLen]; first | omega | (simp only [List.length_append, List.length_cons, List.length_nil, List.length_take, List.length_drop] at *; omega)) (fun a10 c11 hn12 => (UU 1 [(3, .v (.slice a10 ((out ++ y4).length) c11))] (ENDOPS (OUTN (NEXT (RG (UU 2 [(12, I (wr ((k : Int) + 1)))] (CS 12 (vi (wr ((k : Int) + 1))) (vi ((k + 1 : Nat) : Int)) (vi_cast (by omega) (by omega)) (UU 1 [(4, I ((k + 1 : Nat) : Int))] (ENDOPS (BK (k + 1, ys5, a10, c11, out ++ y4) [1, 3, 4] 1 [0] ⟨hl_y4, hd_y4, (by simpa using hv0), (by simp only [List.length_append] at *; omega)⟩ (by simp)))))))))))))))))
 ·
  have h3 := of_decide_eq_false bh3
  obtain rfl := drop_nil hk (by omega)
  refine EXIT (PASS trivial (PASS trivial (OUT (NEXT (SEQ (RG (UU 2 [(2, .v (.slice oa out.length oc))] (ENDOPS (NEXT (RET ?_))))))))))
  have efin : wh.spoke.flatten = out := by simpa using hv0.symm
  refine FIN (.slice oa out.length oc) (by kernel_rfl) (oa, oc) ?_ [0] ?_
  · (rw [efin] <;> rfl)
  · (rw [efin] <;> rfl)

theorem sWheelOk_c (W : World) (wh : Wheel) (wh_spoke_a : Option Addr) (wh_spoke_c : Nat) (hwh_spoke : Rd (sl 114 pinL) W wh_spoke_a wh.spoke) (hb : wh.spoke.flatten.length ≤ 4194304) : Spec Tryz.prog W [] 106 #[.agg #[.slice wh_spoke_a wh.spoke.length wh_spoke_c]] (RV (.bool (wheelOk wh))) := by
 refine ENTER0 (N := 111) (vs := [.agg #[.slice wh_spoke_a wh.spoke.length wh_spoke_c]]) Tryz.func106 rfl rfl (NL rfl) ?_
 have hwh_spoke_len := hwh_spoke.len
 refine SEQ (RG (UL 2 [(1, .p 0 0)] [(58, [.slice wh_spoke_a wh.spoke.length wh_spoke_c])] (NR (UU 1 [(8, .v (.agg #[.slice wh_spoke_a wh.spoke.length wh_spoke_c]))] (OPC (CA 109 #[.agg #[.slice wh_spoke_a wh.spoke.length wh_spoke_c]] (some 9) (⟨HH, fun p => .slice p.1 wh.spoke.flatten.length p.2, fun p => [slA 114 pinL (.slice p.1 wh.spoke.flatten.length p.2) wh.spoke.flatten]⟩) (fun w hw => sl9All_c w wh wh_spoke_a wh_spoke_c (hwh_spoke.fr hw.fr) (by first | assumption | omega | (dsimp only; omega) | (simp only [List.length_append, List.length_cons, List.length_nil] at *; omega))) ?_))))))
 rintro ⟨a1, c2⟩
 refine UU 1 [(3, .v (.slice a1 wh.spoke.flatten.length c2))] (ENDOPS (NEXT (SEQ (SEQ (RG (UU 5 [(14, B ((wh.spoke.length : Int) != 9))] (SP 14 ((wh.spoke.length : Int) != 9) (fun bh3 => ?_) (fun bh3 => ?_))))))))
 ·
  have h3 := bne_iff_ne.1 bh3
  refine UU 4 [(18, B true)] (ENDOPS (NEXT (IFT (by kernel_rfl) (SEQ (RG (UU 1 [(2, B false)] (ENDOPS (NEXT (RF rfl (.bool false) () [] ?_ ?_)))))))))
  · (first | (exact congrArg Value.bool (wheelOk_t ⟨by omega, by omega, fun z hz => hvp z (by rw [hkk, List.take_length]; exact hz), ids_nodup (by rw [hkk] at hvi; exact hvi), fun i l hl => hv0 i l (by have := (List.getElem?_eq_some_iff.1 hl).1; simp only [List.length_nil] at hk; omega) hl⟩).symm) | (refine congrArg Value.bool (wheelOk_f fun hw9 => ?_).symm; obtain ⟨w1, w2, w3, w4, w5⟩ := hw9; first | omega))
  · rfl
 ·
  have h3 := bneF bh3
  refine UU 4 [(18, B (decide ((wh.spoke.flatten.length : Int) > 10)))] (NI (decide ((wh.spoke.flatten.length : Int) > 10)) (fun bh4 => ?_) (fun bh4 => ?_))
  ·
   have h4 := of_decide_eq_true bh4
   refine SEQ (RG (UU 1 [(2, B false)] (ENDOPS (NEXT (RF rfl (.bool false) () [] ?_ ?_)))))
   · (first | (exact congrArg Value.bool (wheelOk_t ⟨by omega, by omega, fun z hz => hvp z (by rw [hkk, List.take_length]; exact hz), ids_nodup (by rw [hkk] at hvi; exact hvi), fun i l hl => hv0 i l (by have := (List.getElem?_eq_some_iff.1 hl).1; simp only [List.length_nil] at hk; omega) hl⟩).symm) | (refine congrArg Value.bool (wheelOk_f fun hw9 => ?_).symm; obtain ⟨w1, w2, w3, w4, w5⟩ := hw9; first | omega))
   · rfl
  ·
   have h4 := of_decide_eq_false bh4
   refine SKIP (NEXT (SEQ (SEQ (RG (UU 1 [(4, I 0)] (ENDOPS (NEXT (BLOCK (LOOP (ι := Nat × (List Pin)) (fun j => [(1, .p 0 0), (3, .v (.slice a1 wh.spoke.flatten.length c2)), (4, I (j.1 : Int))]) (fun j => [(58, [.slice wh_spoke_a wh.spoke.length wh_spoke_c])]) (fun j => [slA 114 pinL (.slice a1 wh.spoke.flatten.length c2) wh.spoke.flatten]) (fun j => j.1 + j.2.length = wh.spoke.flatten.length ∧ wh.spoke.flatten.drop j.1 = j.2 ∧ (∀ x ∈ wh.spoke.flatten.take j.1, PinR x) ∧ Ids wh.spoke.flatten j.1) (fun j => j.2.length) (0, wh.spoke.flatten) [1, 3, 4] ⟨by simp, rfl, by simp, ids_zero _⟩ (by kernel_rfl) rfl rfl ?_)))))))))
   rintro ⟨k, ys⟩ ⟨hk, hd, hv0, hv1⟩
   try dsimp only at hk hd hv0 hv1
   refine SEQ (SEQ (RG (UU 4 [(22, B (decide ((k : Int) < (wh.spoke.flatten.length : Int))))] (NI (decide ((k : Int) < (wh.spoke.flatten.length : Int))) (fun bh5 => ?_) (fun bh5 => ?_)))))
   ·
    have h5 := of_decide_eq_true bh5
    obtain ⟨y6, ys7, rfl, hx_y6, hd_y6, hl_y6⟩ := drop_cons hd hk (by omega)
    refine SKIP (NEXT (SEQ (BLOCK (SEQ (SEQ (RG (UU 2 [(25, .v (.slice a1 wh.spoke.flatten.length c2)), (26, I (k : Int))] (FACT (a1.isSome = true) (fun w hw => SlO.isS (hw.own 0 rfl) (by first | omega | (dsimp only; omega))) (fun hs8 => (OPC (IX 99 (.tmp 25) (.tmp 26) 27 0 a1 wh.spoke.flatten.length c2 .i64 (k : Int) 114 2 hs8 (by omega) (by omega) (UU 1 [(28, .e a1 (k * 2) 0)] (OPC (LE 3 (.tmp 28) 29 3 a1 (k * 2) 0 (pinE y6) (vi y6.at') (fun w hw => (hw.rdO 0 rfl).flat hx_y6) (OPC (CA 37 #[vi y6.at', vi 1, vi 1000008] (some 30) (RV (.bool (inB y6.at' 1 1000008))) (fun w hw => l1In_c w y6.at' 1 1000008) ?_))))))))))))))))
    rintro ⟨⟩
    refine UU 2 [(32, B (!(inB y6.at' 1 1000008)))] (SP 32 (!(inB y6.at' 1 1000008)) (fun bh9 => ?_) (fun bh9 => ?_))
    ·
     have h9 := notT bh9
     refine UU 8 [(40, B true)] (ENDOPS (NEXT (IFT (by kernel_rfl) (SEQ (RG (UU 1 [(2, B false)] (ENDOPS (NEXT (RF rfl (.bool false) () [] ?_ ?_)))))))))
     · (first | (exact congrArg Value.bool (wheelOk_t ⟨by omega, by omega, fun z hz => hvp z (by rw [hkk, List.take_length]; exact hz), ids_nodup (by rw [hkk] at hvi; exact hvi), fun i l hl => hv0 i l (by have := (List.getElem?_eq_some_iff.1 hl).1; simp only [List.length_nil] at hk; omega) hl⟩).symm) | (refine congrArg Value.bool (wheelOk_f fun hw9 => ?_).symm; obtain ⟨w1, w2, w3, w4, w5⟩ := hw9; first | omega | (have w6 := w3 _ (List.mem_of_getElem? hx_y6); simp only [PinR] at w6; simp_all; done)))
     · rfl
    ·
     have h9 := notF bh9
     refine UU 2 [(33, .v (.slice a1 wh.spoke.flatten.length c2)), (34, I (k : Int))] (OPC (IX 99 (.tmp 33) (.tmp 34) 35 0 a1 wh.spoke.flatten.length c2 .i64 (k : Int) 114 2 hs8 (by omega) (by omega) (UU 1 [(36, .e a1 (k * 2) 1)] (OPC (LE 3 (.tmp 36) 37 3 a1 (k * 2) 1 (pinE y6) (vi y6.id) (fun w hw => (hw.rdO 0 rfl).flat hx_y6) (OPC (CA 37 #[vi y6.id, vi 1, vi 999] (some 38) (RV (.bool (inB y6.id 1 999))) (fun w hw => l1In_c w y6.id 1 999) ?_)))))))
     rintro ⟨⟩
     refine UU 2 [(40, B (!(inB y6.id 1 999)))] (NI (!(inB y6.id 1 999)) (fun bh10 => ?_) (fun bh10 => ?_))
     ·
      have h10 := notT bh10
      refine SEQ (RG (UU 1 [(2, B false)] (ENDOPS (NEXT (RF rfl (.bool false) () [] ?_ ?_)))))
      · (first | (exact congrArg Value.bool (wheelOk_t ⟨by omega, by omega, fun z hz => hvp z (by rw [hkk, List.take_length]; exact hz), ids_nodup (by rw [hkk] at hvi; exact hvi), fun i l hl => hv0 i l (by have := (List.getElem?_eq_some_iff.1 hl).1; simp only [List.length_nil] at hk; omega) hl⟩).symm) | (refine congrArg Value.bool (wheelOk_f fun hw9 => ?_).symm; obtain ⟨w1, w2, w3, w4, w5⟩ := hw9; first | omega | (have w6 := w3 _ (List.mem_of_getElem? hx_y6); simp only [PinR] at w6; simp_all; done)))
      · rfl
     ·
      have h10 := notF bh10
      refine SKIP (NEXT (SEQ (RG (UU 1 [(5, I 0)] (ENDOPS (NEXT (BLOCK (LOOP (ι := Nat) (fun j => [(1, .p 0 0), (3, .v (.slice a1 wh.spoke.flatten.length c2)), (4, I (k : Int)), (5, I (j : Int))]) (fun j => [(58, [.slice wh_spoke_a wh.spoke.length wh_spoke_c])]) (fun j => [slA 114 pinL (.slice a1 wh.spoke.flatten.length c2) wh.spoke.flatten]) (fun j => j ≤ k ∧ (∀ (i : Nat) (x : Pin), i < j → wh.spoke.flatten[i]? = some x → x.id ≠ y6.id)) (fun j => k - j) (0) [1, 3, 4, 5] ⟨by first | omega | (dsimp only; omega), fun i x hi => absurd hi (Nat.not_lt_zero _)⟩ (by kernel_rfl) rfl rfl ?_))))))))
      rintro j ⟨hj, hjn⟩
      try dsimp only at hj hjn
      refine SEQ (SEQ (RG (UU 3 [(43, B (decide ((j : Int) < (k : Int))))] (NI (decide ((j : Int) < (k : Int))) (fun bh11 => ?_) (fun bh11 => ?_)))))
      ·
       have h11 := of_decide_eq_true bh11
       refine SKIP (NEXT (SEQ (BLOCK (SEQ (REGIONQ (by kernel_rfl) (by kernel_rfl) (QU 2 [(46, .v (.slice a1 wh.spoke.flatten.length c2)), (47, I (j : Int))] ?_))))))
       obtain ⟨x12, hx13⟩ : ∃ y, wh.spoke.flatten[j]? = some y := ⟨_, List.getElem?_eq_getElem (by omega)⟩
       refine QIX 99 (.tmp 46) (.tmp 47) 48 0 a1 wh.spoke.flatten.length c2 .i64 (j : Int) 114 2 hs8 (by omega) (by omega) (QU 1 [(49, .e a1 (j * 2) 1)] (QLE 3 (.tmp 49) 50 3 a1 (j * 2) 1 (pinE x12) (vi x12.id) (fun w hw => (hw.rdO 0 rfl).flat hx13) (QU 2 [(51, .v (.slice a1 wh.spoke.flatten.length c2)), (52, I (k : Int))] (QIX 99 (.tmp 51) (.tmp 52) 53 0 a1 wh.spoke.flatten.length c2 .i64 (k : Int) 114 2 hs8 (by omega) (by omega) (QU 1 [(54, .e a1 (k * 2) 1)] (QLE 3 (.tmp 54) 55 3 a1 (k * 2) 1 (pinE y6) (vi y6.id) (fun w hw => (hw.rdO 0 rfl).flat hx_y6) (QU 1 [(56, B (x12.id == y6.id))] (QEND rfl (NEXT (IFK (x12.id == y6.id) (fun bh14 => ?_) (fun bh14 => ?_)))))))))))
       ·
        have h14 := eq_of_beq bh14
        refine SEQ (RG (UU 1 [(2, B false)] (ENDOPS (NEXT (RF rfl (.bool false) () [] ?_ ?_)))))
        · (first | (exact congrArg Value.bool (wheelOk_t ⟨by omega, by omega, fun z hz => hvp z (by rw [hkk, List.take_length]; exact hz), ids_nodup (by rw [hkk] at hvi; exact hvi), fun i l hl => hv0 i l (by have := (List.getElem?_eq_some_iff.1 hl).1; simp only [List.length_nil] at hk; omega) hl⟩).symm) | (refine congrArg Value.bool (wheelOk_f fun hw9 => ?_).symm; obtain ⟨w1, w2, w3, w4, w5⟩ := hw9; first | omega | exact absurd w4 (ids_no (i := j) (j := k) (by omega) hx13 hx_y6 (by assumption)) | (have w6 := (w5 k _ hx_y6 j _ hx13).1; omega) | (have w6 := w3 _ (List.mem_of_getElem? hx_y6); simp only [PinR] at w6; simp_all; done)))
        · rfl
       ·
        have h14 := ne_of_beq_false bh14
        refine SKIP (OUTN (NEXT (RG (UU 2 [(45, I (wr ((j : Int) + 1)))] (CS 45 (vi (wr ((j : Int) + 1))) (vi ((j + 1 : Nat) : Int)) (vi_cast (by omega) (by omega)) (UU 1 [(5, I ((j + 1 : Nat) : Int))] (ENDOPS (BK (j + 1) [1, 3, 4, 5] 1 [0] ⟨by first | omega | (dsimp only; omega), fun i x hi hx => by by_cases h9 : i = j; (subst h9; simp_all); exact hjn i x (by omega) hx⟩ (by first | omega | (dsimp only; omega))))))))))
      ·
       have h11 := of_decide_eq_false bh11
       refine EXIT (PASS trivial (PASS trivial (OUT (OUTN (NEXT (RG (UU 2 [(24, I (wr ((k : Int) + 1)))] (CS 24 (vi (wr ((k : Int) + 1))) (vi ((k + 1 : Nat) : Int)) (vi_cast (by omega) (by omega)) (UU 1 [(4, I ((k + 1 : Nat) : Int))] (ENDOPS (BK (k + 1, ys7) [1, 3, 4] 1 [0] ⟨hl_y6, hd_y6, (by rw [List.take_add_one, hx_y6]; intro x hx; rcases List.mem_append.1 hx with h | h; exact hv0 x h; simp at h; subst h; exact ⟨by assumption, by assumption⟩), (ids_succ hv1 hx_y6 (fun i x hi => hjn i x (by omega)))⟩ (by simp))))))))))))
   ·
    have h5 := of_decide_eq_false bh5
    obtain rfl := drop_nil hk (by omega)
    have hvp := hv0; have hvi := hv1; have hkk : k = wh.spoke.flatten.length := (by simpa using hk)
    refine EXIT (PASS trivial (PASS trivial (OUT (NEXT (SEQ (SEQ (RG (UU 1 [(6, I 0)] (ENDOPS (NEXT (BLOCK (LOOP (ι := Nat × (List (List Pin))) (fun j => [(1, .p 0 0), (6, I (j.1 : Int))]) (fun j => [(58, [.slice wh_spoke_a wh.spoke.length wh_spoke_c])]) (fun j => [slA 114 pinL (.slice a1 wh.spoke.flatten.length c2) wh.spoke.flatten]) (fun j => j.1 + j.2.length = wh.spoke.length ∧ wh.spoke.drop j.1 = j.2 ∧ (∀ (i : Nat) (l : List Pin), i < j.1 → wh.spoke[i]? = some l → SpokeP i l)) (fun j => j.2.length) (0, wh.spoke) [1, 6] ⟨by simp, rfl, fun i l hi => absurd hi (Nat.not_lt_zero _)⟩ (by kernel_rfl) rfl rfl ?_))))))))))))
    rintro ⟨k, ys⟩ ⟨hk, hd, hv0⟩
    try dsimp only at hk hd hv0
    refine SEQ (SEQ (RG (UU 5 [(61, B (decide ((k : Int) < (wh.spoke.length : Int))))] (NI (decide ((k : Int) < (wh.spoke.length : Int))) (fun bh15 => ?_) (fun bh15 => ?_)))))
    ·
     have h15 := of_decide_eq_true bh15
     obtain ⟨y16, ys17, rfl, hx_y16, hd_y16, hl_y16⟩ := drop_cons hd hk (by omega)
     refine SKIP (NEXT (SEQ (BLOCK (SEQ (RG (UU 1 [(7, I 0)] (ENDOPS (NEXT (BLOCK (LOOP (ι := Nat) (fun j => [(1, .p 0 0), (6, I (k : Int)), (7, I (j : Int))]) (fun j => [(58, [.slice wh_spoke_a wh.spoke.length wh_spoke_c])]) (fun j => [slA 114 pinL (.slice a1 wh.spoke.flatten.length c2) wh.spoke.flatten]) (fun j => j ≤ y16.length ∧ (∀ (m : Nat) (x : Pin), m < j → y16[m]? = some x → Int.tmod x.at' 9 = (k : Int) ∧ (0 < m → ∀ z, y16[m - 1]? = some z → pinLess z x = true))) (fun j => y16.length - j) (0) [1, 6, 7] ⟨by first | omega | (dsimp only; omega), fun i x hi => absurd hi (Nat.not_lt_zero _)⟩ (by kernel_rfl) rfl rfl ?_))))))))))
     rintro j ⟨hj, hjs⟩
     try dsimp only at hj hjs
     refine SEQ (SEQ (RG (UU 4 [(64, I (j : Int)), (66, .v (.slice wh_spoke_a wh.spoke.length wh_spoke_c)), (67, I (k : Int))] ?_)))
     obtain ⟨a18, c19, hel21, hi20, hi20_cap⟩ := sl_view hwh_spoke hx_y16
     have hi20_len := hi20.len
     refine OPC (IX 56 (.tmp 66) (.tmp 67) 68 0 wh_spoke_a wh.spoke.length wh_spoke_c .i64 (k : Int) 99 1 (Rd.some hwh_spoke (by omega)) (by omega) (by omega) (OPC (LE 99 (.tmp 68) 69 99 wh_spoke_a (k * 1) 0 ([.slice a18 y16.length c19]) (.slice a18 y16.length c19) (fun w hw => hel21.fr hw.fr) (UU 2 [(71, B (decide ((j : Int) < (y16.length : Int))))] (NI (decide ((j : Int) < (y16.length : Int))) (fun bh22 => ?_) (fun bh22 => ?_))))))
     ·
      have h22 := of_decide_eq_true bh22
      refine SKIP (NEXT (SEQ (BLOCK (SEQ (REGIONQ (by kernel_rfl) (by kernel_rfl) (QU 3 [(75, .v (.slice wh_spoke_a wh.spoke.length wh_spoke_c)), (76, I (k : Int))] ?_))))))
      obtain ⟨a23, c24, hel26, hi25, hi25_cap⟩ := sl_view hwh_spoke hx_y16
      have hi25_len := hi25.len
      refine QIX 56 (.tmp 75) (.tmp 76) 77 0 wh_spoke_a wh.spoke.length wh_spoke_c .i64 (k : Int) 99 1 (Rd.some hwh_spoke (by omega)) (by omega) (by omega) (QLE 99 (.tmp 77) 78 99 wh_spoke_a (k * 1) 0 ([.slice a23 y16.length c24]) (.slice a23 y16.length c24) (fun w hw => hel26.fr hw.fr) (QU 1 [(79, I (j : Int))] ?_))
      obtain ⟨x27, hx28⟩ : ∃ y, y16[j]? = some y := ⟨_, List.getElem?_eq_getElem (by omega)⟩
      refine QIX 99 (.tmp 78) (.tmp 79) 80 0 a23 y16.length c24 .i64 (j : Int) 114 2 (Rd.some hi25 (by omega)) (by omega) (by omega) (QU 1 [(81, .e a23 (j * 2) 0)] (QLE 3 (.tmp 81) 82 3 a23 (j * 2) 0 (pinE x27) (vi x27.at') (fun w hw => (hi25.fr hw.fr).flat hx28) (QU 4 [(86, B ((Int.tmod x27.at' 9) != (k : Int)))] (QSP 86 ((Int.tmod x27.at' 9) != (k : Int)) (fun bh29 => ?_) (fun bh29 => ?_)))))
      ·
       have h29 := bne_iff_ne.1 bh29
       refine QU 24 [(110, B true)] (QEND rfl (NEXT (IFT (by kernel_rfl) (SEQ (RG (UU 1 [(2, B false)] (ENDOPS (NEXT (RF rfl (.bool false) () [] ?_ ?_)))))))))
       · (first | (exact congrArg Value.bool (wheelOk_t ⟨by omega, by omega, fun z hz => hvp z (by rw [hkk, List.take_length]; exact hz), ids_nodup (by rw [hkk] at hvi; exact hvi), fun i l hl => hv0 i l (by have := (List.getElem?_eq_some_iff.1 hl).1; simp only [List.length_nil] at hk; omega) hl⟩).symm) | (refine congrArg Value.bool (wheelOk_f fun hw9 => ?_).symm; obtain ⟨w1, w2, w3, w4, w5⟩ := hw9; first | omega | exact absurd w4 (ids_no (i := j) (j := k) (by omega) hx28 hx_y16 (by assumption)) | (have w6 := (w5 k _ hx_y16 j _ hx28).1; omega) | (have w6 := w3 _ (List.mem_of_getElem? hx_y16); simp only [PinR] at w6; simp_all; done)))
       · rfl
      ·
       have h29 := bneF bh29
       refine QU 3 [(89, B (decide ((j : Int) > 0)))] (QSP 89 (decide ((j : Int) > 0)) (fun bh30 => ?_) (fun bh30 => ?_))
       ·
        have h30 := of_decide_eq_true bh30
        refine QU 3 [(91, .v (.slice wh_spoke_a wh.spoke.length wh_spoke_c)), (92, I (k : Int))] ?_
        obtain ⟨a31, c32, hel34, hi33, hi33_cap⟩ := sl_view hwh_spoke hx_y16
        have hi33_len := hi33.len
        refine QIX 56 (.tmp 91) (.tmp 92) 93 0 wh_spoke_a wh.spoke.length wh_spoke_c .i64 (k : Int) 99 1 (Rd.some hwh_spoke (by omega)) (by omega) (by omega) (QLE 99 (.tmp 93) 94 99 wh_spoke_a (k * 1) 0 ([.slice a31 y16.length c32]) (.slice a31 y16.length c32) (fun w hw => hel34.fr hw.fr) (QU 2 [(96, I (wr ((j : Int) - 1)))] (QCAST (d := 96) (vi (wr ((j : Int) - 1))) (vi ((j - 1 : Nat) : Int)) (by kernel_rfl) (vi_cast (by omega) (by omega)) ?_)))
        obtain ⟨x35, hx36⟩ : ∃ y, y16[j - 1]? = some y := ⟨_, List.getElem?_eq_getElem (by omega)⟩
        refine QIX 99 (.tmp 94) (.tmp 96) 97 0 a31 y16.length c32 .i64 ((j - 1 : Nat) : Int) 114 2 (Rd.some hi33 (by omega)) (by omega) (by omega) (QLE 114 (.tmp 97) 98 114 a31 ((j - 1) * 2) 0 (pinE x35) (.agg (pinE x35).toArray) (fun w hw => (hi33.fr hw.fr).flat hx36) (QU 3 [(100, .v (.slice wh_spoke_a wh.spoke.length wh_spoke_c)), (101, I (k : Int))] ?_))
        obtain ⟨a37, c38, hel40, hi39, hi39_cap⟩ := sl_view hwh_spoke hx_y16
        have hi39_len := hi39.len
        refine QIX 56 (.tmp 100) (.tmp 101) 102 0 wh_spoke_a wh.spoke.length wh_spoke_c .i64 (k : Int) 99 1 (Rd.some hwh_spoke (by omega)) (by omega) (by omega) (QLE 99 (.tmp 102) 103 99 wh_spoke_a (k * 1) 0 ([.slice a37 y16.length c38]) (.slice a37 y16.length c38) (fun w hw => hel40.fr hw.fr) (QU 1 [(104, I (j : Int))] (QIX 99 (.tmp 103) (.tmp 104) 105 0 a37 y16.length c38 .i64 (j : Int) 114 2 (Rd.some hi39 (by omega)) (by omega) (by omega) (QLE 114 (.tmp 105) 106 114 a37 (j * 2) 0 (pinE x27) (.agg (pinE x27).toArray) (fun w hw => (hi39.fr hw.fr).flat hx28) (QCA 128 #[.agg #[vi x35.at', vi x35.id], .agg #[vi x27.at', vi x27.id]] (some 107) (.bool (pinLess x35 x27)) (fun w hw => l9Less_c w x35 x27) (QU 3 [(110, B (!(pinLess x35 x27)))] (QEND rfl (NEXT (IFK (!(pinLess x35 x27)) (fun bh41 => ?_) (fun bh41 => ?_))))))))))
        ·
         have h41 := notT bh41
         refine SEQ (RG (UU 1 [(2, B false)] (ENDOPS (NEXT (RF rfl (.bool false) () [] ?_ ?_)))))
         · (first | (exact congrArg Value.bool (wheelOk_t ⟨by omega, by omega, fun z hz => hvp z (by rw [hkk, List.take_length]; exact hz), ids_nodup (by rw [hkk] at hvi; exact hvi), fun i l hl => hv0 i l (by have := (List.getElem?_eq_some_iff.1 hl).1; simp only [List.length_nil] at hk; omega) hl⟩).symm) | (refine congrArg Value.bool (wheelOk_f fun hw9 => ?_).symm; obtain ⟨w1, w2, w3, w4, w5⟩ := hw9; first | omega | exact absurd w4 (ids_no (i := j) (j := k) (by omega) hx28 hx_y16 (by assumption)) | (have w6 := (w5 k _ hx_y16 j _ hx28).1; omega) | (have w6 := (w5 k _ hx_y16 j _ hx28).2 (by omega) _ hx36; simp_all; done) | (have w6 := w3 _ (List.mem_of_getElem? hx_y16); simp only [PinR] at w6; simp_all; done)))
         · rfl
        ·
         have h41 := notF bh41
         refine SKIP (OUTN (NEXT (RG (UU 2 [(73, I (wr ((j : Int) + 1)))] (CS 73 (vi (wr ((j : Int) + 1))) (vi ((j + 1 : Nat) : Int)) (vi_cast (by omega) (by omega)) (UU 1 [(7, I ((j + 1 : Nat) : Int))] (ENDOPS (BK (j + 1) [1, 6, 7] 1 [0] ⟨by first | omega | (dsimp only; omega), fun m x hm hx => by by_cases h9 : m = j; (subst h9; simp_all); exact hjs m x (by omega) hx⟩ (by first | omega | (dsimp only; omega))))))))))
       ·
        have h30 := of_decide_eq_false bh30
        refine QU 21 [(110, B false)] (QEND rfl (NEXT (IFF (by kernel_rfl) (SKIP (OUTN (NEXT (RG (UU 2 [(73, I (wr ((j : Int) + 1)))] (CS 73 (vi (wr ((j : Int) + 1))) (vi ((j + 1 : Nat) : Int)) (vi_cast (by omega) (by omega)) (UU 1 [(7, I ((j + 1 : Nat) : Int))] (ENDOPS (BK (j + 1) [1, 6, 7] 1 [0] ⟨by first | omega | (dsimp only; omega), fun m x hm hx => by by_cases h9 : m = j; (subst h9; simp_all); exact hjs m x (by omega) hx⟩ (by first | omega | (dsimp only; omega))))))))))))))
     ·
      have h22 := of_decide_eq_false bh22
      refine EXIT (PASS trivial (PASS trivial (OUT (OUTN (NEXT (RG (UU 2 [(63, I (wr ((k : Int) + 1)))] (CS 63 (vi (wr ((k : Int) + 1))) (vi ((k + 1 : Nat) : Int)) (vi_cast (by omega) (by omega)) (UU 1 [(6, I ((k + 1 : Nat) : Int))] (ENDOPS (BK (k + 1, ys17) [1, 6] 1 [0] ⟨hl_y16, hd_y16, (fun i l hi hl => by by_cases h9 : i = k; (subst h9; rw [hx_y16] at hl; injection hl with hl; subst hl; exact fun m x hm => hjs m x (by have := (List.getElem?_eq_some_iff.1 hm).1; omega) hm); exact hv0 i l (by omega) hl)⟩ (by simp))))))))))))
    ·
     have h15 := of_decide_eq_false bh15
     obtain rfl := drop_nil hk (by omega)
     refine EXIT (PASS trivial (PASS trivial (OUT (NEXT (SEQ (RG (UU 1 [(2, B true)] (ENDOPS (NEXT (RF rfl (.bool true) () [] ?_ ?_))))))))))
     · (first | (exact congrArg Value.bool (wheelOk_t ⟨by omega, by omega, fun z hz => hvp z (by rw [hkk, List.take_length]; exact hz), ids_nodup (by rw [hkk] at hvi; exact hvi), fun i l hl => hv0 i l (by have := (List.getElem?_eq_some_iff.1 hl).1; simp only [List.length_nil] at hk; omega) hl⟩).symm) | (refine congrArg Value.bool (wheelOk_f fun hw9 => ?_).symm; obtain ⟨w1, w2, w3, w4, w5⟩ := hw9; first | omega))
     · rfl

end SX
end Go.Proofs.YtcbpmjfjdjpalaaGreat
