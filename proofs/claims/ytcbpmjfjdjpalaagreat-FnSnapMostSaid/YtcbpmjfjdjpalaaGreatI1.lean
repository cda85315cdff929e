/- Walks, printed by program. -/
import Derived.Test.YtcbpmjfjdjpalaaGreatMdls
import Derived.Test.YtcbpmjfjdjpalaaGreatSxd
import Derived.Test.YtcbpmjfjdjpalaaGreatSxe
import Derived.Test.YtcbpmjfjdjpalaaGreatSxn
import Derived.Test.YtcbpmjfjdjpalaaGreatProg
namespace Go.Proofs.YtcbpmjfjdjpalaaGreat
namespace SX
open Go Go.RowKit
set_option linter.unusedVariables false
set_option linter.unusedSimpArgs false
set_option maxRecDepth 10000
set_option maxHeartbeats 400000
theorem l1In_c (W : World) (x : Int) (lo : Int) (hi : Int) : Spec Tryz.prog W [] 37 #[vi x, vi lo, vi hi] (RV (.bool (inB x lo hi))) := by
 refine ENTER0 (N := 15) (vs := [vi x, vi lo, vi hi]) Tryz.func37 rfl rfl (NL rfl) ?_
 refine SEQ (RG (UU 1 [] (NR (UU 4 [(10, B (decide (x ≥ lo)))] (SP 10 (decide (x ≥ lo)) (fun bh1 => ?_) (fun bh1 => ?_))))))
 ·
  have h1 := of_decide_eq_true bh1
  refine UU 5 [(6, B (decide (x ≤ hi)))] (ENDOPS (NEXT (RF rfl (.bool (decide (x ≤ hi))) () [] ?_ ?_)))
  · simp [RV, inB, *]
  · rfl
 ·
  have h1 := of_decide_eq_false bh1
  refine UU 5 [(6, B false)] (ENDOPS (NEXT (RF rfl (.bool false) () [] ?_ ?_)))
  · simp [RV, inB, *]
  · rfl

theorem within_c (W : World) (n : Int) (lo : Int) (hi : Int) : Spec Tryz.prog W [] 43 #[vi n, vi lo, vi hi] (RV (.bool (inB n lo hi))) := by
 refine ENTER0 (N := 15) (vs := [vi n, vi lo, vi hi]) Tryz.func43 rfl rfl (NL rfl) ?_
 refine SEQ (RG (UU 1 [] (NR (UU 4 [(10, B (decide (n ≥ lo)))] (SP 10 (decide (n ≥ lo)) (fun bh1 => ?_) (fun bh1 => ?_))))))
 ·
  have h1 := of_decide_eq_true bh1
  refine UU 5 [(6, B (decide (n ≤ hi)))] (ENDOPS (NEXT (RF rfl (.bool (decide (n ≤ hi))) () [] ?_ ?_)))
  · simp [RV, inB, *]
  · rfl
 ·
  have h1 := of_decide_eq_false bh1
  refine UU 5 [(6, B false)] (ENDOPS (NEXT (RF rfl (.bool false) () [] ?_ ?_)))
  · simp [RV, inB, *]
  · rfl

theorem isIndex_c (W : World) (n : Int) (size : Int) : Spec Tryz.prog W [] 57 #[vi n, vi size] (RV (.bool (inB n 0 (wr (size - 1))))) := by
 refine ENTER0 (N := 9) (vs := [vi n, vi size]) Tryz.func57 rfl rfl (NL rfl) ?_
 refine SEQ (RG (UU 1 [] (NR (UU 3 [(5, I n), (7, I (wr (size - 1)))] (OPC (CA 43 #[vi n, vi 0, vi (wr (size - 1))] (some 8) (RV (.bool (inB n 0 (wr (size - 1))))) (fun w hw => within_c w n 0 (wr (size - 1))) ?_))))))
 rintro ⟨⟩
 refine UU 1 [(4, B (inB n 0 (wr (size - 1))))] (ENDOPS (NEXT (RF rfl (.bool (inB n 0 (wr (size - 1)))) () [] ?_ ?_)))
 · simp [RV]
 · rfl

theorem iRulesOk_c (W : World) (r : Rules) (r_seats_a : Option Addr) (r_seats_c : Nat) (hr_seats : Rd intL W r_seats_a r.seats) : Spec Tryz.prog W [] 35 #[.agg #[.slice r_seats_a r.seats.length r_seats_c, vi r.tiers, vi r.room, vi r.size, vi r.period, vi r.window, vi r.rest, vi r.tries, vi r.crew]] (RV (.bool (rulesOk r))) := by
 refine ENTER0 (N := 59) (vs := [.agg #[.slice r_seats_a r.seats.length r_seats_c, vi r.tiers, vi r.room, vi r.size, vi r.period, vi r.window, vi r.rest, vi r.tries, vi r.crew]]) Tryz.func35 rfl rfl (NL rfl) ?_
 have hr_seats_len := hr_seats.len
 refine SEQ (RG (UL 2 [(1, .p 0 0)] [(26, [.slice r_seats_a r.seats.length r_seats_c, vi r.tiers, vi r.room, vi r.size, vi r.period, vi r.window, vi r.rest, vi r.tries, vi r.crew])] (ENDOPS (NEXT (SEQ (SEQ (RG (UU 3 [(7, I (r.seats.length : Int))] (OPC (CA 43 #[vi (r.seats.length : Int), vi 1, vi 4] (some 8) (RV (.bool (inB (r.seats.length : Int) 1 4))) (fun w hw => within_c w (r.seats.length : Int) 1 4) ?_))))))))))
 rintro ⟨⟩
 refine UU 1 [(9, B (!(inB (r.seats.length : Int) 1 4)))] (NI (!(inB (r.seats.length : Int) 1 4)) (fun bh1 => ?_) (fun bh1 => ?_))
 ·
  have h1 := notT bh1
  refine SEQ (RG (UU 1 [(2, B false)] (ENDOPS (NEXT (RF rfl (.bool false) () [] ?_ ?_)))))
  · simp [RV, rulesOk, allSeats, *]
  · rfl
 ·
  have h1 := notF bh1
  refine SKIP (NEXT (SEQ (SEQ (RG (UU 4 [(11, .v (.slice r_seats_a r.seats.length r_seats_c)), (12, I (r.seats.length : Int)), (13, I 0)] (ENDOPS (NEXT (BLOCK (LOOP (ι := Nat × (List Int)) (fun j => [(1, .p 0 0), (11, .v (.slice r_seats_a r.seats.length r_seats_c)), (12, I (r.seats.length : Int)), (13, I (j.1 : Int))]) (fun j => [(26, [.slice r_seats_a r.seats.length r_seats_c, vi r.tiers, vi r.room, vi r.size, vi r.period, vi r.window, vi r.rest, vi r.tries, vi r.crew])]) (fun j => []) (fun j => j.1 + j.2.length = r.seats.length ∧ r.seats.drop j.1 = j.2 ∧ allSeats r.seats = allSeats j.2) (fun j => j.2.length) (0, r.seats) [1, 11, 12, 13] ⟨by simp, rfl, rfl⟩ (by kernel_rfl) rfl rfl ?_)))))))))
  rintro ⟨k, ys⟩ ⟨hk, hd, hv0⟩
  try dsimp only at hk hd hv0
  refine SEQ (RG (UU 1 [(14, B (decide ((k : Int) < (r.seats.length : Int))))] (ENDOPS (NEXT (SEQ (IFK (decide ((k : Int) < (r.seats.length : Int))) (fun bh2 => ?_) (fun bh2 => ?_)))))))
  ·
   have h2 := of_decide_eq_true bh2
   obtain ⟨y3, ys4, rfl, hx_y3, hd_y3, hl_y3⟩ := drop_cons hd hk (by omega)
   refine SKIP (NEXT (SEQ (BLOCK (SEQ (RG (OPC (IX 24 (.tmp 11) (.tmp 13) 15 0 r_seats_a r.seats.length r_seats_c .i64 (k : Int) 3 1 (Rd.some hr_seats (by omega)) (by omega) (by omega) (OPC (LE 3 (.tmp 15) 16 3 r_seats_a (k * 1) 0 ([vi y3]) (vi y3) (fun w hw => (hr_seats.fr hw.fr).flat hx_y3) (UU 1 [(4, I y3)] (NR (UU 1 [(17, I y3)] (OPC (CA 43 #[vi y3, vi 1, vi 60] (some 18) (RV (.bool (inB y3 1 60))) (fun w hw => within_c w y3 1 60) ?_))))))))))))))
   rintro ⟨⟩
   refine UU 1 [(19, B (!(inB y3 1 60)))] (NI (!(inB y3 1 60)) (fun bh5 => ?_) (fun bh5 => ?_))
   ·
    have h5 := notT bh5
    refine SEQ (RG (UU 1 [(2, B false)] (ENDOPS (NEXT (RF rfl (.bool false) () [] ?_ ?_)))))
    · simp [RV, rulesOk, allSeats, *]
    · rfl
   ·
    have h5 := notF bh5
    refine SKIP (OUTN (NEXT (RG (UU 1 [(20, I (wr ((k : Int) + 1)))] (CS 20 (vi (wr ((k : Int) + 1))) (vi ((k + 1 : Nat) : Int)) (vi_cast (by omega) (by omega)) (UU 1 [(13, I ((k + 1 : Nat) : Int))] (ENDOPS (BK (k + 1, ys4) [1, 11, 12, 13] 1 [] ⟨hl_y3, hd_y3, hv0.trans (by simp [allSeats, *])⟩ (by simp)))))))))
  ·
   have h2 := of_decide_eq_false bh2
   obtain rfl := drop_nil hk (by omega)
   refine EXIT (PASS trivial (PASS trivial (OUT (NEXT (SEQ (RG (UU 2 [(22, I r.tiers)] (OPC (CA 43 #[vi r.tiers, vi 1, vi 5] (some 23) (RV (.bool (inB r.tiers 1 5))) (fun w hw => within_c w r.tiers 1 5) ?_)))))))))
   rintro ⟨⟩
   refine UU 1 [(24, B (inB r.tiers 1 5))] (SP 24 (inB r.tiers 1 5) (fun bh6 => ?_) (fun bh6 => ?_))
   ·
    have h6 := bh6
    refine UU 2 [(26, I r.room)] (OPC (CA 43 #[vi r.room, vi 1, vi 10] (some 27) (RV (.bool (inB r.room 1 10))) (fun w hw => within_c w r.room 1 10) ?_))
    rintro ⟨⟩
    refine UU 2 [(29, B (inB r.room 1 10))] (SP 29 (inB r.room 1 10) (fun bh7 => ?_) (fun bh7 => ?_))
    ·
     have h7 := bh7
     refine UU 2 [(31, I r.size)] (OPC (CA 43 #[vi r.size, vi 1, vi 6] (some 32) (RV (.bool (inB r.size 1 6))) (fun w hw => within_c w r.size 1 6) ?_))
     rintro ⟨⟩
     refine UU 2 [(34, B (inB r.size 1 6))] (SP 34 (inB r.size 1 6) (fun bh8 => ?_) (fun bh8 => ?_))
     ·
      have h8 := bh8
      refine UU 2 [(36, I r.period)] (OPC (CA 43 #[vi r.period, vi 1, vi 12] (some 37) (RV (.bool (inB r.period 1 12))) (fun w hw => within_c w r.period 1 12) ?_))
      rintro ⟨⟩
      refine UU 2 [(39, B (inB r.period 1 12))] (SP 39 (inB r.period 1 12) (fun bh9 => ?_) (fun bh9 => ?_))
      ·
       have h9 := bh9
       refine UU 2 [(41, I r.window)] (OPC (CA 43 #[vi r.window, vi 1, vi 8] (some 42) (RV (.bool (inB r.window 1 8))) (fun w hw => within_c w r.window 1 8) ?_))
       rintro ⟨⟩
       refine UU 2 [(44, B (inB r.window 1 8))] (SP 44 (inB r.window 1 8) (fun bh10 => ?_) (fun bh10 => ?_))
       ·
        have h10 := bh10
        refine UU 2 [(46, I r.tries)] (OPC (CA 43 #[vi r.tries, vi 1, vi 4] (some 47) (RV (.bool (inB r.tries 1 4))) (fun w hw => within_c w r.tries 1 4) ?_))
        rintro ⟨⟩
        refine UU 2 [(49, B (inB r.tries 1 4))] (SP 49 (inB r.tries 1 4) (fun bh11 => ?_) (fun bh11 => ?_))
        ·
         have h11 := bh11
         refine UU 2 [(51, I r.crew)] (OPC (CA 43 #[vi r.crew, vi 1, vi 3] (some 52) (RV (.bool (inB r.crew 1 3))) (fun w hw => within_c w r.crew 1 3) ?_))
         rintro ⟨⟩
         refine UU 2 [(54, B (inB r.crew 1 3))] (SP 54 (inB r.crew 1 3) (fun bh12 => ?_) (fun bh12 => ?_))
         ·
          have h12 := bh12
          refine UU 2 [(56, I r.rest)] (OPC (CA 43 #[vi r.rest, vi 0, vi 8] (some 57) (RV (.bool (inB r.rest 0 8))) (fun w hw => within_c w r.rest 0 8) ?_))
          rintro ⟨⟩
          refine UU 2 [(2, B (inB r.rest 0 8))] (ENDOPS (NEXT (RF rfl (.bool (inB r.rest 0 8)) () [] ?_ ?_)))
          · simp [RV, rulesOk, allSeats, *]
          · rfl
         ·
          have h12 := bh12
          refine UU 5 [(2, B false)] (ENDOPS (NEXT (RF rfl (.bool false) () [] ?_ ?_)))
          · simp [RV, rulesOk, allSeats, *]
          · rfl
        ·
         have h11 := bh11
         refine UU 10 [(2, B false)] (ENDOPS (NEXT (RF rfl (.bool false) () [] ?_ ?_)))
         · simp [RV, rulesOk, allSeats, *]
         · rfl
       ·
        have h10 := bh10
        refine UU 15 [(2, B false)] (ENDOPS (NEXT (RF rfl (.bool false) () [] ?_ ?_)))
        · simp [RV, rulesOk, allSeats, *]
        · rfl
      ·
       have h9 := bh9
       refine UU 20 [(2, B false)] (ENDOPS (NEXT (RF rfl (.bool false) () [] ?_ ?_)))
       · simp [RV, rulesOk, allSeats, *]
       · rfl
     ·
      have h8 := bh8
      refine UU 25 [(2, B false)] (ENDOPS (NEXT (RF rfl (.bool false) () [] ?_ ?_)))
      · simp [RV, rulesOk, allSeats, *]
      · rfl
    ·
     have h7 := bh7
     refine UU 30 [(2, B false)] (ENDOPS (NEXT (RF rfl (.bool false) () [] ?_ ?_)))
     · simp [RV, rulesOk, allSeats, *]
     · rfl
   ·
    have h6 := bh6
    refine UU 35 [(2, B false)] (ENDOPS (NEXT (RF rfl (.bool false) () [] ?_ ?_)))
    · simp [RV, rulesOk, allSeats, *]
    · rfl

theorem isNaN_c (W : World) (x : Int) : Spec Tryz.prog W [] 152 #[vi x] (RV (.bool false)) := by
 refine ENTER0 (N := 6) (vs := [vi x]) Tryz.func152 rfl rfl (NL rfl) ?_
 refine SEQ (RG (UU 1 [] (NR (UU 4 [(2, B (x != x))] (ENDOPS (NEXT (RF rfl (.bool (x != x)) () [] ?_ ?_)))))))
 · simp [RV]
 · rfl

theorem cmpI_c (W : World) (x : Int) (y : Int) : Spec Tryz.prog W [] 145 #[vi x, vi y] (RV (vi (cmpI x y))) := by
 refine ENTER0 (N := 20) (vs := [vi x, vi y]) Tryz.func145 rfl rfl (NL rfl) ?_
 refine SEQ (RG (UU 1 [] (NR (UU 1 [(7, I x)] (OPC (CA 152 #[vi x] (some 8) (RV (.bool false)) (fun w hw => isNaN_c w x) ?_))))))
 rintro ⟨⟩
 refine UU 1 [(5, B false)] (NR (UU 1 [(9, I y)] (OPC (CA 152 #[vi y] (some 10) (RV (.bool false)) (fun w hw => isNaN_c w y) ?_))))
 rintro ⟨⟩
 refine UU 1 [(6, B false)] (ENDOPS (NEXT (SEQ (SEQ (RG (UU 1 [(11, B false)] (ENDOPS (NEXT (IFF (by kernel_rfl) (SKIP (NEXT (SEQ (SEQ (RG (UU 1 [(13, B false)] (ENDOPS (NEXT (IFF (by kernel_rfl) (SKIP (NEXT (SEQ (SEQ (RG (UU 3 [(16, B (decide (x < y)))] (NI (decide (x < y)) (fun bh1 => ?_) (fun bh1 => ?_))))))))))))))))))))))))))
 ·
  have h1 := of_decide_eq_true bh1
  refine SEQ (RG (UU 1 [(4, I (-1))] (ENDOPS (NEXT (RF rfl (vi (-1)) () [] ?_ ?_)))))
  · (first | (simp [RV, cmpI, *]; done) | (simp_all [RV, cmpI]; done) | (simp_all [RV, cmpI]; omega))
  · rfl
 ·
  have h1 := of_decide_eq_false bh1
  refine SKIP (NEXT (SEQ (SEQ (RG (UU 3 [(19, B (decide (x > y)))] (NI (decide (x > y)) (fun bh2 => ?_) (fun bh2 => ?_)))))))
  ·
   have h2 := of_decide_eq_true bh2
   refine SEQ (RG (UU 1 [(4, I 1)] (ENDOPS (NEXT (RF rfl (vi 1) () [] ?_ ?_)))))
   · (first | (simp [RV, cmpI, *]; done) | (simp_all [RV, cmpI]; done) | (simp_all [RV, cmpI]; omega))
   · rfl
  ·
   have h2 := of_decide_eq_false bh2
   refine SKIP (NEXT (SEQ (RG (UU 1 [(4, I 0)] (ENDOPS (NEXT (RF rfl (vi 0) () [] ?_ ?_)))))))
   · (first | (simp [RV, cmpI, *]; done) | (simp_all [RV, cmpI]; done) | (simp_all [RV, cmpI]; omega))
   · rfl

theorem cmpEntry_c (W : World) (a : Entry) (b : Entry) : Spec Tryz.prog W [] 135 #[.agg #[vi a.level, vi a.turn, vi a.id, vi a.size], .agg #[vi b.level, vi b.turn, vi b.id, vi b.size]] (RV (vi (cmpEntry a b))) := by
 refine ENTER0 (N := 19) (vs := [.agg #[vi a.level, vi a.turn, vi a.id, vi a.size], .agg #[vi b.level, vi b.turn, vi b.id, vi b.size]]) Tryz.func135 rfl rfl (NL rfl) ?_
 refine SEQ (RG (UL 3 [(2, .p 0 0), (3, .p 1 0)] [(63, entryE a), (63, entryE b)] (ENDOPS (NEXT (SEQ (SEQ (RG (UU 4 [(7, I a.level), (9, I b.level)] (OPC (CA 145 #[vi a.level, vi b.level] (some 10) (RV (vi (cmpI a.level b.level))) (fun w hw => cmpI_c w a.level b.level) ?_))))))))))
 rintro ⟨⟩
 refine UU 1 [(5, I (cmpI a.level b.level))] (NR (UU 2 [(12, B ((cmpI a.level b.level) != 0))] (NI ((cmpI a.level b.level) != 0) (fun bh1 => ?_) (fun bh1 => ?_))))
 ·
  have h1 := bne_iff_ne.1 bh1
  refine SEQ (RG (UU 2 [(4, I (cmpI a.level b.level))] (ENDOPS (NEXT (RF rfl (vi (cmpI a.level b.level)) () [] ?_ ?_)))))
  · (first | (simp [RV, cmpEntry, cmpPin, *]; done) | (simp_all [RV, cmpEntry, cmpPin]; done))
  · rfl
 ·
  have h1 := bneF bh1
  refine SKIP (NEXT (SEQ (RG (UU 4 [(15, I a.turn), (17, I b.turn)] (OPC (CA 145 #[vi a.turn, vi b.turn] (some 18) (RV (vi (cmpI a.turn b.turn))) (fun w hw => cmpI_c w a.turn b.turn) ?_))))))
  rintro ⟨⟩
  refine UU 1 [(4, I (cmpI a.turn b.turn))] (ENDOPS (NEXT (RF rfl (vi (cmpI a.turn b.turn)) () [] ?_ ?_)))
  · (first | (simp [RV, cmpEntry, cmpPin, *]; done) | (simp_all [RV, cmpEntry, cmpPin]; done))
  · rfl

theorem cmpPin_c (W : World) (a : Pin) (b : Pin) : Spec Tryz.prog W [] 137 #[.agg #[vi a.at', vi a.id], .agg #[vi b.at', vi b.id]] (RV (vi (cmpPin a b))) := by
 refine ENTER0 (N := 19) (vs := [.agg #[vi a.at', vi a.id], .agg #[vi b.at', vi b.id]]) Tryz.func137 rfl rfl (NL rfl) ?_
 refine SEQ (RG (UL 3 [(2, .p 0 0), (3, .p 1 0)] [(114, pinE a), (114, pinE b)] (ENDOPS (NEXT (SEQ (SEQ (RG (UU 4 [(7, I a.at'), (9, I b.at')] (OPC (CA 145 #[vi a.at', vi b.at'] (some 10) (RV (vi (cmpI a.at' b.at'))) (fun w hw => cmpI_c w a.at' b.at') ?_))))))))))
 rintro ⟨⟩
 refine UU 1 [(5, I (cmpI a.at' b.at'))] (NR (UU 2 [(12, B ((cmpI a.at' b.at') != 0))] (NI ((cmpI a.at' b.at') != 0) (fun bh1 => ?_) (fun bh1 => ?_))))
 ·
  have h1 := bne_iff_ne.1 bh1
  refine SEQ (RG (UU 2 [(4, I (cmpI a.at' b.at'))] (ENDOPS (NEXT (RF rfl (vi (cmpI a.at' b.at')) () [] ?_ ?_)))))
  · (first | (simp [RV, cmpEntry, cmpPin, *]; done) | (simp_all [RV, cmpEntry, cmpPin]; done))
  · rfl
 ·
  have h1 := bneF bh1
  refine SKIP (NEXT (SEQ (RG (UU 4 [(15, I a.id), (17, I b.id)] (OPC (CA 145 #[vi a.id, vi b.id] (some 18) (RV (vi (cmpI a.id b.id))) (fun w hw => cmpI_c w a.id b.id) ?_))))))
  rintro ⟨⟩
  refine UU 1 [(4, I (cmpI a.id b.id))] (ENDOPS (NEXT (RF rfl (vi (cmpI a.id b.id)) () [] ?_ ?_)))
  · (first | (simp [RV, cmpEntry, cmpPin, *]; done) | (simp_all [RV, cmpEntry, cmpPin]; done))
  · rfl

theorem iEntryLess_c (W : World) (a : Entry) (b : Entry) : Spec Tryz.prog W [] 141 #[.agg #[vi a.level, vi a.turn, vi a.id, vi a.size], .agg #[vi b.level, vi b.turn, vi b.id, vi b.size]] (RV (.bool (entryLess a b))) := by
 refine ENTER0 (N := 9) (vs := [.agg #[vi a.level, vi a.turn, vi a.id, vi a.size], .agg #[vi b.level, vi b.turn, vi b.id, vi b.size]]) Tryz.func141 rfl rfl (NL rfl) ?_
 refine SEQ (RG (UL 3 [(2, .p 0 0), (3, .p 1 0)] [(63, entryE a), (63, entryE b)] (NR (UU 2 [(5, .v (.agg (entryE a).toArray)), (6, .v (.agg (entryE b).toArray))] (OPC (CA 135 #[.agg #[vi a.level, vi a.turn, vi a.id, vi a.size], .agg #[vi b.level, vi b.turn, vi b.id, vi b.size]] (some 7) (RV (vi (cmpEntry a b))) (fun w hw => cmpEntry_c w a b) ?_))))))
 rintro ⟨⟩
 refine UU 2 [(4, B (decide ((cmpEntry a b) < 0)))] (ENDOPS (NEXT (RF rfl (.bool (decide ((cmpEntry a b) < 0))) () [] ?_ ?_)))
 · (simp only [RV, cmpEntry_lt])
 · rfl

theorem pinOk_c (W : World) (p : Pin) : Spec Tryz.prog W [] 143 #[.agg #[vi p.at', vi p.id]] (RV (.bool (inB (p).at' 1 1000008 && inB (p).id 1 999))) := by
 refine ENTER0 (N := 11) (vs := [.agg #[vi p.at', vi p.id]]) Tryz.func143 rfl rfl (NL rfl) ?_
 refine SEQ (RG (UL 2 [(1, .p 0 0)] [(114, pinE p)] (NR (UU 2 [(4, I p.at')] (OPC (CA 43 #[vi p.at', vi 1, vi 1000008] (some 5) (RV (.bool (inB p.at' 1 1000008))) (fun w hw => within_c w p.at' 1 1000008) ?_))))))
 rintro ⟨⟩
 refine UU 1 [(6, B (inB p.at' 1 1000008))] (SP 6 (inB p.at' 1 1000008) (fun bh1 => ?_) (fun bh1 => ?_))
 ·
  have h1 := bh1
  refine UU 2 [(8, I p.id)] (OPC (CA 43 #[vi p.id, vi 1, vi 999] (some 9) (RV (.bool (inB p.id 1 999))) (fun w hw => within_c w p.id 1 999) ?_))
  rintro ⟨⟩
  refine UU 2 [(2, B (inB p.id 1 999))] (ENDOPS (NEXT (RF rfl (.bool (inB p.id 1 999)) () [] ?_ ?_)))
  · (first | (simp [RV, *]; done) | (simp_all [RV]; done))
  · rfl
 ·
  have h1 := bh1
  refine UU 5 [(2, B false)] (ENDOPS (NEXT (RF rfl (.bool false) () [] ?_ ?_)))
  · (first | (simp [RV, *]; done) | (simp_all [RV]; done))
  · rfl

theorem iLedgerOk_c (W : World) (l : Ledger) : Spec Tryz.prog W [] 130 #[.agg #[vi l.total, vi l.free, vi l.held, vi l.sold, vi l.tied]] (RV (.bool (ledgerOk l))) := by
 refine ENTER0 (N := 47) (vs := [.agg #[vi l.total, vi l.free, vi l.held, vi l.sold, vi l.tied]]) Tryz.func130 rfl rfl (NL rfl) ?_
 refine SEQ (RG (UL 2 [(1, .p 0 0)] [(54, ledgerE l)] (NR (UU 2 [(4, I l.total)] (OPC (CA 43 #[vi l.total, vi 1, vi 60] (some 5) (RV (.bool (inB l.total 1 60))) (fun w hw => within_c w l.total 1 60) ?_))))))
 rintro ⟨⟩
 refine UU 1 [(6, B (inB l.total 1 60))] (SP 6 (inB l.total 1 60) (fun bh1 => ?_) (fun bh1 => ?_))
 ·
  have h1 := bh1
  refine UU 4 [(8, I l.free), (10, I l.total)] (OPC (CA 43 #[vi l.free, vi 0, vi l.total] (some 11) (RV (.bool (inB l.free 0 l.total))) (fun w hw => within_c w l.free 0 l.total) ?_))
  rintro ⟨⟩
  refine UU 2 [(13, B (inB l.free 0 l.total))] (SP 13 (inB l.free 0 l.total) (fun bh2 => ?_) (fun bh2 => ?_))
  ·
   have h2 := bh2
   refine UU 4 [(15, I l.held), (17, I l.total)] (OPC (CA 43 #[vi l.held, vi 0, vi l.total] (some 18) (RV (.bool (inB l.held 0 l.total))) (fun w hw => within_c w l.held 0 l.total) ?_))
   rintro ⟨⟩
   refine UU 2 [(20, B (inB l.held 0 l.total))] (SP 20 (inB l.held 0 l.total) (fun bh3 => ?_) (fun bh3 => ?_))
   ·
    have h3 := bh3
    refine UU 4 [(22, I l.sold), (24, I l.total)] (OPC (CA 43 #[vi l.sold, vi 0, vi l.total] (some 25) (RV (.bool (inB l.sold 0 l.total))) (fun w hw => within_c w l.sold 0 l.total) ?_))
    rintro ⟨⟩
    refine UU 2 [(27, B (inB l.sold 0 l.total))] (SP 27 (inB l.sold 0 l.total) (fun bh4 => ?_) (fun bh4 => ?_))
    ·
     have h4 := bh4
     refine UU 13 [(40, B ((wr ((wr (l.free + l.held)) + l.sold)) == l.total))] (SP 40 ((wr ((wr (l.free + l.held)) + l.sold)) == l.total) (fun bh5 => ?_) (fun bh5 => ?_))
     ·
      have h5 := eq_of_beq bh5
      refine UU 4 [(42, I l.tied), (44, I l.sold)] (OPC (CA 43 #[vi l.tied, vi 0, vi l.sold] (some 45) (RV (.bool (inB l.tied 0 l.sold))) (fun w hw => within_c w l.tied 0 l.sold) ?_))
      rintro ⟨⟩
      refine UU 2 [(2, B (inB l.tied 0 l.sold))] (ENDOPS (NEXT (RF rfl (.bool (inB l.tied 0 l.sold)) () [] ?_ ?_)))
      · simp_all [RV, ledgerOk]
      · rfl
     ·
      have h5 := ne_of_beq_false bh5
      refine UU 7 [(2, B false)] (ENDOPS (NEXT (RF rfl (.bool false) () [] ?_ ?_)))
      · simp_all [RV, ledgerOk]
      · rfl
    ·
     have h4 := bh4
     refine UU 20 [(2, B false)] (ENDOPS (NEXT (RF rfl (.bool false) () [] ?_ ?_)))
     · simp_all [RV, ledgerOk]
     · rfl
   ·
    have h3 := bh3
    refine UU 27 [(2, B false)] (ENDOPS (NEXT (RF rfl (.bool false) () [] ?_ ?_)))
    · simp_all [RV, ledgerOk]
    · rfl
  ·
   have h2 := bh2
   refine UU 34 [(2, B false)] (ENDOPS (NEXT (RF rfl (.bool false) () [] ?_ ?_)))
   · simp_all [RV, ledgerOk]
   · rfl
 ·
  have h1 := bh1
  refine UU 41 [(2, B false)] (ENDOPS (NEXT (RF rfl (.bool false) () [] ?_ ?_)))
  · simp_all [RV, ledgerOk]
  · rfl

theorem queueAt1_c (W : World) (e : Entry) (id_b : Nat) (id : Int) (hid : ElemAt W (some ⟨id_b, 0, none⟩) 0 [vi id]) : Spec Tryz.prog W [] 149 #[.agg #[vi e.level, vi e.turn, vi e.id, vi e.size], .pointer (some ⟨id_b, 0, none⟩)] (RV (.bool ((e).id == id))) := by
 refine ENTER0 (N := 8) (vs := [.agg #[vi e.level, vi e.turn, vi e.id, vi e.size], .pointer (some ⟨id_b, 0, none⟩)]) Tryz.func149 rfl rfl (NL rfl) ?_
 refine ASE (d := 1) rfl (SEQ (RG (UL 2 [(2, .p 0 0)] [(63, entryE e)] (NR (UU 2 [(5, I e.id)] (OPC (LE 3 (.tmp 1) 6 3 (some ⟨id_b, 0, none⟩) 0 0 ([vi id]) (vi id) (fun w hw => (hid.fr hw.fr)) (UU 2 [(3, B (e.id == id))] (ENDOPS (NEXT (RF rfl (.bool (e.id == id)) () [] ?_ ?_)))))))))))
 · simp [RV]
 · rfl

theorem ixQueueAt_c (W : World) (list : List Entry) (list_a : Option Addr) (list_c : Nat) (hlist : Rd entryL W list_a list) (id_b : Nat) (id : Int) (hid : ElemAt W (some ⟨id_b, 0, none⟩) 0 [vi id]) : Spec Tryz.prog W [] 62 #[.slice list_a list.length list_c, .func (.func 149) #[] #[.pointer (some ⟨id_b, 0, none⟩)]] (RV (vi (idxF (fun e : Entry => e.id == id) list 0))) := by
 refine ENTER0 (N := 19) (vs := [.slice list_a list.length list_c, .func (.func 149) #[] #[.pointer (some ⟨id_b, 0, none⟩)]]) Tryz.func62 rfl rfl (NL rfl) ?_
 have hlist_len := hlist.len
 refine SEQ (RG (UU 1 [] (ENDOPS (NEXT (SEQ (SEQ (RG (UU 3 [(7, I (list.length : Int)), (8, I 0)] (ENDOPS (NEXT (BLOCK (LOOP (ι := Nat × (List Entry)) (fun j => [(0, .v (.slice list_a list.length list_c)), (1, .v (.func (.func 149) #[] #[.pointer (some ⟨id_b, 0, none⟩)])), (7, I (list.length : Int)), (8, I (j.1 : Int))]) (fun j => []) (fun j => []) (fun j => j.1 + j.2.length = list.length ∧ list.drop j.1 = j.2 ∧ idxF (fun e : Entry => e.id == id) list 0 = idxF (fun e : Entry => e.id == id) j.2 j.1) (fun j => j.2.length) (0, list) [0, 1, 7, 8] ⟨by simp, rfl, rfl⟩ (by kernel_rfl) rfl rfl ?_))))))))))))
 rintro ⟨k, ys⟩ ⟨hk, hd, hv0⟩
 try dsimp only at hk hd hv0
 refine SEQ (RG (UU 1 [(9, B (decide ((k : Int) < (list.length : Int))))] (ENDOPS (NEXT (SEQ (IFK (decide ((k : Int) < (list.length : Int))) (fun bh1 => ?_) (fun bh1 => ?_)))))))
 ·
  have h1 := of_decide_eq_true bh1
  obtain ⟨y2, ys3, rfl, hx_y2, hd_y2, hl_y2⟩ := drop_cons hd hk (by omega)
  refine SKIP (NEXT (SEQ (BLOCK (SEQ (RG (UU 2 [(5, I (k : Int))] (NR (UU 3 [(11, .v (.func (.func 149) #[] #[.pointer (some ⟨id_b, 0, none⟩)])), (12, .v (.slice list_a list.length list_c)), (13, I (k : Int))] (OPC (IX 55 (.tmp 12) (.tmp 13) 14 0 list_a list.length list_c .i64 (k : Int) 63 4 (Rd.some hlist (by omega)) (by omega) (by omega) (OPC (LE 63 (.tmp 14) 15 63 list_a (k * 4) 0 (entryE y2) (.agg (entryE y2).toArray) (fun w hw => (hlist.fr hw.fr).flat hx_y2) (OPC (CA 149 #[.agg #[vi y2.level, vi y2.turn, vi y2.id, vi y2.size], .pointer (some ⟨id_b, 0, none⟩)] (some 16) (RV (.bool ((y2).id == id))) (fun w hw => queueAt1_c w y2 id_b id (hid.fr hw.fr)) ?_))))))))))))))
  rintro ⟨⟩
  refine NI ((y2).id == id) (fun bh4 => ?_) (fun bh4 => ?_)
  ·
   have h4 := eq_of_beq bh4
   refine SEQ (RG (UU 2 [(4, I (k : Int))] (ENDOPS (NEXT (RF rfl (vi (k : Int)) () [] ?_ ?_)))))
   · simp_all [RV, idxF]
   · rfl
  ·
   have h4 := ne_of_beq_false bh4
   refine SKIP (OUTN (NEXT (RG (UU 1 [(18, I (wr ((k : Int) + 1)))] (CS 18 (vi (wr ((k : Int) + 1))) (vi ((k + 1 : Nat) : Int)) (vi_cast (by omega) (by omega)) (UU 1 [(8, I ((k + 1 : Nat) : Int))] (ENDOPS (BK (k + 1, ys3) [0, 1, 7, 8] 0 [] ⟨hl_y2, hd_y2, (hv0.trans (by simp_all [idxF]))⟩ (by simp)))))))))
 ·
  have h1 := of_decide_eq_false bh1
  obtain rfl := drop_nil hk (by omega)
  refine EXIT (PASS trivial (PASS trivial (OUT (NEXT (SEQ (RG (UU 1 [(4, I (-1))] (ENDOPS (NEXT (RF rfl (vi (-1)) () [] ?_ ?_))))))))))
  · simp_all [RV, idxF]
  · rfl

theorem iQueueAt_c (W : World) (list : List Entry) (list_a : Option Addr) (list_c : Nat) (hlist : Rd entryL W list_a list) (id : Int) : Spec Tryz.prog W [] 142 #[.slice list_a list.length list_c, vi id] (RV (vi (queueAt list id 0))) := by
 refine ENTER0 (N := 8) (vs := [.slice list_a list.length list_c, vi id]) Tryz.func142 rfl rfl (NL rfl) ?_
 have hlist_len := hlist.len
 refine SEQ (RG (UL 2 [(3, .p 0 0)] [(3, [vi id])] (NR (UU 1 [(5, .v (.slice list_a list.length list_c))] (EXPORT (fun bs hbs => ?_))))))
 obtain ⟨b1, rfl⟩ := len1 hbs
 refine ASV (d := 3) rfl (RU 1 [2, 3] [(6, .v (.func (.func 149) #[] #[.pointer (some ⟨b1, 0, none⟩)]))] (by kernel_rfl) rfl (OPC (CA 62 #[.slice list_a list.length list_c, .func (.func 149) #[] #[.pointer (some ⟨b1, 0, none⟩)]] (some 7) (RV (vi (idxF (fun e : Entry => e.id == id) list 0))) (fun w hw => ixQueueAt_c w list list_a list_c (hlist.fr hw.fr) b1 id (ptC_elem (hw.own 0 rfl))) ?_)))
 rintro ⟨⟩
 refine UU 1 [(4, I (idxF (fun e : Entry => e.id == id) list 0))] (ENDOPS (IMPORT (L0 := [(3, [vi id])]) (L1 := []) [b1] rfl [0] _ rfl [(4, I (idxF (fun e : Entry => e.id == id) list 0))] (by kernel_rfl) (by kernel_rfl) (NEXT (RF rfl (vi (idxF (fun e : Entry => e.id == id) list 0)) () [] ?_ ?_))))
 · simp only [RV, queueAt_idx]
 · rfl

theorem iLevel_c (W : World) (r : Rules) (r_seats_a : Option Addr) (r_seats_c : Nat) (hr_seats : Rd intL W r_seats_a r.seats) (tier : Int) (waited : Int) : Spec Tryz.prog W [] 93 #[.agg #[.slice r_seats_a r.seats.length r_seats_c, vi r.tiers, vi r.room, vi r.size, vi r.period, vi r.window, vi r.rest, vi r.tries, vi r.crew], vi tier, vi waited] (RV (vi (levelI r tier waited))) := by
 refine ENTER0 (N := 28) (vs := [.agg #[.slice r_seats_a r.seats.length r_seats_c, vi r.tiers, vi r.room, vi r.size, vi r.period, vi r.window, vi r.rest, vi r.tries, vi r.crew], vi tier, vi waited]) Tryz.func93 rfl rfl (NL rfl) ?_
 have hr_seats_len := hr_seats.len
 refine SEQ (RG (UL 2 [(3, .p 0 0)] [(26, [.slice r_seats_a r.seats.length r_seats_c, vi r.tiers, vi r.room, vi r.size, vi r.period, vi r.window, vi r.rest, vi r.tries, vi r.crew])] (ENDOPS (NEXT (SEQ (SEQ (RG (UU 1 [(7, .v (.agg #[.slice r_seats_a r.seats.length r_seats_c, vi r.tiers, vi r.room, vi r.size, vi r.period, vi r.window, vi r.rest, vi r.tries, vi r.crew]))] (OPC (CA 35 #[.agg #[.slice r_seats_a r.seats.length r_seats_c, vi r.tiers, vi r.room, vi r.size, vi r.period, vi r.window, vi r.rest, vi r.tries, vi r.crew]] (some 8) (RV (.bool (rulesOk r))) (fun w hw => iRulesOk_c w r r_seats_a r_seats_c (hr_seats.fr hw.fr)) ?_))))))))))
 rintro ⟨⟩
 refine UU 2 [(10, B (!(rulesOk r)))] (SP 10 (!(rulesOk r)) (fun bh1 => ?_) (fun bh1 => ?_))
 ·
  have h1 := notT bh1
  refine UU 10 [(20, B true)] (ENDOPS (NEXT (IFT (by kernel_rfl) (SEQ (RG (UU 1 [(6, I (-1))] (ENDOPS (NEXT (RF rfl (vi (-1)) () [] ?_ ?_)))))))))
  · (first | (simp_all [RV, levelI]; done) | (simp_all [RV, levelI, levelAt_max]; done))
  · rfl
 ·
  have h1 := notF bh1
  have hper : 1 ≤ r.period := (by have h9 := h1; simp [rulesOk, inB] at h9; omega)
  refine UU 3 [(11, I tier), (13, I r.tiers)] (OPC (CA 57 #[vi tier, vi r.tiers] (some 14) (RV (.bool (inB tier 0 (wr (r.tiers - 1))))) (fun w hw => isIndex_c w tier r.tiers) ?_))
  rintro ⟨⟩
  refine UU 3 [(17, B (!(inB tier 0 (wr (r.tiers - 1)))))] (SP 17 (!(inB tier 0 (wr (r.tiers - 1)))) (fun bh2 => ?_) (fun bh2 => ?_))
  ·
   have h2 := notT bh2
   refine UU 3 [(20, B true)] (ENDOPS (NEXT (IFT (by kernel_rfl) (SEQ (RG (UU 1 [(6, I (-1))] (ENDOPS (NEXT (RF rfl (vi (-1)) () [] ?_ ?_)))))))))
   · (first | (simp_all [RV, levelI]; done) | (simp_all [RV, levelI, levelAt_max]; done))
   · rfl
  ·
   have h2 := notF bh2
   refine UU 3 [(20, B (decide (waited < 0)))] (NI (decide (waited < 0)) (fun bh3 => ?_) (fun bh3 => ?_))
   ·
    have h3 := of_decide_eq_true bh3
    refine SEQ (RG (UU 1 [(6, I (-1))] (ENDOPS (NEXT (RF rfl (vi (-1)) () [] ?_ ?_)))))
    · (first | (simp_all [RV, levelI]; done) | (simp_all [RV, levelI, levelAt_max]; done))
    · rfl
   ·
    have h3 := of_decide_eq_false bh3
    refine SKIP (NEXT (SEQ (RG (UU 4 [(21, I tier), (22, I waited), (24, I r.period)] (OPC (RUNV (.binOp .quo 3 (.tmp 22) (.tmp 24) 3) 25 3 (by kernel_rfl) (NL rfl) (vi (wr (Int.tdiv waited r.period))) (runs_quo (a := waited) (b := r.period) (by kernel_rfl) (by kernel_rfl) (by omega)) (UU 3 [(6, I (if (wr (tier - (wr (Int.tdiv waited r.period)))) > 0 then (wr (tier - (wr (Int.tdiv waited r.period)))) else 0))] (ENDOPS (NEXT (RF rfl (vi (if (wr (tier - (wr (Int.tdiv waited r.period)))) > 0 then (wr (tier - (wr (Int.tdiv waited r.period)))) else 0)) () [] ?_ ?_))))))))))
    · (first | (simp_all [RV, levelI]; done) | (simp_all [RV, levelI, levelAt_max]; done))
    · rfl

theorem iPartyOk_c (W : World) (r : Rules) (r_seats_a : Option Addr) (r_seats_c : Nat) (hr_seats : Rd intL W r_seats_a r.seats) (pa : Party) (now : Int) : Spec Tryz.prog W [] 90 #[.agg #[.slice r_seats_a r.seats.length r_seats_c, vi r.tiers, vi r.room, vi r.size, vi r.period, vi r.window, vi r.rest, vi r.tries, vi r.crew], .agg #[vi pa.id, vi pa.cabin, vi pa.from', vi pa.size, vi pa.tier, vi pa.since, vi pa.turn, vi pa.state, vi pa.until', vi pa.asked], vi now] (RV (.bool (partyOk r pa now))) := by
 refine ENTER0 (N := 108) (vs := [.agg #[.slice r_seats_a r.seats.length r_seats_c, vi r.tiers, vi r.room, vi r.size, vi r.period, vi r.window, vi r.rest, vi r.tries, vi r.crew], .agg #[vi pa.id, vi pa.cabin, vi pa.from', vi pa.size, vi pa.tier, vi pa.since, vi pa.turn, vi pa.state, vi pa.until', vi pa.asked], vi now]) Tryz.func90 rfl rfl (NL rfl) ?_
 have hr_seats_len := hr_seats.len
 refine SEQ (RG (UL 3 [(3, .p 0 0), (4, .p 1 0)] [(26, [.slice r_seats_a r.seats.length r_seats_c, vi r.tiers, vi r.room, vi r.size, vi r.period, vi r.window, vi r.rest, vi r.tries, vi r.crew]), (46, partyE pa)] (ENDOPS (NEXT (SEQ (SEQ (RG (UU 1 [(7, .v (.agg #[.slice r_seats_a r.seats.length r_seats_c, vi r.tiers, vi r.room, vi r.size, vi r.period, vi r.window, vi r.rest, vi r.tries, vi r.crew]))] (OPC (CA 35 #[.agg #[.slice r_seats_a r.seats.length r_seats_c, vi r.tiers, vi r.room, vi r.size, vi r.period, vi r.window, vi r.rest, vi r.tries, vi r.crew]] (some 8) (RV (.bool (rulesOk r))) (fun w hw => iRulesOk_c w r r_seats_a r_seats_c (hr_seats.fr hw.fr)) ?_))))))))))
 rintro ⟨⟩
 refine UU 2 [(10, B (!(rulesOk r)))] (SP 10 (!(rulesOk r)) (fun bh1 => ?_) (fun bh1 => ?_))
 ·
  have h1 := notT bh1
  refine UU 36 [(46, B true)] (ENDOPS (NEXT (IFT (by kernel_rfl) (SEQ (RG (UU 1 [(6, B false)] (ENDOPS (NEXT (RF rfl (.bool false) () [] ?_ ?_)))))))))
  · simp_all [RV, partyOk]
  · rfl
 ·
  have h1 := notF bh1
  refine UU 1 [(11, I now)] (OPC (CA 43 #[vi now, vi 0, vi 1000000] (some 12) (RV (.bool (inB now 0 1000000))) (fun w hw => within_c w now 0 1000000) ?_))
  rintro ⟨⟩
  refine UU 3 [(15, B (!(inB now 0 1000000)))] (SP 15 (!(inB now 0 1000000)) (fun bh2 => ?_) (fun bh2 => ?_))
  ·
   have h2 := notT bh2
   refine UU 31 [(46, B true)] (ENDOPS (NEXT (IFT (by kernel_rfl) (SEQ (RG (UU 1 [(6, B false)] (ENDOPS (NEXT (RF rfl (.bool false) () [] ?_ ?_)))))))))
   · simp_all [RV, partyOk]
   · rfl
  ·
   have h2 := notF bh2
   refine UU 2 [(17, I pa.id)] (OPC (CA 43 #[vi pa.id, vi 1, vi 999] (some 18) (RV (.bool (inB pa.id 1 999))) (fun w hw => within_c w pa.id 1 999) ?_))
   rintro ⟨⟩
   refine UU 3 [(21, B (!(inB pa.id 1 999)))] (SP 21 (!(inB pa.id 1 999)) (fun bh3 => ?_) (fun bh3 => ?_))
   ·
    have h3 := notT bh3
    refine UU 25 [(46, B true)] (ENDOPS (NEXT (IFT (by kernel_rfl) (SEQ (RG (UU 1 [(6, B false)] (ENDOPS (NEXT (RF rfl (.bool false) () [] ?_ ?_)))))))))
    · simp_all [RV, partyOk]
    · rfl
   ·
    have h3 := notF bh3
    refine UU 5 [(23, I pa.cabin), (26, I (r.seats.length : Int))] (OPC (CA 57 #[vi pa.cabin, vi (r.seats.length : Int)] (some 27) (RV (.bool (inB pa.cabin 0 (wr ((r.seats.length : Int) - 1))))) (fun w hw => isIndex_c w pa.cabin (r.seats.length : Int)) ?_))
    rintro ⟨⟩
    refine UU 3 [(30, B (!(inB pa.cabin 0 (wr ((r.seats.length : Int) - 1)))))] (SP 30 (!(inB pa.cabin 0 (wr ((r.seats.length : Int) - 1)))) (fun bh4 => ?_) (fun bh4 => ?_))
    ·
     have h4 := notT bh4
     refine UU 16 [(46, B true)] (ENDOPS (NEXT (IFT (by kernel_rfl) (SEQ (RG (UU 1 [(6, B false)] (ENDOPS (NEXT (RF rfl (.bool false) () [] ?_ ?_)))))))))
     · simp_all [RV, partyOk]
     · rfl
    ·
     have h4 := notF bh4
     refine UU 6 [(32, I pa.from'), (36, I (wr ((r.seats.length : Int) - 1)))] (OPC (CA 43 #[vi pa.from', vi (-1), vi (wr ((r.seats.length : Int) - 1))] (some 37) (RV (.bool (inB pa.from' (-1) (wr ((r.seats.length : Int) - 1))))) (fun w hw => within_c w pa.from' (-1) (wr ((r.seats.length : Int) - 1))) ?_))
     rintro ⟨⟩
     refine UU 3 [(40, B (!(inB pa.from' (-1) (wr ((r.seats.length : Int) - 1)))))] (SP 40 (!(inB pa.from' (-1) (wr ((r.seats.length : Int) - 1)))) (fun bh5 => ?_) (fun bh5 => ?_))
     ·
      have h5 := notT bh5
      refine UU 6 [(46, B true)] (ENDOPS (NEXT (IFT (by kernel_rfl) (SEQ (RG (UU 1 [(6, B false)] (ENDOPS (NEXT (RF rfl (.bool false) () [] ?_ ?_)))))))))
      · simp_all [RV, partyOk]
      · rfl
     ·
      have h5 := notF bh5
      refine UU 6 [(46, B (pa.from' == pa.cabin))] (NI (pa.from' == pa.cabin) (fun bh6 => ?_) (fun bh6 => ?_))
      ·
       have h6 := eq_of_beq bh6
       refine SEQ (RG (UU 1 [(6, B false)] (ENDOPS (NEXT (RF rfl (.bool false) () [] ?_ ?_)))))
       · simp_all [RV, partyOk]
       · rfl
      ·
       have h6 := ne_of_beq_false bh6
       refine SKIP (NEXT (SEQ (SEQ (RG (UU 4 [(48, I pa.size), (50, I r.size)] (OPC (CA 43 #[vi pa.size, vi 1, vi r.size] (some 51) (RV (.bool (inB pa.size 1 r.size))) (fun w hw => within_c w pa.size 1 r.size) ?_)))))))
       rintro ⟨⟩
       refine UU 2 [(53, B (!(inB pa.size 1 r.size)))] (SP 53 (!(inB pa.size 1 r.size)) (fun bh7 => ?_) (fun bh7 => ?_))
       ·
        have h7 := notT bh7
        refine UU 28 [(81, B true)] (ENDOPS (NEXT (IFT (by kernel_rfl) (SEQ (RG (UU 1 [(6, B false)] (ENDOPS (NEXT (RF rfl (.bool false) () [] ?_ ?_)))))))))
        · simp_all [RV, partyOk]
        · rfl
       ·
        have h7 := notF bh7
        refine UU 4 [(55, I pa.tier), (57, I r.tiers)] (OPC (CA 57 #[vi pa.tier, vi r.tiers] (some 58) (RV (.bool (inB pa.tier 0 (wr (r.tiers - 1))))) (fun w hw => isIndex_c w pa.tier r.tiers) ?_))
        rintro ⟨⟩
        refine UU 3 [(61, B (!(inB pa.tier 0 (wr (r.tiers - 1)))))] (SP 61 (!(inB pa.tier 0 (wr (r.tiers - 1)))) (fun bh8 => ?_) (fun bh8 => ?_))
        ·
         have h8 := notT bh8
         refine UU 20 [(81, B true)] (ENDOPS (NEXT (IFT (by kernel_rfl) (SEQ (RG (UU 1 [(6, B false)] (ENDOPS (NEXT (RF rfl (.bool false) () [] ?_ ?_)))))))))
         · simp_all [RV, partyOk]
         · rfl
        ·
         have h8 := notF bh8
         refine UU 3 [(63, I pa.since), (64, I now)] (OPC (CA 43 #[vi pa.since, vi 0, vi now] (some 65) (RV (.bool (inB pa.since 0 now))) (fun w hw => within_c w pa.since 0 now) ?_))
         rintro ⟨⟩
         refine UU 3 [(68, B (!(inB pa.since 0 now)))] (SP 68 (!(inB pa.since 0 now)) (fun bh9 => ?_) (fun bh9 => ?_))
         ·
          have h9 := notT bh9
          refine UU 13 [(81, B true)] (ENDOPS (NEXT (IFT (by kernel_rfl) (SEQ (RG (UU 1 [(6, B false)] (ENDOPS (NEXT (RF rfl (.bool false) () [] ?_ ?_)))))))))
          · simp_all [RV, partyOk]
          · rfl
         ·
          have h9 := notF bh9
          refine UU 2 [(70, I pa.turn)] (OPC (CA 43 #[vi pa.turn, vi 1, vi 1000000] (some 71) (RV (.bool (inB pa.turn 1 1000000))) (fun w hw => within_c w pa.turn 1 1000000) ?_))
          rintro ⟨⟩
          refine UU 3 [(74, B (!(inB pa.turn 1 1000000)))] (SP 74 (!(inB pa.turn 1 1000000)) (fun bh10 => ?_) (fun bh10 => ?_))
          ·
           have h10 := notT bh10
           refine UU 7 [(81, B true)] (ENDOPS (NEXT (IFT (by kernel_rfl) (SEQ (RG (UU 1 [(6, B false)] (ENDOPS (NEXT (RF rfl (.bool false) () [] ?_ ?_)))))))))
           · simp_all [RV, partyOk]
           · rfl
          ·
           have h10 := notF bh10
           refine UU 4 [(76, I pa.asked), (78, I r.tries)] (OPC (CA 57 #[vi pa.asked, vi r.tries] (some 79) (RV (.bool (inB pa.asked 0 (wr (r.tries - 1))))) (fun w hw => isIndex_c w pa.asked r.tries) ?_))
           rintro ⟨⟩
           refine UU 2 [(81, B (!(inB pa.asked 0 (wr (r.tries - 1)))))] (NI (!(inB pa.asked 0 (wr (r.tries - 1)))) (fun bh11 => ?_) (fun bh11 => ?_))
           ·
            have h11 := notT bh11
            refine SEQ (RG (UU 1 [(6, B false)] (ENDOPS (NEXT (RF rfl (.bool false) () [] ?_ ?_)))))
            · simp_all [RV, partyOk]
            · rfl
           ·
            have h11 := notF bh11
            refine SKIP (NEXT (SEQ (RG (UU 4 [(85, B (pa.state == 1))] (SP 85 (pa.state == 1) (fun bh12 => ?_) (fun bh12 => ?_))))))
            ·
             have h12 := eq_of_beq bh12
             refine UU 6 [(87, I pa.until'), (91, I (wr (now + r.rest)))] (OPC (CA 43 #[vi pa.until', vi 0, vi (wr (now + r.rest))] (some 92) (RV (.bool (inB pa.until' 0 (wr (now + r.rest))))) (fun w hw => within_c w pa.until' 0 (wr (now + r.rest))) ?_))
             rintro ⟨⟩
             refine UU 2 [(94, B (inB pa.until' 0 (wr (now + r.rest))))] (SP 94 (inB pa.until' 0 (wr (now + r.rest))) (fun bh13 => ?_) (fun bh13 => ?_))
             ·
              have h13 := bh13
              refine UU 14 [(6, B true)] (ENDOPS (NEXT (RF rfl (.bool true) () [] ?_ ?_)))
              · simp_all [RV, partyOk]
              · rfl
             ·
              have h13 := bh13
              refine UU 4 [(98, B (pa.state == 2))] (SP 98 (pa.state == 2) (fun bh14 => ?_) (fun bh14 => ?_))
              · have bh14 := eq_of_beq bh14; exfalso; omega
              ·
               have h14 := ne_of_beq_false bh14
               refine UU 10 [(6, B false)] (ENDOPS (NEXT (RF rfl (.bool false) () [] ?_ ?_)))
               · simp_all [RV, partyOk]
               · rfl
            ·
             have h12 := ne_of_beq_false bh12
             refine UU 13 [(94, B false), (98, B (pa.state == 2))] (SP 98 (pa.state == 2) (fun bh15 => ?_) (fun bh15 => ?_))
             ·
              have h15 := eq_of_beq bh15
              refine UU 6 [(100, I pa.until'), (104, I (wr (now + r.window)))] (OPC (CA 43 #[vi pa.until', vi 1, vi (wr (now + r.window))] (some 105) (RV (.bool (inB pa.until' 1 (wr (now + r.window))))) (fun w hw => within_c w pa.until' 1 (wr (now + r.window))) ?_))
              rintro ⟨⟩
              refine UU 3 [(6, B (inB pa.until' 1 (wr (now + r.window))))] (ENDOPS (NEXT (RF rfl (.bool (inB pa.until' 1 (wr (now + r.window)))) () [] ?_ ?_)))
              · simp_all [RV, partyOk]
              · rfl
             ·
              have h15 := ne_of_beq_false bh15
              refine UU 10 [(6, B false)] (ENDOPS (NEXT (RF rfl (.bool false) () [] ?_ ?_)))
              · simp_all [RV, partyOk]
              · rfl

theorem iLevelOf_c (W : World) (r : Rules) (r_seats_a : Option Addr) (r_seats_c : Nat) (hr_seats : Rd intL W r_seats_a r.seats) (pa : Party) (now : Int) : Spec Tryz.prog W [] 58 #[.agg #[.slice r_seats_a r.seats.length r_seats_c, vi r.tiers, vi r.room, vi r.size, vi r.period, vi r.window, vi r.rest, vi r.tries, vi r.crew], .agg #[vi pa.id, vi pa.cabin, vi pa.from', vi pa.size, vi pa.tier, vi pa.since, vi pa.turn, vi pa.state, vi pa.until', vi pa.asked], vi now] (RV (vi (levelOf r pa now))) := by
 refine ENTER0 (N := 20) (vs := [.agg #[.slice r_seats_a r.seats.length r_seats_c, vi r.tiers, vi r.room, vi r.size, vi r.period, vi r.window, vi r.rest, vi r.tries, vi r.crew], .agg #[vi pa.id, vi pa.cabin, vi pa.from', vi pa.size, vi pa.tier, vi pa.since, vi pa.turn, vi pa.state, vi pa.until', vi pa.asked], vi now]) Tryz.func58 rfl rfl (NL rfl) ?_
 have hr_seats_len := hr_seats.len
 refine SEQ (RG (UL 3 [(3, .p 0 0), (4, .p 1 0)] [(26, [.slice r_seats_a r.seats.length r_seats_c, vi r.tiers, vi r.room, vi r.size, vi r.period, vi r.window, vi r.rest, vi r.tries, vi r.crew]), (46, partyE pa)] (ENDOPS (NEXT (SEQ (SEQ (RG (UU 3 [(7, .v (.agg #[.slice r_seats_a r.seats.length r_seats_c, vi r.tiers, vi r.room, vi r.size, vi r.period, vi r.window, vi r.rest, vi r.tries, vi r.crew])), (8, .v (.agg (partyE pa).toArray)), (9, I now)] (OPC (CA 90 #[.agg #[.slice r_seats_a r.seats.length r_seats_c, vi r.tiers, vi r.room, vi r.size, vi r.period, vi r.window, vi r.rest, vi r.tries, vi r.crew], .agg #[vi pa.id, vi pa.cabin, vi pa.from', vi pa.size, vi pa.tier, vi pa.since, vi pa.turn, vi pa.state, vi pa.until', vi pa.asked], vi now] (some 10) (RV (.bool (partyOk r pa now))) (fun w hw => iPartyOk_c w r r_seats_a r_seats_c (hr_seats.fr hw.fr) pa now) ?_))))))))))
 rintro ⟨⟩
 refine UU 1 [(11, B (!(partyOk r pa now)))] (NI (!(partyOk r pa now)) (fun bh1 => ?_) (fun bh1 => ?_))
 ·
  have h1 := notT bh1
  refine SEQ (RG (UU 1 [(6, I (-1))] (ENDOPS (NEXT (RF rfl (vi (-1)) () [] ?_ ?_)))))
  · (first | (simp_all [RV, levelOf, levelI_of]; done))
  · rfl
 ·
  have h1 := notF bh1
  refine SKIP (NEXT (SEQ (RG (UU 7 [(12, .v (.agg #[.slice r_seats_a r.seats.length r_seats_c, vi r.tiers, vi r.room, vi r.size, vi r.period, vi r.window, vi r.rest, vi r.tries, vi r.crew])), (14, I pa.tier), (18, I (wr (now - pa.since)))] (OPC (CA 93 #[.agg #[.slice r_seats_a r.seats.length r_seats_c, vi r.tiers, vi r.room, vi r.size, vi r.period, vi r.window, vi r.rest, vi r.tries, vi r.crew], vi pa.tier, vi (wr (now - pa.since))] (some 19) (RV (vi (levelI r pa.tier (wr (now - pa.since))))) (fun w hw => iLevel_c w r r_seats_a r_seats_c (hr_seats.fr hw.fr) pa.tier (wr (now - pa.since))) ?_))))))
  rintro ⟨⟩
  refine UU 1 [(6, I (levelI r pa.tier (wr (now - pa.since))))] (ENDOPS (NEXT (RF rfl (vi (levelI r pa.tier (wr (now - pa.since)))) () [] ?_ ?_)))
  · (first | (simp_all [RV, levelOf, levelI_of]; done))
  · rfl

theorem iEntryOf_c (W : World) (r : Rules) (r_seats_a : Option Addr) (r_seats_c : Nat) (hr_seats : Rd intL W r_seats_a r.seats) (pa : Party) (now : Int) : Spec Tryz.prog W [] 133 #[.agg #[.slice r_seats_a r.seats.length r_seats_c, vi r.tiers, vi r.room, vi r.size, vi r.period, vi r.window, vi r.rest, vi r.tries, vi r.crew], .agg #[vi pa.id, vi pa.cabin, vi pa.from', vi pa.size, vi pa.tier, vi pa.since, vi pa.turn, vi pa.state, vi pa.until', vi pa.asked], vi now] (RV (.tuple #[.agg #[vi ((entryOf r pa now).level), vi ((entryOf r pa now).turn), vi ((entryOf r pa now).id), vi ((entryOf r pa now).size)], .bool (entryOk r pa now)])) := by
 refine ENTER0 (N := 30) (vs := [.agg #[.slice r_seats_a r.seats.length r_seats_c, vi r.tiers, vi r.room, vi r.size, vi r.period, vi r.window, vi r.rest, vi r.tries, vi r.crew], .agg #[vi pa.id, vi pa.cabin, vi pa.from', vi pa.size, vi pa.tier, vi pa.since, vi pa.turn, vi pa.state, vi pa.until', vi pa.asked], vi now]) Tryz.func133 rfl rfl (NL rfl) ?_
 have hr_seats_len := hr_seats.len
 refine SEQ (RG (UL 4 [(3, .p 0 0), (4, .p 1 0), (6, .p 2 0)] [(26, [.slice r_seats_a r.seats.length r_seats_c, vi r.tiers, vi r.room, vi r.size, vi r.period, vi r.window, vi r.rest, vi r.tries, vi r.crew]), (46, partyE pa), (63, [vi 0, vi 0, vi 0, vi 0])] (ENDOPS (NEXT (SEQ (SEQ (RG (UU 3 [(8, .v (.agg #[.slice r_seats_a r.seats.length r_seats_c, vi r.tiers, vi r.room, vi r.size, vi r.period, vi r.window, vi r.rest, vi r.tries, vi r.crew])), (9, .v (.agg (partyE pa).toArray)), (10, I now)] (OPC (CA 90 #[.agg #[.slice r_seats_a r.seats.length r_seats_c, vi r.tiers, vi r.room, vi r.size, vi r.period, vi r.window, vi r.rest, vi r.tries, vi r.crew], .agg #[vi pa.id, vi pa.cabin, vi pa.from', vi pa.size, vi pa.tier, vi pa.since, vi pa.turn, vi pa.state, vi pa.until', vi pa.asked], vi now] (some 11) (RV (.bool (partyOk r pa now))) (fun w hw => iPartyOk_c w r r_seats_a r_seats_c (hr_seats.fr hw.fr) pa now) ?_))))))))))
 rintro ⟨⟩
 refine UU 2 [(13, B (!(partyOk r pa now)))] (SP 13 (!(partyOk r pa now)) (fun bh1 => ?_) (fun bh1 => ?_))
 ·
  have h1 := notT bh1
  refine UU 4 [(17, B true)] (ENDOPS (NEXT (IFT (by kernel_rfl) (SEQ (RG (UU 3 [(7, B false)] (ENDOPS (NEXT (RF rfl (.tuple #[.agg #[vi 0, vi 0, vi 0, vi 0], .bool false]) () [] ?_ ?_)))))))))
  · simp_all [RV, entryOf, entryOk_iff]
  · rfl
 ·
  have h1 := notF bh1
  refine UU 4 [(17, B (pa.state != 1))] (NI (pa.state != 1) (fun bh2 => ?_) (fun bh2 => ?_))
  ·
   have h2 := bne_iff_ne.1 bh2
   refine SEQ (RG (UU 3 [(7, B false)] (ENDOPS (NEXT (RF rfl (.tuple #[.agg #[vi 0, vi 0, vi 0, vi 0], .bool false]) () [] ?_ ?_)))))
   · simp_all [RV, entryOf, entryOk_iff]
   · rfl
  ·
   have h2 := bneF bh2
   refine SKIP (NEXT (SEQ (EXPORT (fun bs hbs => ?_))))
   obtain ⟨b3, b4, b5, rfl⟩ := len3 hbs
   refine REGIONH (by kernel_rfl) 13 rfl [ptC b3 26 [.slice r_seats_a r.seats.length r_seats_c, vi r.tiers, vi r.room, vi r.size, vi r.period, vi r.window, vi r.rest, vi r.tries, vi r.crew], ptC b4 46 [vi pa.id, vi pa.cabin, vi pa.from', vi pa.size, vi pa.tier, vi pa.since, vi pa.turn, vi pa.state, vi pa.until', vi pa.asked]] (HLOADE (i := 0) (js := [0, 0])  26 (.tmp 3) 19 26 (by kernel_rfl) (NL rfl) (some ⟨b3, 0, none⟩) 0 0 ([.slice r_seats_a r.seats.length r_seats_c, vi r.tiers, vi r.room, vi r.size, vi r.period, vi r.window, vi r.rest, vi r.tries, vi r.crew]) (.agg #[.slice r_seats_a r.seats.length r_seats_c, vi r.tiers, vi r.room, vi r.size, vi r.period, vi r.window, vi r.rest, vi r.tries, vi r.crew]) (by kernel_rfl) (fun w hw => ptC_elem (hw.own 0 rfl)) (by kernel_rfl) (by kernel_rfl) rfl (HLOADE (i := 1) (js := [0, 0])  46 (.tmp 4) 20 46 (by kernel_rfl) (NL rfl) (some ⟨b4, 0, none⟩) 0 0 (partyE pa) (.agg (partyE pa).toArray) (by kernel_rfl) (fun w hw => ptC_elem (hw.own 1 rfl)) (by kernel_rfl) (by kernel_rfl) rfl (HP [0, 0] 2 [(21, I now)] (HP [0, 0] 4 [(23, .e (some ⟨b4, 0, none⟩) 0 6)] (HLOADE (i := 5) (js := [0, 0])  3 (.tmp 23) 24 3 (by kernel_rfl) (NL rfl) (some ⟨b4, 0, none⟩) 0 6 (partyE pa) (vi pa.turn) (by kernel_rfl) (fun w hw => ptC_elem (hw.own 1 rfl)) (by kernel_rfl) (by kernel_rfl) rfl (HP [0, 0] 6 [(25, .e (some ⟨b4, 0, none⟩) 0 0)] (HLOADE (i := 7) (js := [0, 0])  3 (.tmp 25) 26 3 (by kernel_rfl) (NL rfl) (some ⟨b4, 0, none⟩) 0 0 (partyE pa) (vi pa.id) (by kernel_rfl) (fun w hw => ptC_elem (hw.own 1 rfl)) (by kernel_rfl) (by kernel_rfl) rfl ?_)))))))
   refine HP [0, 0] 8 [(27, .e (some ⟨b4, 0, none⟩) 0 3)] (HLOADE (i := 9) (js := [0, 0])  3 (.tmp 27) 28 3 (by kernel_rfl) (NL rfl) (some ⟨b4, 0, none⟩) 0 3 (partyE pa) (vi pa.size) (by kernel_rfl) (fun w hw => ptC_elem (hw.own 1 rfl)) (by kernel_rfl) (by kernel_rfl) rfl (HALL [3] (by kernel_rfl) (by decide) (CA 58 #[.agg #[.slice r_seats_a r.seats.length r_seats_c, vi r.tiers, vi r.room, vi r.size, vi r.period, vi r.window, vi r.rest, vi r.tries, vi r.crew], .agg #[vi pa.id, vi pa.cabin, vi pa.from', vi pa.size, vi pa.tier, vi pa.since, vi pa.turn, vi pa.state, vi pa.until', vi pa.asked], vi now] (some 22) (RV (vi (levelOf r pa now))) (fun w hw => iLevelOf_c w r r_seats_a r_seats_c (hr_seats.fr hw.fr) pa now) ?_)))
   rintro ⟨⟩
   refine HKEEP (js := [0, 0]) rfl (HP [0, 0] 10 [(29, .v (.agg #[vi (levelOf r pa now), vi pa.turn, vi pa.id, vi pa.size]))] (HALL [11] (by kernel_rfl) (by decide) (STOREC 63 (.tmp 6) (.tmp 29) 0 (by kernel_rfl) 2 _ b5 0 63 [vi 0, vi 0, vi 0, vi 0] [vi (levelOf r pa now), vi pa.turn, vi pa.id, vi pa.size] rfl (.agg #[vi (levelOf r pa now), vi pa.turn, vi pa.id, vi pa.size]) (by kernel_rfl) (by kernel_rfl) (by kernel_rfl) (HKEEP (js := [0, 0]) rfl (HP [0, 0] 12 [(7, B true)] (HEND (by kernel_rfl) (IMPORT (L0 := [(26, [.slice r_seats_a r.seats.length r_seats_c, vi r.tiers, vi r.room, vi r.size, vi r.period, vi r.window, vi r.rest, vi r.tries, vi r.crew]), (46, partyE pa), (63, [vi (levelOf r pa now), vi pa.turn, vi pa.id, vi pa.size])]) (L1 := []) [b3, b4, b5] rfl [0, 0, 0] _ rfl [(6, .p 2 0), (7, B true)] (by kernel_rfl) (by kernel_rfl) (NEXT (RF rfl (.tuple #[.agg #[vi (levelOf r pa now), vi pa.turn, vi pa.id, vi pa.size], .bool true]) () [] ?_ ?_)))))))))
   · simp_all [RV, entryOf, entryOk_iff]
   · rfl

theorem iCountIn_c (W : World) (list : List Party) (list_a : Option Addr) (list_c : Nat) (hlist : Rd partyL W list_a list) (cabin : Int) : Spec Tryz.prog W [] 91 #[.slice list_a list.length list_c, vi cabin] (RV (vi (countGo list cabin 0))) := by
 refine ENTER0 (N := 22) (vs := [.slice list_a list.length list_c, vi cabin]) Tryz.func91 rfl rfl (NL rfl) ?_
 have hlist_len := hlist.len
 refine SEQ (RG (UU 1 [] (NR (UU 1 [(5, I 0)] (ENDOPS (NEXT (SEQ (SEQ (RG (UU 3 [(8, .v (.slice list_a list.length list_c)), (9, I (list.length : Int)), (10, I 0)] (ENDOPS (NEXT (BLOCK (LOOP (ι := Nat × (List Party) × Int) (fun j => [(1, I cabin), (5, I j.2.2), (8, .v (.slice list_a list.length list_c)), (9, I (list.length : Int)), (10, I (j.1 : Int))]) (fun j => []) (fun j => []) (fun j => j.1 + j.2.1.length = list.length ∧ list.drop j.1 = j.2.1 ∧ countGo list cabin 0 = countGo j.2.1 cabin j.2.2) (fun j => j.2.1.length) (0, list, 0) [1, 5, 8, 9, 10] ⟨by simp, rfl, rfl⟩ (by kernel_rfl) rfl rfl ?_))))))))))))))
 rintro ⟨k, ys, n⟩ ⟨hk, hd, hv0⟩
 try dsimp only at hk hd hv0
 refine SEQ (RG (UU 1 [(11, B (decide ((k : Int) < (list.length : Int))))] (ENDOPS (NEXT (SEQ (IFK (decide ((k : Int) < (list.length : Int))) (fun bh1 => ?_) (fun bh1 => ?_)))))))
 ·
  have h1 := of_decide_eq_true bh1
  obtain ⟨y2, ys3, rfl, hx_y2, hd_y2, hl_y2⟩ := drop_cons hd hk (by omega)
  refine SKIP (NEXT (SEQ (BLOCK (SEQ (RG (OPC (IX 27 (.tmp 8) (.tmp 10) 12 0 list_a list.length list_c .i64 (k : Int) 46 10 (Rd.some hlist (by omega)) (by omega) (by omega) (OPC (LE 46 (.tmp 12) 13 46 list_a (k * 10) 0 (partyE y2) (.agg (partyE y2).toArray) (fun w hw => (hlist.fr hw.fr).flat hx_y2) (UL 2 [(7, .p 0 0)] [(46, partyE y2)] (NR (UU 4 [(17, B (y2.cabin == cabin))] (NI (y2.cabin == cabin) (fun bh4 => ?_) (fun bh4 => ?_))))))))))))))
  ·
   have h4 := eq_of_beq bh4
   refine RG (UU 3 [(5, I (wr (n + 1)))] (ENDOPS (OUTN (NEXT (RG (UU 1 [(20, I (wr ((k : Int) + 1)))] (CS 20 (vi (wr ((k : Int) + 1))) (vi ((k + 1 : Nat) : Int)) (vi_cast (by omega) (by omega)) (UU 1 [(10, I ((k + 1 : Nat) : Int))] (ENDOPS (BK (k + 1, ys3, wr (n + 1)) [1, 5, 8, 9, 10] 0 [] ⟨hl_y2, hd_y2, (hv0.trans (by simp_all [countGo]))⟩ (by simp)))))))))))
  ·
   have h4 := ne_of_beq_false bh4
   refine SKIP (OUTN (NEXT (RG (UU 1 [(20, I (wr ((k : Int) + 1)))] (CS 20 (vi (wr ((k : Int) + 1))) (vi ((k + 1 : Nat) : Int)) (vi_cast (by omega) (by omega)) (UU 1 [(10, I ((k + 1 : Nat) : Int))] (ENDOPS (BK (k + 1, ys3, n) [1, 5, 8, 9, 10] 0 [] ⟨hl_y2, hd_y2, (hv0.trans (by simp_all [countGo]))⟩ (by simp)))))))))
 ·
  have h1 := of_decide_eq_false bh1
  obtain rfl := drop_nil hk (by omega)
  refine EXIT (PASS trivial (PASS trivial (OUT (NEXT (SEQ (RG (UU 2 [(4, I n)] (ENDOPS (NEXT (RF rfl (vi n) () [] ?_ ?_))))))))))
  · simp_all [RV, countGo]
  · rfl

theorem iHeldIn_c (W : World) (list : List Party) (list_a : Option Addr) (list_c : Nat) (hlist : Rd partyL W list_a list) (cabin : Int) : Spec Tryz.prog W [] 117 #[.slice list_a list.length list_c, vi cabin] (RV (vi (heldGo list cabin 0))) := by
 refine ENTER0 (N := 34) (vs := [.slice list_a list.length list_c, vi cabin]) Tryz.func117 rfl rfl (NL rfl) ?_
 have hlist_len := hlist.len
 refine SEQ (RG (UU 1 [] (NR (UU 1 [(5, I 0)] (ENDOPS (NEXT (SEQ (SEQ (RG (UU 3 [(8, .v (.slice list_a list.length list_c)), (9, I (list.length : Int)), (10, I 0)] (ENDOPS (NEXT (BLOCK (LOOP (ι := Nat × (List Party) × Int) (fun j => [(1, I cabin), (5, I j.2.2), (8, .v (.slice list_a list.length list_c)), (9, I (list.length : Int)), (10, I (j.1 : Int))]) (fun j => []) (fun j => []) (fun j => j.1 + j.2.1.length = list.length ∧ list.drop j.1 = j.2.1 ∧ heldGo list cabin 0 = heldGo j.2.1 cabin j.2.2) (fun j => j.2.1.length) (0, list, 0) [1, 5, 8, 9, 10] ⟨by simp, rfl, rfl⟩ (by kernel_rfl) rfl rfl ?_))))))))))))))
 rintro ⟨k, ys, n⟩ ⟨hk, hd, hv0⟩
 try dsimp only at hk hd hv0
 refine SEQ (RG (UU 1 [(11, B (decide ((k : Int) < (list.length : Int))))] (ENDOPS (NEXT (SEQ (IFK (decide ((k : Int) < (list.length : Int))) (fun bh1 => ?_) (fun bh1 => ?_)))))))
 ·
  have h1 := of_decide_eq_true bh1
  obtain ⟨y2, ys3, rfl, hx_y2, hd_y2, hl_y2⟩ := drop_cons hd hk (by omega)
  refine SKIP (NEXT (SEQ (BLOCK (SEQ (RG (OPC (IX 27 (.tmp 8) (.tmp 10) 12 0 list_a list.length list_c .i64 (k : Int) 46 10 (Rd.some hlist (by omega)) (by omega) (by omega) (OPC (LE 46 (.tmp 12) 13 46 list_a (k * 10) 0 (partyE y2) (.agg (partyE y2).toArray) (fun w hw => (hlist.fr hw.fr).flat hx_y2) (UL 2 [(7, .p 0 0)] [(46, partyE y2)] (NR (UU 4 [(17, B (y2.state == 2))] (SP 17 (y2.state == 2) (fun bh4 => ?_) (fun bh4 => ?_))))))))))))))
  ·
   have h4 := eq_of_beq bh4
   refine UU 6 [(23, B (y2.cabin == cabin))] (SP 23 (y2.cabin == cabin) (fun bh5 => ?_) (fun bh5 => ?_))
   ·
    have h5 := eq_of_beq bh5
    refine UU 2 [(25, I y2.size)] (OPC (CA 43 #[vi y2.size, vi 1, vi 6] (some 26) (RV (.bool (inB y2.size 1 6))) (fun w hw => within_c w y2.size 1 6) ?_))
    rintro ⟨⟩
    refine UU 1 [(27, B (inB y2.size 1 6))] (NI (inB y2.size 1 6) (fun bh6 => ?_) (fun bh6 => ?_))
    ·
     have h6 := bh6
     refine RG (UU 5 [(5, I (wr (n + y2.size)))] (ENDOPS (OUTN (NEXT (RG (UU 1 [(32, I (wr ((k : Int) + 1)))] (CS 32 (vi (wr ((k : Int) + 1))) (vi ((k + 1 : Nat) : Int)) (vi_cast (by omega) (by omega)) (UU 1 [(10, I ((k + 1 : Nat) : Int))] (ENDOPS (BK (k + 1, ys3, wr (n + y2.size)) [1, 5, 8, 9, 10] 0 [] ⟨hl_y2, hd_y2, (hv0.trans (by simp_all [heldGo]))⟩ (by simp)))))))))))
    ·
     have h6 := bh6
     refine SKIP (OUTN (NEXT (RG (UU 1 [(32, I (wr ((k : Int) + 1)))] (CS 32 (vi (wr ((k : Int) + 1))) (vi ((k + 1 : Nat) : Int)) (vi_cast (by omega) (by omega)) (UU 1 [(10, I ((k + 1 : Nat) : Int))] (ENDOPS (BK (k + 1, ys3, n) [1, 5, 8, 9, 10] 0 [] ⟨hl_y2, hd_y2, (hv0.trans (by simp_all [heldGo]))⟩ (by simp)))))))))
   ·
    have h5 := ne_of_beq_false bh5
    refine UU 4 [(27, B false)] (ENDOPS (NEXT (IFF (by kernel_rfl) (SKIP (OUTN (NEXT (RG (UU 1 [(32, I (wr ((k : Int) + 1)))] (CS 32 (vi (wr ((k : Int) + 1))) (vi ((k + 1 : Nat) : Int)) (vi_cast (by omega) (by omega)) (UU 1 [(10, I ((k + 1 : Nat) : Int))] (ENDOPS (BK (k + 1, ys3, n) [1, 5, 8, 9, 10] 0 [] ⟨hl_y2, hd_y2, (hv0.trans (by simp_all [heldGo]))⟩ (by simp)))))))))))))
  ·
   have h4 := ne_of_beq_false bh4
   refine UU 10 [(27, B false)] (ENDOPS (NEXT (IFF (by kernel_rfl) (SKIP (OUTN (NEXT (RG (UU 1 [(32, I (wr ((k : Int) + 1)))] (CS 32 (vi (wr ((k : Int) + 1))) (vi ((k + 1 : Nat) : Int)) (vi_cast (by omega) (by omega)) (UU 1 [(10, I ((k + 1 : Nat) : Int))] (ENDOPS (BK (k + 1, ys3, n) [1, 5, 8, 9, 10] 0 [] ⟨hl_y2, hd_y2, (hv0.trans (by simp_all [heldGo]))⟩ (by simp)))))))))))))
 ·
  have h1 := of_decide_eq_false bh1
  obtain rfl := drop_nil hk (by omega)
  refine EXIT (PASS trivial (PASS trivial (OUT (NEXT (SEQ (RG (UU 2 [(4, I n)] (ENDOPS (NEXT (RF rfl (vi n) () [] ?_ ?_))))))))))
  · simp_all [RV, heldGo]
  · rfl

theorem iTiedIn_c (W : World) (list : List Party) (list_a : Option Addr) (list_c : Nat) (hlist : Rd partyL W list_a list) (cabin : Int) : Spec Tryz.prog W [] 118 #[.slice list_a list.length list_c, vi cabin] (RV (vi (tiedGo list cabin 0))) := by
 refine ENTER0 (N := 29) (vs := [.slice list_a list.length list_c, vi cabin]) Tryz.func118 rfl rfl (NL rfl) ?_
 have hlist_len := hlist.len
 refine SEQ (RG (UU 1 [] (NR (UU 1 [(5, I 0)] (ENDOPS (NEXT (SEQ (SEQ (RG (UU 3 [(8, .v (.slice list_a list.length list_c)), (9, I (list.length : Int)), (10, I 0)] (ENDOPS (NEXT (BLOCK (LOOP (ι := Nat × (List Party) × Int) (fun j => [(1, I cabin), (5, I j.2.2), (8, .v (.slice list_a list.length list_c)), (9, I (list.length : Int)), (10, I (j.1 : Int))]) (fun j => []) (fun j => []) (fun j => j.1 + j.2.1.length = list.length ∧ list.drop j.1 = j.2.1 ∧ tiedGo list cabin 0 = tiedGo j.2.1 cabin j.2.2) (fun j => j.2.1.length) (0, list, 0) [1, 5, 8, 9, 10] ⟨by simp, rfl, rfl⟩ (by kernel_rfl) rfl rfl ?_))))))))))))))
 rintro ⟨k, ys, n⟩ ⟨hk, hd, hv0⟩
 try dsimp only at hk hd hv0
 refine SEQ (RG (UU 1 [(11, B (decide ((k : Int) < (list.length : Int))))] (ENDOPS (NEXT (SEQ (IFK (decide ((k : Int) < (list.length : Int))) (fun bh1 => ?_) (fun bh1 => ?_)))))))
 ·
  have h1 := of_decide_eq_true bh1
  obtain ⟨y2, ys3, rfl, hx_y2, hd_y2, hl_y2⟩ := drop_cons hd hk (by omega)
  refine SKIP (NEXT (SEQ (BLOCK (SEQ (RG (OPC (IX 27 (.tmp 8) (.tmp 10) 12 0 list_a list.length list_c .i64 (k : Int) 46 10 (Rd.some hlist (by omega)) (by omega) (by omega) (OPC (LE 46 (.tmp 12) 13 46 list_a (k * 10) 0 (partyE y2) (.agg (partyE y2).toArray) (fun w hw => (hlist.fr hw.fr).flat hx_y2) (UL 2 [(7, .p 0 0)] [(46, partyE y2)] (NR (UU 5 [(18, B (y2.from' == cabin))] (SP 18 (y2.from' == cabin) (fun bh4 => ?_) (fun bh4 => ?_))))))))))))))
  ·
   have h4 := eq_of_beq bh4
   refine UU 2 [(20, I y2.size)] (OPC (CA 43 #[vi y2.size, vi 1, vi 6] (some 21) (RV (.bool (inB y2.size 1 6))) (fun w hw => within_c w y2.size 1 6) ?_))
   rintro ⟨⟩
   refine UU 1 [(22, B (inB y2.size 1 6))] (NI (inB y2.size 1 6) (fun bh5 => ?_) (fun bh5 => ?_))
   ·
    have h5 := bh5
    refine RG (UU 5 [(5, I (wr (n + y2.size)))] (ENDOPS (OUTN (NEXT (RG (UU 1 [(27, I (wr ((k : Int) + 1)))] (CS 27 (vi (wr ((k : Int) + 1))) (vi ((k + 1 : Nat) : Int)) (vi_cast (by omega) (by omega)) (UU 1 [(10, I ((k + 1 : Nat) : Int))] (ENDOPS (BK (k + 1, ys3, wr (n + y2.size)) [1, 5, 8, 9, 10] 0 [] ⟨hl_y2, hd_y2, (hv0.trans (by simp_all [tiedGo]))⟩ (by simp)))))))))))
   ·
    have h5 := bh5
    refine SKIP (OUTN (NEXT (RG (UU 1 [(27, I (wr ((k : Int) + 1)))] (CS 27 (vi (wr ((k : Int) + 1))) (vi ((k + 1 : Nat) : Int)) (vi_cast (by omega) (by omega)) (UU 1 [(10, I ((k + 1 : Nat) : Int))] (ENDOPS (BK (k + 1, ys3, n) [1, 5, 8, 9, 10] 0 [] ⟨hl_y2, hd_y2, (hv0.trans (by simp_all [tiedGo]))⟩ (by simp)))))))))
  ·
   have h4 := ne_of_beq_false bh4
   refine UU 4 [(22, B false)] (ENDOPS (NEXT (IFF (by kernel_rfl) (SKIP (OUTN (NEXT (RG (UU 1 [(27, I (wr ((k : Int) + 1)))] (CS 27 (vi (wr ((k : Int) + 1))) (vi ((k + 1 : Nat) : Int)) (vi_cast (by omega) (by omega)) (UU 1 [(10, I ((k + 1 : Nat) : Int))] (ENDOPS (BK (k + 1, ys3, n) [1, 5, 8, 9, 10] 0 [] ⟨hl_y2, hd_y2, (hv0.trans (by simp_all [tiedGo]))⟩ (by simp)))))))))))))
 ·
  have h1 := of_decide_eq_false bh1
  obtain rfl := drop_nil hk (by omega)
  refine EXIT (PASS trivial (PASS trivial (OUT (NEXT (SEQ (RG (UU 2 [(4, I n)] (ENDOPS (NEXT (RF rfl (vi n) () [] ?_ ?_))))))))))
  · simp_all [RV, tiedGo]
  · rfl

end SX
end Go.Proofs.YtcbpmjfjdjpalaaGreat
