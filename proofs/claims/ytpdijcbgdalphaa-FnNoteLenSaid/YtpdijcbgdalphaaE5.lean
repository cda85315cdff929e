/- Walks, printed by program. -/
import Derived.Test.YtpdijcbgdalphaaE4
namespace Go.Proofs.Ytpdijcbgdalphaa
namespace SX
open Go Go.RowKit
set_option linter.unusedVariables false
set_option linter.unusedSimpArgs false
set_option maxRecDepth 10000
set_option maxHeartbeats 400000
theorem l6Right_c (W : World) (d : Cd) (hd : CodeOk W d) (p : Value) (r : Rules) (r_seats_a : Option Addr) (r_seats_c : Nat) (hr_seats : RdP W p intL r_seats_a r.seats) (now : Int) : Spec Try.prog W [curA d p] 32 #[p, .agg #[.slice r_seats_a r.seats.length r_seats_c, vi r.tiers, vi r.room, vi r.size, vi r.period, vi r.window, vi r.rest, vi r.tries, vi r.crew], vi now] (⟨{x : Party // True}, fun q => .agg #[vi q.1.id, vi q.1.cabin, vi q.1.from', vi q.1.size, vi q.1.tier, vi q.1.since, vi q.1.turn, vi q.1.state, vi q.1.until', vi q.1.asked], fun q => [curA (d) p]⟩) := by
  refine ENTERC (N := 70) (vs := [p, .agg #[.slice r_seats_a r.seats.length r_seats_c, vi r.tiers, vi r.room, vi r.size, vi r.period, vi r.window, vi r.rest, vi r.tries, vi r.crew], vi now]) Try.func32 rfl rfl (Nat.le_of_ble_eq_true rfl) (fun S0 hS hP => ?_)
  have hr_seats_len := hr_seats.len
  refine SEQ (REGION [0, 1] rfl (RUN 2 [] [(0, .v (p)), (2, I now), (4, .p 0 0), (6, .p 1 0)] [(41, [.slice r_seats_a r.seats.length r_seats_c, vi r.tiers, vi r.room, vi r.size, vi r.period, vi r.window, vi r.rest, vi r.tries, vi r.crew]), (62, [vi 0, vi 0, vi 0, vi 0, vi 0, vi 0, vi 0, vi 0, vi 0, vi 0])] ?_ rfl ?_))
  · as_aux_lemma => kernel_rfl
  refine ENDOPS (NEXT (SEQJ (ι := Int × Int × Int × Int × Int × Int) (fun j => [(0, .v (p)), (2, I now), (4, .p 0 0), (6, .p 1 0), (7, .p 2 0)]) (fun j => [(41, [.slice r_seats_a r.seats.length r_seats_c, vi r.tiers, vi r.room, vi r.size, vi r.period, vi r.window, vi r.rest, vi r.tries, vi r.crew]), (62, [vi 0, vi 0, vi 0, vi 0, vi 0, vi 0, vi 0, vi 0, vi 0, vi 0]), (62, [vi j.1, vi j.2.1, vi (-1), vi j.2.2.1, vi j.2.2.2.1, vi 0, vi j.2.2.2.2.1, vi 1, vi 0, vi j.2.2.2.2.2])]) (fun j => [curA d p]) (fun j => True) ?_ ?_))
  · -- up to where the ways meet
    refine EXPORT (fun bs hbs => ?_)
    obtain ⟨b1, b2, rfl⟩ := len2 hbs
    refine REGIONH ?_ 27 rfl [ptC b1 41 [.slice r_seats_a r.seats.length r_seats_c, vi r.tiers, vi r.room, vi r.size, vi r.period, vi r.window, vi r.rest, vi r.tries, vi r.crew], ptC b2 62 [vi 0, vi 0, vi 0, vi 0, vi 0, vi 0, vi 0, vi 0, vi 0, vi 0]] ?_
    · as_aux_lemma => kernel_rfl
    refine HPURE (js := [0, 0]) 0 [(0, .v (p)), (2, I now), (4, .e (some ⟨b1, 0, none⟩) 0 0), (6, .e (some ⟨b2, 0, none⟩) 0 0), (8, .v (p))] ?_ ?_ rfl ?_
    · as_aux_lemma => kernel_rfl
    · as_aux_lemma => kernel_rfl
    refine HPURE (js := [0, 0]) 3 [(0, .v (p)), (2, I now), (4, .e (some ⟨b1, 0, none⟩) 0 0), (6, .e (some ⟨b2, 0, none⟩) 0 0), (8, .v (p)), (11, .v (p))] ?_ ?_ rfl ?_
    · as_aux_lemma => kernel_rfl
    · as_aux_lemma => kernel_rfl
    refine HPURE (js := [0, 0]) 4 [(0, .v (p)), (2, I now), (4, .e (some ⟨b1, 0, none⟩) 0 0), (6, .e (some ⟨b2, 0, none⟩) 0 0), (8, .v (p)), (11, .v (p)), (12, .e (some ⟨b1, 0, none⟩) 0 0)] ?_ ?_ rfl ?_
    · as_aux_lemma => kernel_rfl
    · as_aux_lemma => kernel_rfl
    refine HLOADE (i := 5) (js := [0, 0])  39 (.tmp 12) 13 39 ?_ (Nat.le_of_ble_eq_true rfl) (some ⟨b1, 0, none⟩) 0 0 [.slice r_seats_a r.seats.length r_seats_c, vi r.tiers, vi r.room, vi r.size, vi r.period, vi r.window, vi r.rest, vi r.tries, vi r.crew] (.slice r_seats_a r.seats.length r_seats_c) ?_ (fun w hw => ptC_elem (hw.own 0 rfl)) ?_ ?_ rfl ?_
    · as_aux_lemma => kernel_rfl
    · as_aux_lemma => kernel_rfl
    · as_aux_lemma => kernel_rfl
    · as_aux_lemma => kernel_rfl
    refine HPURE (js := [0, 0]) 6 [(0, .v (p)), (2, I now), (4, .e (some ⟨b1, 0, none⟩) 0 0), (6, .e (some ⟨b2, 0, none⟩) 0 0), (8, .v (p)), (11, .v (p)), (14, I (r.seats.length : Int))] ?_ ?_ rfl ?_
    · as_aux_lemma => kernel_rfl
    · as_aux_lemma => kernel_rfl
    refine HPURE (js := [0, 0]) 8 [(0, .v (p)), (2, I now), (4, .e (some ⟨b1, 0, none⟩) 0 0), (6, .e (some ⟨b2, 0, none⟩) 0 0), (8, .v (p)), (11, .v (p)), (14, I (r.seats.length : Int)), (16, .v (p))] ?_ ?_ rfl ?_
    · as_aux_lemma => kernel_rfl
    · as_aux_lemma => kernel_rfl
    refine HPURE (js := [0, 0]) 9 [(0, .v (p)), (2, I now), (4, .e (some ⟨b1, 0, none⟩) 0 0), (6, .e (some ⟨b2, 0, none⟩) 0 0), (8, .v (p)), (11, .v (p)), (14, I (r.seats.length : Int)), (16, .v (p)), (17, .e (some ⟨b1, 0, none⟩) 0 3)] ?_ ?_ rfl ?_
    · as_aux_lemma => kernel_rfl
    · as_aux_lemma => kernel_rfl
    refine HLOADE (i := 10) (js := [0, 0])  3 (.tmp 17) 18 3 ?_ (Nat.le_of_ble_eq_true rfl) (some ⟨b1, 0, none⟩) 0 3 [.slice r_seats_a r.seats.length r_seats_c, vi r.tiers, vi r.room, vi r.size, vi r.period, vi r.window, vi r.rest, vi r.tries, vi r.crew] (vi r.size) ?_ (fun w hw => ptC_elem (hw.own 0 rfl)) ?_ ?_ rfl ?_
    · as_aux_lemma => kernel_rfl
    · as_aux_lemma => kernel_rfl
    · as_aux_lemma => kernel_rfl
    · as_aux_lemma => kernel_rfl
    refine HPURE (js := [0, 0]) 13 [(0, .v (p)), (2, I now), (4, .e (some ⟨b1, 0, none⟩) 0 0), (6, .e (some ⟨b2, 0, none⟩) 0 0), (8, .v (p)), (11, .v (p)), (14, I (r.seats.length : Int)), (16, .v (p)), (18, I r.size), (21, .v (p))] ?_ ?_ rfl ?_
    · as_aux_lemma => kernel_rfl
    · as_aux_lemma => kernel_rfl
    refine HPURE (js := [0, 0]) 14 [(0, .v (p)), (2, I now), (4, .e (some ⟨b1, 0, none⟩) 0 0), (6, .e (some ⟨b2, 0, none⟩) 0 0), (8, .v (p)), (11, .v (p)), (14, I (r.seats.length : Int)), (16, .v (p)), (18, I r.size), (21, .v (p)), (22, .e (some ⟨b1, 0, none⟩) 0 1)] ?_ ?_ rfl ?_
    · as_aux_lemma => kernel_rfl
    · as_aux_lemma => kernel_rfl
    refine HLOADE (i := 15) (js := [0, 0])  3 (.tmp 22) 23 3 ?_ (Nat.le_of_ble_eq_true rfl) (some ⟨b1, 0, none⟩) 0 1 [.slice r_seats_a r.seats.length r_seats_c, vi r.tiers, vi r.room, vi r.size, vi r.period, vi r.window, vi r.rest, vi r.tries, vi r.crew] (vi r.tiers) ?_ (fun w hw => ptC_elem (hw.own 0 rfl)) ?_ ?_ rfl ?_
    · as_aux_lemma => kernel_rfl
    · as_aux_lemma => kernel_rfl
    · as_aux_lemma => kernel_rfl
    · as_aux_lemma => kernel_rfl
    refine HPURE (js := [0, 0]) 17 [(0, .v (p)), (2, I now), (4, .e (some ⟨b1, 0, none⟩) 0 0), (6, .e (some ⟨b2, 0, none⟩) 0 0), (8, .v (p)), (11, .v (p)), (14, I (r.seats.length : Int)), (16, .v (p)), (18, I r.size), (21, .v (p)), (23, I r.tiers), (25, .v (p))] ?_ ?_ rfl ?_
    · as_aux_lemma => kernel_rfl
    · as_aux_lemma => kernel_rfl
    refine HPURE (js := [0, 0]) 20 [(0, .v (p)), (2, I now), (4, .e (some ⟨b1, 0, none⟩) 0 0), (6, .e (some ⟨b2, 0, none⟩) 0 0), (8, .v (p)), (11, .v (p)), (14, I (r.seats.length : Int)), (16, .v (p)), (18, I r.size), (21, .v (p)), (23, I r.tiers), (25, .v (p)), (28, .v (p))] ?_ ?_ rfl ?_
    · as_aux_lemma => kernel_rfl
    · as_aux_lemma => kernel_rfl
    refine HPURE (js := [0, 0]) 21 [(0, .v (p)), (2, I now), (4, .e (some ⟨b1, 0, none⟩) 0 0), (6, .e (some ⟨b2, 0, none⟩) 0 0), (8, .v (p)), (11, .v (p)), (14, I (r.seats.length : Int)), (16, .v (p)), (18, I r.size), (21, .v (p)), (23, I r.tiers), (25, .v (p)), (28, .v (p)), (29, .e (some ⟨b1, 0, none⟩) 0 7)] ?_ ?_ rfl ?_
    · as_aux_lemma => kernel_rfl
    · as_aux_lemma => kernel_rfl
    refine HLOADE (i := 22) (js := [0, 0])  3 (.tmp 29) 30 3 ?_ (Nat.le_of_ble_eq_true rfl) (some ⟨b1, 0, none⟩) 0 7 [.slice r_seats_a r.seats.length r_seats_c, vi r.tiers, vi r.room, vi r.size, vi r.period, vi r.window, vi r.rest, vi r.tries, vi r.crew] (vi r.tries) ?_ (fun w hw => ptC_elem (hw.own 0 rfl)) ?_ ?_ rfl ?_
    · as_aux_lemma => kernel_rfl
    · as_aux_lemma => kernel_rfl
    · as_aux_lemma => kernel_rfl
    · as_aux_lemma => kernel_rfl
    refine HALL [1, 25] ?_ (by decide) ⟨?_, ?_⟩
    · as_aux_lemma => kernel_rfl
    · -- operation 1 next
      refine CALL 23 #[p, vi 12] (some 9) ?_ [2] [curA (d) p] _ rfl (⟨{x : Int // 0 ≤ x ∧ (12 ≤ 0 → x = 0) ∧ (0 < 12 → x < 12)}, fun q => vi q.1, fun q => [curA (d) p]⟩) (fun w hw => l1Below_c w (d) (hd.fr hw.fr hS) p 12) (by rintro _ ⟨⟩; exact Nat.le_of_ble_eq_true rfl) ?_
      · as_aux_lemma => kernel_rfl
      rintro ⟨m3, hm4⟩
      try dsimp only at hm4
      refine HKEEP (js := [0, 0]) rfl (HPURE (js := [0, 0]) 2 [(0, .v (p)), (2, I now), (4, .e (some ⟨b1, 0, none⟩) 0 0), (6, .e (some ⟨b2, 0, none⟩) 0 0), (10, I (wr (1 + m3))), (11, .v (p)), (14, I (r.seats.length : Int)), (16, .v (p)), (18, I r.size), (21, .v (p)), (23, I r.tiers), (25, .v (p)), (28, .v (p)), (30, I r.tries)] ?_ ?_ rfl ?_)
      · as_aux_lemma => kernel_rfl
      · as_aux_lemma => kernel_rfl
      refine HALL [7, 25] ?_ (by decide) ⟨?_, ?_⟩
      · as_aux_lemma => kernel_rfl
      · -- operation 7 next
        refine CALL 23 #[p, vi (r.seats.length : Int)] (some 15) ?_ [2] [curA (d) p] _ rfl (⟨{x : Int // 0 ≤ x ∧ ((r.seats.length : Int) ≤ 0 → x = 0) ∧ (0 < (r.seats.length : Int) → x < (r.seats.length : Int))}, fun q => vi q.1, fun q => [curA (d) p]⟩) (fun w hw => l1Below_c w (d) (hd.fr hw.fr hS) p (r.seats.length : Int)) (by rintro _ ⟨⟩; exact Nat.le_of_ble_eq_true rfl) ?_
        · as_aux_lemma => kernel_rfl
        rintro ⟨m5, hm6⟩
        try dsimp only at hm6
        refine HKEEP (js := [0, 0]) rfl (HALL [11, 25] ?_ (by decide) ⟨?_, ?_⟩)
        · as_aux_lemma => kernel_rfl
        · -- operation 11 next
          refine CALL 23 #[p, vi r.size] (some 19) ?_ [2] [curA (d) p] _ rfl (⟨{x : Int // 0 ≤ x ∧ (r.size ≤ 0 → x = 0) ∧ (0 < r.size → x < r.size)}, fun q => vi q.1, fun q => [curA (d) p]⟩) (fun w hw => l1Below_c w (d) (hd.fr hw.fr hS) p r.size) (by rintro _ ⟨⟩; exact Nat.le_of_ble_eq_true rfl) ?_
          · as_aux_lemma => kernel_rfl
          rintro ⟨m7, hm8⟩
          try dsimp only at hm8
          refine HKEEP (js := [0, 0]) rfl (HPURE (js := [0, 0]) 12 [(0, .v (p)), (2, I now), (4, .e (some ⟨b1, 0, none⟩) 0 0), (6, .e (some ⟨b2, 0, none⟩) 0 0), (10, I (wr (1 + m3))), (15, I m5), (20, I (wr (1 + m7))), (21, .v (p)), (23, I r.tiers), (25, .v (p)), (28, .v (p)), (30, I r.tries)] ?_ ?_ rfl ?_)
          · as_aux_lemma => kernel_rfl
          · as_aux_lemma => kernel_rfl
          refine HALL [16, 25] ?_ (by decide) ⟨?_, ?_⟩
          · as_aux_lemma => kernel_rfl
          · -- operation 16 next
            refine CALL 23 #[p, vi r.tiers] (some 24) ?_ [2] [curA (d) p] _ rfl (⟨{x : Int // 0 ≤ x ∧ (r.tiers ≤ 0 → x = 0) ∧ (0 < r.tiers → x < r.tiers)}, fun q => vi q.1, fun q => [curA (d) p]⟩) (fun w hw => l1Below_c w (d) (hd.fr hw.fr hS) p r.tiers) (by rintro _ ⟨⟩; exact Nat.le_of_ble_eq_true rfl) ?_
            · as_aux_lemma => kernel_rfl
            rintro ⟨m9, hm10⟩
            try dsimp only at hm10
            refine HKEEP (js := [0, 0]) rfl (HALL [18, 25] ?_ (by decide) ⟨?_, ?_⟩)
            · as_aux_lemma => kernel_rfl
            · -- operation 18 next
              refine CALL 23 #[p, vi 40] (some 26) ?_ [2] [curA (d) p] _ rfl (⟨{x : Int // 0 ≤ x ∧ (40 ≤ 0 → x = 0) ∧ (0 < 40 → x < 40)}, fun q => vi q.1, fun q => [curA (d) p]⟩) (fun w hw => l1Below_c w (d) (hd.fr hw.fr hS) p 40) (by rintro _ ⟨⟩; exact Nat.le_of_ble_eq_true rfl) ?_
              · as_aux_lemma => kernel_rfl
              rintro ⟨m11, hm12⟩
              try dsimp only at hm12
              refine HKEEP (js := [0, 0]) rfl (HPURE (js := [0, 0]) 19 [(0, .v (p)), (2, I now), (4, .e (some ⟨b1, 0, none⟩) 0 0), (6, .e (some ⟨b2, 0, none⟩) 0 0), (10, I (wr (1 + m3))), (15, I m5), (20, I (wr (1 + m7))), (24, I m9), (27, I (wr (1 + m11))), (28, .v (p)), (30, I r.tries)] ?_ ?_ rfl ?_)
              · as_aux_lemma => kernel_rfl
              · as_aux_lemma => kernel_rfl
              refine HALL [23, 25] ?_ (by decide) ⟨?_, ?_⟩
              · as_aux_lemma => kernel_rfl
              · -- operation 23 next
                refine CALL 23 #[p, vi r.tries] (some 31) ?_ [2] [curA (d) p] _ rfl (⟨{x : Int // 0 ≤ x ∧ (r.tries ≤ 0 → x = 0) ∧ (0 < r.tries → x < r.tries)}, fun q => vi q.1, fun q => [curA (d) p]⟩) (fun w hw => l1Below_c w (d) (hd.fr hw.fr hS) p r.tries) (by rintro _ ⟨⟩; exact Nat.le_of_ble_eq_true rfl) ?_
                · as_aux_lemma => kernel_rfl
                rintro ⟨m13, hm14⟩
                try dsimp only at hm14
                refine HKEEP (js := [0, 0]) rfl (HPURE (js := [0, 0]) 24 [(0, .v (p)), (2, I now), (4, .e (some ⟨b1, 0, none⟩) 0 0), (6, .e (some ⟨b2, 0, none⟩) 0 0), (32, .v (.agg #[vi (wr (1 + m3)), vi m5, vi (-1), vi (wr (1 + m7)), vi m9, vi 0, vi (wr (1 + m11)), vi 1, vi 0, vi m13]))] ?_ ?_ rfl ?_)
                · as_aux_lemma => kernel_rfl
                · as_aux_lemma => kernel_rfl
                refine HALL [25] ?_ (by decide) ?_
                · as_aux_lemma => kernel_rfl
                refine RUNO [(0, .v (p)), (2, I now), (4, .e (some ⟨b1, 0, none⟩) 0 0), (6, .e (some ⟨b2, 0, none⟩) 0 0), (7, .p 0 0), (32, .v (.agg #[vi (wr (1 + m3)), vi m5, vi (-1), vi (wr (1 + m7)), vi m9, vi 0, vi (wr (1 + m11)), vi 1, vi 0, vi m13]))] [(62, [vi 0, vi 0, vi 0, vi 0, vi 0, vi 0, vi 0, vi 0, vi 0, vi 0])] ?_ ?_
                · as_aux_lemma => kernel_rfl
                refine HKEEP (js := [0, 0]) rfl (HALL [26] ?_ (by decide) ?_)
                · as_aux_lemma => kernel_rfl
                refine RUNO [(0, .v (p)), (2, I now), (4, .e (some ⟨b1, 0, none⟩) 0 0), (6, .e (some ⟨b2, 0, none⟩) 0 0), (7, .p 0 0)] [(62, [vi (wr (1 + m3)), vi m5, vi (-1), vi (wr (1 + m7)), vi m9, vi 0, vi (wr (1 + m11)), vi 1, vi 0, vi m13])] ?_ ?_
                · as_aux_lemma => kernel_rfl
                refine HKEEP (js := [0, 0]) rfl (HEND ?_ ?_)
                · as_aux_lemma => kernel_rfl
                refine IMPORT (L0 := [(41, [.slice r_seats_a r.seats.length r_seats_c, vi r.tiers, vi r.room, vi r.size, vi r.period, vi r.window, vi r.rest, vi r.tries, vi r.crew]), (62, [vi 0, vi 0, vi 0, vi 0, vi 0, vi 0, vi 0, vi 0, vi 0, vi 0])]) (L1 := [(62, [vi (wr (1 + m3)), vi m5, vi (-1), vi (wr (1 + m7)), vi m9, vi 0, vi (wr (1 + m11)), vi 1, vi 0, vi m13])]) [b1, b2] rfl [0, 0] _ rfl [(0, .v (p)), (2, I now), (4, .p 0 0), (6, .p 1 0), (7, .p 2 0)] ?_ ?_ ?_
                · as_aux_lemma => kernel_rfl
                · as_aux_lemma => kernel_rfl
                refine JBACK (wr (1 + m3), m5, wr (1 + m7), m9, wr (1 + m11), m13) [0, 2, 4, 6, 7] 3 [0] _ trivial ?_ rfl rfl rfl
                · as_aux_lemma => kernel_rfl
              · -- operation 25 next
                refine RUNO [(0, .v (p)), (2, I now), (4, .e (some ⟨b1, 0, none⟩) 0 0), (6, .e (some ⟨b2, 0, none⟩) 0 0), (7, .p 0 0), (10, I (wr (1 + m3))), (15, I m5), (20, I (wr (1 + m7))), (24, I m9), (27, I (wr (1 + m11))), (28, .v (p)), (30, I r.tries)] [(62, [vi 0, vi 0, vi 0, vi 0, vi 0, vi 0, vi 0, vi 0, vi 0, vi 0])] ?_ ?_
                · as_aux_lemma => kernel_rfl
                refine HKEEP (js := [0, 0]) rfl (HALL [23] ?_ (by decide) ?_)
                · as_aux_lemma => kernel_rfl
                refine CALL 23 #[p, vi r.tries] (some 31) ?_ [2] [curA (d) p] _ rfl (⟨{x : Int // 0 ≤ x ∧ (r.tries ≤ 0 → x = 0) ∧ (0 < r.tries → x < r.tries)}, fun q => vi q.1, fun q => [curA (d) p]⟩) (fun w hw => l1Below_c w (d) (hd.fr hw.fr hS) p r.tries) (by rintro _ ⟨⟩; exact Nat.le_of_ble_eq_true rfl) ?_
                · as_aux_lemma => kernel_rfl
                rintro ⟨m15, hm16⟩
                try dsimp only at hm16
                refine HKEEP (js := [0, 0]) rfl (HPURE (js := [0, 0]) 24 [(0, .v (p)), (2, I now), (4, .e (some ⟨b1, 0, none⟩) 0 0), (6, .e (some ⟨b2, 0, none⟩) 0 0), (7, .p 0 0), (32, .v (.agg #[vi (wr (1 + m3)), vi m5, vi (-1), vi (wr (1 + m7)), vi m9, vi 0, vi (wr (1 + m11)), vi 1, vi 0, vi m15]))] ?_ ?_ rfl ?_)
                · as_aux_lemma => kernel_rfl
                · as_aux_lemma => kernel_rfl
                refine HALL [26] ?_ (by decide) ?_
                · as_aux_lemma => kernel_rfl
                refine RUNO [(0, .v (p)), (2, I now), (4, .e (some ⟨b1, 0, none⟩) 0 0), (6, .e (some ⟨b2, 0, none⟩) 0 0), (7, .p 0 0)] [(62, [vi (wr (1 + m3)), vi m5, vi (-1), vi (wr (1 + m7)), vi m9, vi 0, vi (wr (1 + m11)), vi 1, vi 0, vi m15])] ?_ ?_
                · as_aux_lemma => kernel_rfl
                refine HKEEP (js := [0, 0]) rfl (HEND ?_ ?_)
                · as_aux_lemma => kernel_rfl
                refine IMPORT (L0 := [(41, [.slice r_seats_a r.seats.length r_seats_c, vi r.tiers, vi r.room, vi r.size, vi r.period, vi r.window, vi r.rest, vi r.tries, vi r.crew]), (62, [vi 0, vi 0, vi 0, vi 0, vi 0, vi 0, vi 0, vi 0, vi 0, vi 0])]) (L1 := [(62, [vi (wr (1 + m3)), vi m5, vi (-1), vi (wr (1 + m7)), vi m9, vi 0, vi (wr (1 + m11)), vi 1, vi 0, vi m15])]) [b1, b2] rfl [0, 0] _ rfl [(0, .v (p)), (2, I now), (4, .p 0 0), (6, .p 1 0), (7, .p 2 0)] ?_ ?_ ?_
                · as_aux_lemma => kernel_rfl
                · as_aux_lemma => kernel_rfl
                refine JBACK (wr (1 + m3), m5, wr (1 + m7), m9, wr (1 + m11), m15) [0, 2, 4, 6, 7] 3 [0] _ trivial ?_ rfl rfl rfl
                · as_aux_lemma => kernel_rfl
            · -- operation 25 next
              refine RUNO [(0, .v (p)), (2, I now), (4, .e (some ⟨b1, 0, none⟩) 0 0), (6, .e (some ⟨b2, 0, none⟩) 0 0), (7, .p 0 0), (10, I (wr (1 + m3))), (15, I m5), (20, I (wr (1 + m7))), (24, I m9), (25, .v (p)), (28, .v (p)), (30, I r.tries)] [(62, [vi 0, vi 0, vi 0, vi 0, vi 0, vi 0, vi 0, vi 0, vi 0, vi 0])] ?_ ?_
              · as_aux_lemma => kernel_rfl
              refine HKEEP (js := [0, 0]) rfl (HALL [18] ?_ (by decide) ?_)
              · as_aux_lemma => kernel_rfl
              refine CALL 23 #[p, vi 40] (some 26) ?_ [2] [curA (d) p] _ rfl (⟨{x : Int // 0 ≤ x ∧ (40 ≤ 0 → x = 0) ∧ (0 < 40 → x < 40)}, fun q => vi q.1, fun q => [curA (d) p]⟩) (fun w hw => l1Below_c w (d) (hd.fr hw.fr hS) p 40) (by rintro _ ⟨⟩; exact Nat.le_of_ble_eq_true rfl) ?_
              · as_aux_lemma => kernel_rfl
              rintro ⟨m17, hm18⟩
              try dsimp only at hm18
              refine HKEEP (js := [0, 0]) rfl (HPURE (js := [0, 0]) 19 [(0, .v (p)), (2, I now), (4, .e (some ⟨b1, 0, none⟩) 0 0), (6, .e (some ⟨b2, 0, none⟩) 0 0), (7, .p 0 0), (10, I (wr (1 + m3))), (15, I m5), (20, I (wr (1 + m7))), (24, I m9), (27, I (wr (1 + m17))), (28, .v (p)), (30, I r.tries)] ?_ ?_ rfl ?_)
              · as_aux_lemma => kernel_rfl
              · as_aux_lemma => kernel_rfl
              refine HALL [23] ?_ (by decide) ?_
              · as_aux_lemma => kernel_rfl
              refine CALL 23 #[p, vi r.tries] (some 31) ?_ [2] [curA (d) p] _ rfl (⟨{x : Int // 0 ≤ x ∧ (r.tries ≤ 0 → x = 0) ∧ (0 < r.tries → x < r.tries)}, fun q => vi q.1, fun q => [curA (d) p]⟩) (fun w hw => l1Below_c w (d) (hd.fr hw.fr hS) p r.tries) (by rintro _ ⟨⟩; exact Nat.le_of_ble_eq_true rfl) ?_
              · as_aux_lemma => kernel_rfl
              rintro ⟨m19, hm20⟩
              try dsimp only at hm20
              refine HKEEP (js := [0, 0]) rfl (HPURE (js := [0, 0]) 24 [(0, .v (p)), (2, I now), (4, .e (some ⟨b1, 0, none⟩) 0 0), (6, .e (some ⟨b2, 0, none⟩) 0 0), (7, .p 0 0), (32, .v (.agg #[vi (wr (1 + m3)), vi m5, vi (-1), vi (wr (1 + m7)), vi m9, vi 0, vi (wr (1 + m17)), vi 1, vi 0, vi m19]))] ?_ ?_ rfl ?_)
              · as_aux_lemma => kernel_rfl
              · as_aux_lemma => kernel_rfl
              refine HALL [26] ?_ (by decide) ?_
              · as_aux_lemma => kernel_rfl
              refine RUNO [(0, .v (p)), (2, I now), (4, .e (some ⟨b1, 0, none⟩) 0 0), (6, .e (some ⟨b2, 0, none⟩) 0 0), (7, .p 0 0)] [(62, [vi (wr (1 + m3)), vi m5, vi (-1), vi (wr (1 + m7)), vi m9, vi 0, vi (wr (1 + m17)), vi 1, vi 0, vi m19])] ?_ ?_
              · as_aux_lemma => kernel_rfl
              refine HKEEP (js := [0, 0]) rfl (HEND ?_ ?_)
              · as_aux_lemma => kernel_rfl
              refine IMPORT (L0 := [(41, [.slice r_seats_a r.seats.length r_seats_c, vi r.tiers, vi r.room, vi r.size, vi r.period, vi r.window, vi r.rest, vi r.tries, vi r.crew]), (62, [vi 0, vi 0, vi 0, vi 0, vi 0, vi 0, vi 0, vi 0, vi 0, vi 0])]) (L1 := [(62, [vi (wr (1 + m3)), vi m5, vi (-1), vi (wr (1 + m7)), vi m9, vi 0, vi (wr (1 + m17)), vi 1, vi 0, vi m19])]) [b1, b2] rfl [0, 0] _ rfl [(0, .v (p)), (2, I now), (4, .p 0 0), (6, .p 1 0), (7, .p 2 0)] ?_ ?_ ?_
              · as_aux_lemma => kernel_rfl
              · as_aux_lemma => kernel_rfl
              refine JBACK (wr (1 + m3), m5, wr (1 + m7), m9, wr (1 + m17), m19) [0, 2, 4, 6, 7] 3 [0] _ trivial ?_ rfl rfl rfl
              · as_aux_lemma => kernel_rfl
          · -- operation 25 next
            refine RUNO [(0, .v (p)), (2, I now), (4, .e (some ⟨b1, 0, none⟩) 0 0), (6, .e (some ⟨b2, 0, none⟩) 0 0), (7, .p 0 0), (10, I (wr (1 + m3))), (15, I m5), (20, I (wr (1 + m7))), (21, .v (p)), (23, I r.tiers), (25, .v (p)), (28, .v (p)), (30, I r.tries)] [(62, [vi 0, vi 0, vi 0, vi 0, vi 0, vi 0, vi 0, vi 0, vi 0, vi 0])] ?_ ?_
            · as_aux_lemma => kernel_rfl
            refine HKEEP (js := [0, 0]) rfl (HALL [16] ?_ (by decide) ?_)
            · as_aux_lemma => kernel_rfl
            refine CALL 23 #[p, vi r.tiers] (some 24) ?_ [2] [curA (d) p] _ rfl (⟨{x : Int // 0 ≤ x ∧ (r.tiers ≤ 0 → x = 0) ∧ (0 < r.tiers → x < r.tiers)}, fun q => vi q.1, fun q => [curA (d) p]⟩) (fun w hw => l1Below_c w (d) (hd.fr hw.fr hS) p r.tiers) (by rintro _ ⟨⟩; exact Nat.le_of_ble_eq_true rfl) ?_
            · as_aux_lemma => kernel_rfl
            rintro ⟨m21, hm22⟩
            try dsimp only at hm22
            refine HKEEP (js := [0, 0]) rfl (HALL [18] ?_ (by decide) ?_)
            · as_aux_lemma => kernel_rfl
            refine CALL 23 #[p, vi 40] (some 26) ?_ [2] [curA (d) p] _ rfl (⟨{x : Int // 0 ≤ x ∧ (40 ≤ 0 → x = 0) ∧ (0 < 40 → x < 40)}, fun q => vi q.1, fun q => [curA (d) p]⟩) (fun w hw => l1Below_c w (d) (hd.fr hw.fr hS) p 40) (by rintro _ ⟨⟩; exact Nat.le_of_ble_eq_true rfl) ?_
            · as_aux_lemma => kernel_rfl
            rintro ⟨m23, hm24⟩
            try dsimp only at hm24
            refine HKEEP (js := [0, 0]) rfl (HPURE (js := [0, 0]) 19 [(0, .v (p)), (2, I now), (4, .e (some ⟨b1, 0, none⟩) 0 0), (6, .e (some ⟨b2, 0, none⟩) 0 0), (7, .p 0 0), (10, I (wr (1 + m3))), (15, I m5), (20, I (wr (1 + m7))), (24, I m21), (27, I (wr (1 + m23))), (28, .v (p)), (30, I r.tries)] ?_ ?_ rfl ?_)
            · as_aux_lemma => kernel_rfl
            · as_aux_lemma => kernel_rfl
            refine HALL [23] ?_ (by decide) ?_
            · as_aux_lemma => kernel_rfl
            refine CALL 23 #[p, vi r.tries] (some 31) ?_ [2] [curA (d) p] _ rfl (⟨{x : Int // 0 ≤ x ∧ (r.tries ≤ 0 → x = 0) ∧ (0 < r.tries → x < r.tries)}, fun q => vi q.1, fun q => [curA (d) p]⟩) (fun w hw => l1Below_c w (d) (hd.fr hw.fr hS) p r.tries) (by rintro _ ⟨⟩; exact Nat.le_of_ble_eq_true rfl) ?_
            · as_aux_lemma => kernel_rfl
            rintro ⟨m25, hm26⟩
            try dsimp only at hm26
            refine HKEEP (js := [0, 0]) rfl (HPURE (js := [0, 0]) 24 [(0, .v (p)), (2, I now), (4, .e (some ⟨b1, 0, none⟩) 0 0), (6, .e (some ⟨b2, 0, none⟩) 0 0), (7, .p 0 0), (32, .v (.agg #[vi (wr (1 + m3)), vi m5, vi (-1), vi (wr (1 + m7)), vi m21, vi 0, vi (wr (1 + m23)), vi 1, vi 0, vi m25]))] ?_ ?_ rfl ?_)
            · as_aux_lemma => kernel_rfl
            · as_aux_lemma => kernel_rfl
            refine HALL [26] ?_ (by decide) ?_
            · as_aux_lemma => kernel_rfl
            refine RUNO [(0, .v (p)), (2, I now), (4, .e (some ⟨b1, 0, none⟩) 0 0), (6, .e (some ⟨b2, 0, none⟩) 0 0), (7, .p 0 0)] [(62, [vi (wr (1 + m3)), vi m5, vi (-1), vi (wr (1 + m7)), vi m21, vi 0, vi (wr (1 + m23)), vi 1, vi 0, vi m25])] ?_ ?_
            · as_aux_lemma => kernel_rfl
            refine HKEEP (js := [0, 0]) rfl (HEND ?_ ?_)
            · as_aux_lemma => kernel_rfl
            refine IMPORT (L0 := [(41, [.slice r_seats_a r.seats.length r_seats_c, vi r.tiers, vi r.room, vi r.size, vi r.period, vi r.window, vi r.rest, vi r.tries, vi r.crew]), (62, [vi 0, vi 0, vi 0, vi 0, vi 0, vi 0, vi 0, vi 0, vi 0, vi 0])]) (L1 := [(62, [vi (wr (1 + m3)), vi m5, vi (-1), vi (wr (1 + m7)), vi m21, vi 0, vi (wr (1 + m23)), vi 1, vi 0, vi m25])]) [b1, b2] rfl [0, 0] _ rfl [(0, .v (p)), (2, I now), (4, .p 0 0), (6, .p 1 0), (7, .p 2 0)] ?_ ?_ ?_
            · as_aux_lemma => kernel_rfl
            · as_aux_lemma => kernel_rfl
            refine JBACK (wr (1 + m3), m5, wr (1 + m7), m21, wr (1 + m23), m25) [0, 2, 4, 6, 7] 3 [0] _ trivial ?_ rfl rfl rfl
            · as_aux_lemma => kernel_rfl
        · -- operation 25 next
          refine RUNO [(0, .v (p)), (2, I now), (4, .e (some ⟨b1, 0, none⟩) 0 0), (6, .e (some ⟨b2, 0, none⟩) 0 0), (7, .p 0 0), (10, I (wr (1 + m3))), (15, I m5), (16, .v (p)), (18, I r.size), (21, .v (p)), (23, I r.tiers), (25, .v (p)), (28, .v (p)), (30, I r.tries)] [(62, [vi 0, vi 0, vi 0, vi 0, vi 0, vi 0, vi 0, vi 0, vi 0, vi 0])] ?_ ?_
          · as_aux_lemma => kernel_rfl
          refine HKEEP (js := [0, 0]) rfl (HALL [11] ?_ (by decide) ?_)
          · as_aux_lemma => kernel_rfl
          refine CALL 23 #[p, vi r.size] (some 19) ?_ [2] [curA (d) p] _ rfl (⟨{x : Int // 0 ≤ x ∧ (r.size ≤ 0 → x = 0) ∧ (0 < r.size → x < r.size)}, fun q => vi q.1, fun q => [curA (d) p]⟩) (fun w hw => l1Below_c w (d) (hd.fr hw.fr hS) p r.size) (by rintro _ ⟨⟩; exact Nat.le_of_ble_eq_true rfl) ?_
          · as_aux_lemma => kernel_rfl
          rintro ⟨m27, hm28⟩
          try dsimp only at hm28
          refine HKEEP (js := [0, 0]) rfl (HPURE (js := [0, 0]) 12 [(0, .v (p)), (2, I now), (4, .e (some ⟨b1, 0, none⟩) 0 0), (6, .e (some ⟨b2, 0, none⟩) 0 0), (7, .p 0 0), (10, I (wr (1 + m3))), (15, I m5), (20, I (wr (1 + m27))), (21, .v (p)), (23, I r.tiers), (25, .v (p)), (28, .v (p)), (30, I r.tries)] ?_ ?_ rfl ?_)
          · as_aux_lemma => kernel_rfl
          · as_aux_lemma => kernel_rfl
          refine HALL [16] ?_ (by decide) ?_
          · as_aux_lemma => kernel_rfl
          refine CALL 23 #[p, vi r.tiers] (some 24) ?_ [2] [curA (d) p] _ rfl (⟨{x : Int // 0 ≤ x ∧ (r.tiers ≤ 0 → x = 0) ∧ (0 < r.tiers → x < r.tiers)}, fun q => vi q.1, fun q => [curA (d) p]⟩) (fun w hw => l1Below_c w (d) (hd.fr hw.fr hS) p r.tiers) (by rintro _ ⟨⟩; exact Nat.le_of_ble_eq_true rfl) ?_
          · as_aux_lemma => kernel_rfl
          rintro ⟨m29, hm30⟩
          try dsimp only at hm30
          refine HKEEP (js := [0, 0]) rfl (HALL [18] ?_ (by decide) ?_)
          · as_aux_lemma => kernel_rfl
          refine CALL 23 #[p, vi 40] (some 26) ?_ [2] [curA (d) p] _ rfl (⟨{x : Int // 0 ≤ x ∧ (40 ≤ 0 → x = 0) ∧ (0 < 40 → x < 40)}, fun q => vi q.1, fun q => [curA (d) p]⟩) (fun w hw => l1Below_c w (d) (hd.fr hw.fr hS) p 40) (by rintro _ ⟨⟩; exact Nat.le_of_ble_eq_true rfl) ?_
          · as_aux_lemma => kernel_rfl
          rintro ⟨m31, hm32⟩
          try dsimp only at hm32
          refine HKEEP (js := [0, 0]) rfl (HPURE (js := [0, 0]) 19 [(0, .v (p)), (2, I now), (4, .e (some ⟨b1, 0, none⟩) 0 0), (6, .e (some ⟨b2, 0, none⟩) 0 0), (7, .p 0 0), (10, I (wr (1 + m3))), (15, I m5), (20, I (wr (1 + m27))), (24, I m29), (27, I (wr (1 + m31))), (28, .v (p)), (30, I r.tries)] ?_ ?_ rfl ?_)
          · as_aux_lemma => kernel_rfl
          · as_aux_lemma => kernel_rfl
          refine HALL [23] ?_ (by decide) ?_
          · as_aux_lemma => kernel_rfl
          refine CALL 23 #[p, vi r.tries] (some 31) ?_ [2] [curA (d) p] _ rfl (⟨{x : Int // 0 ≤ x ∧ (r.tries ≤ 0 → x = 0) ∧ (0 < r.tries → x < r.tries)}, fun q => vi q.1, fun q => [curA (d) p]⟩) (fun w hw => l1Below_c w (d) (hd.fr hw.fr hS) p r.tries) (by rintro _ ⟨⟩; exact Nat.le_of_ble_eq_true rfl) ?_
          · as_aux_lemma => kernel_rfl
          rintro ⟨m33, hm34⟩
          try dsimp only at hm34
          refine HKEEP (js := [0, 0]) rfl (HPURE (js := [0, 0]) 24 [(0, .v (p)), (2, I now), (4, .e (some ⟨b1, 0, none⟩) 0 0), (6, .e (some ⟨b2, 0, none⟩) 0 0), (7, .p 0 0), (32, .v (.agg #[vi (wr (1 + m3)), vi m5, vi (-1), vi (wr (1 + m27)), vi m29, vi 0, vi (wr (1 + m31)), vi 1, vi 0, vi m33]))] ?_ ?_ rfl ?_)
          · as_aux_lemma => kernel_rfl
          · as_aux_lemma => kernel_rfl
          refine HALL [26] ?_ (by decide) ?_
          · as_aux_lemma => kernel_rfl
          refine RUNO [(0, .v (p)), (2, I now), (4, .e (some ⟨b1, 0, none⟩) 0 0), (6, .e (some ⟨b2, 0, none⟩) 0 0), (7, .p 0 0)] [(62, [vi (wr (1 + m3)), vi m5, vi (-1), vi (wr (1 + m27)), vi m29, vi 0, vi (wr (1 + m31)), vi 1, vi 0, vi m33])] ?_ ?_
          · as_aux_lemma => kernel_rfl
          refine HKEEP (js := [0, 0]) rfl (HEND ?_ ?_)
          · as_aux_lemma => kernel_rfl
          refine IMPORT (L0 := [(41, [.slice r_seats_a r.seats.length r_seats_c, vi r.tiers, vi r.room, vi r.size, vi r.period, vi r.window, vi r.rest, vi r.tries, vi r.crew]), (62, [vi 0, vi 0, vi 0, vi 0, vi 0, vi 0, vi 0, vi 0, vi 0, vi 0])]) (L1 := [(62, [vi (wr (1 + m3)), vi m5, vi (-1), vi (wr (1 + m27)), vi m29, vi 0, vi (wr (1 + m31)), vi 1, vi 0, vi m33])]) [b1, b2] rfl [0, 0] _ rfl [(0, .v (p)), (2, I now), (4, .p 0 0), (6, .p 1 0), (7, .p 2 0)] ?_ ?_ ?_
          · as_aux_lemma => kernel_rfl
          · as_aux_lemma => kernel_rfl
          refine JBACK (wr (1 + m3), m5, wr (1 + m27), m29, wr (1 + m31), m33) [0, 2, 4, 6, 7] 3 [0] _ trivial ?_ rfl rfl rfl
          · as_aux_lemma => kernel_rfl
      · -- operation 25 next
        refine RUNO [(0, .v (p)), (2, I now), (4, .e (some ⟨b1, 0, none⟩) 0 0), (6, .e (some ⟨b2, 0, none⟩) 0 0), (7, .p 0 0), (10, I (wr (1 + m3))), (11, .v (p)), (14, I (r.seats.length : Int)), (16, .v (p)), (18, I r.size), (21, .v (p)), (23, I r.tiers), (25, .v (p)), (28, .v (p)), (30, I r.tries)] [(62, [vi 0, vi 0, vi 0, vi 0, vi 0, vi 0, vi 0, vi 0, vi 0, vi 0])] ?_ ?_
        · as_aux_lemma => kernel_rfl
        refine HKEEP (js := [0, 0]) rfl (HALL [7] ?_ (by decide) ?_)
        · as_aux_lemma => kernel_rfl
        refine CALL 23 #[p, vi (r.seats.length : Int)] (some 15) ?_ [2] [curA (d) p] _ rfl (⟨{x : Int // 0 ≤ x ∧ ((r.seats.length : Int) ≤ 0 → x = 0) ∧ (0 < (r.seats.length : Int) → x < (r.seats.length : Int))}, fun q => vi q.1, fun q => [curA (d) p]⟩) (fun w hw => l1Below_c w (d) (hd.fr hw.fr hS) p (r.seats.length : Int)) (by rintro _ ⟨⟩; exact Nat.le_of_ble_eq_true rfl) ?_
        · as_aux_lemma => kernel_rfl
        rintro ⟨m35, hm36⟩
        try dsimp only at hm36
        refine HKEEP (js := [0, 0]) rfl (HALL [11] ?_ (by decide) ?_)
        · as_aux_lemma => kernel_rfl
        refine CALL 23 #[p, vi r.size] (some 19) ?_ [2] [curA (d) p] _ rfl (⟨{x : Int // 0 ≤ x ∧ (r.size ≤ 0 → x = 0) ∧ (0 < r.size → x < r.size)}, fun q => vi q.1, fun q => [curA (d) p]⟩) (fun w hw => l1Below_c w (d) (hd.fr hw.fr hS) p r.size) (by rintro _ ⟨⟩; exact Nat.le_of_ble_eq_true rfl) ?_
        · as_aux_lemma => kernel_rfl
        rintro ⟨m37, hm38⟩
        try dsimp only at hm38
        refine HKEEP (js := [0, 0]) rfl (HPURE (js := [0, 0]) 12 [(0, .v (p)), (2, I now), (4, .e (some ⟨b1, 0, none⟩) 0 0), (6, .e (some ⟨b2, 0, none⟩) 0 0), (7, .p 0 0), (10, I (wr (1 + m3))), (15, I m35), (20, I (wr (1 + m37))), (21, .v (p)), (23, I r.tiers), (25, .v (p)), (28, .v (p)), (30, I r.tries)] ?_ ?_ rfl ?_)
        · as_aux_lemma => kernel_rfl
        · as_aux_lemma => kernel_rfl
        refine HALL [16] ?_ (by decide) ?_
        · as_aux_lemma => kernel_rfl
        refine CALL 23 #[p, vi r.tiers] (some 24) ?_ [2] [curA (d) p] _ rfl (⟨{x : Int // 0 ≤ x ∧ (r.tiers ≤ 0 → x = 0) ∧ (0 < r.tiers → x < r.tiers)}, fun q => vi q.1, fun q => [curA (d) p]⟩) (fun w hw => l1Below_c w (d) (hd.fr hw.fr hS) p r.tiers) (by rintro _ ⟨⟩; exact Nat.le_of_ble_eq_true rfl) ?_
        · as_aux_lemma => kernel_rfl
        rintro ⟨m39, hm40⟩
        try dsimp only at hm40
        refine HKEEP (js := [0, 0]) rfl (HALL [18] ?_ (by decide) ?_)
        · as_aux_lemma => kernel_rfl
        refine CALL 23 #[p, vi 40] (some 26) ?_ [2] [curA (d) p] _ rfl (⟨{x : Int // 0 ≤ x ∧ (40 ≤ 0 → x = 0) ∧ (0 < 40 → x < 40)}, fun q => vi q.1, fun q => [curA (d) p]⟩) (fun w hw => l1Below_c w (d) (hd.fr hw.fr hS) p 40) (by rintro _ ⟨⟩; exact Nat.le_of_ble_eq_true rfl) ?_
        · as_aux_lemma => kernel_rfl
        rintro ⟨m41, hm42⟩
        try dsimp only at hm42
        refine HKEEP (js := [0, 0]) rfl (HPURE (js := [0, 0]) 19 [(0, .v (p)), (2, I now), (4, .e (some ⟨b1, 0, none⟩) 0 0), (6, .e (some ⟨b2, 0, none⟩) 0 0), (7, .p 0 0), (10, I (wr (1 + m3))), (15, I m35), (20, I (wr (1 + m37))), (24, I m39), (27, I (wr (1 + m41))), (28, .v (p)), (30, I r.tries)] ?_ ?_ rfl ?_)
        · as_aux_lemma => kernel_rfl
        · as_aux_lemma => kernel_rfl
        refine HALL [23] ?_ (by decide) ?_
        · as_aux_lemma => kernel_rfl
        refine CALL 23 #[p, vi r.tries] (some 31) ?_ [2] [curA (d) p] _ rfl (⟨{x : Int // 0 ≤ x ∧ (r.tries ≤ 0 → x = 0) ∧ (0 < r.tries → x < r.tries)}, fun q => vi q.1, fun q => [curA (d) p]⟩) (fun w hw => l1Below_c w (d) (hd.fr hw.fr hS) p r.tries) (by rintro _ ⟨⟩; exact Nat.le_of_ble_eq_true rfl) ?_
        · as_aux_lemma => kernel_rfl
        rintro ⟨m43, hm44⟩
        try dsimp only at hm44
        refine HKEEP (js := [0, 0]) rfl (HPURE (js := [0, 0]) 24 [(0, .v (p)), (2, I now), (4, .e (some ⟨b1, 0, none⟩) 0 0), (6, .e (some ⟨b2, 0, none⟩) 0 0), (7, .p 0 0), (32, .v (.agg #[vi (wr (1 + m3)), vi m35, vi (-1), vi (wr (1 + m37)), vi m39, vi 0, vi (wr (1 + m41)), vi 1, vi 0, vi m43]))] ?_ ?_ rfl ?_)
        · as_aux_lemma => kernel_rfl
        · as_aux_lemma => kernel_rfl
        refine HALL [26] ?_ (by decide) ?_
        · as_aux_lemma => kernel_rfl
        refine RUNO [(0, .v (p)), (2, I now), (4, .e (some ⟨b1, 0, none⟩) 0 0), (6, .e (some ⟨b2, 0, none⟩) 0 0), (7, .p 0 0)] [(62, [vi (wr (1 + m3)), vi m35, vi (-1), vi (wr (1 + m37)), vi m39, vi 0, vi (wr (1 + m41)), vi 1, vi 0, vi m43])] ?_ ?_
        · as_aux_lemma => kernel_rfl
        refine HKEEP (js := [0, 0]) rfl (HEND ?_ ?_)
        · as_aux_lemma => kernel_rfl
        refine IMPORT (L0 := [(41, [.slice r_seats_a r.seats.length r_seats_c, vi r.tiers, vi r.room, vi r.size, vi r.period, vi r.window, vi r.rest, vi r.tries, vi r.crew]), (62, [vi 0, vi 0, vi 0, vi 0, vi 0, vi 0, vi 0, vi 0, vi 0, vi 0])]) (L1 := [(62, [vi (wr (1 + m3)), vi m35, vi (-1), vi (wr (1 + m37)), vi m39, vi 0, vi (wr (1 + m41)), vi 1, vi 0, vi m43])]) [b1, b2] rfl [0, 0] _ rfl [(0, .v (p)), (2, I now), (4, .p 0 0), (6, .p 1 0), (7, .p 2 0)] ?_ ?_ ?_
        · as_aux_lemma => kernel_rfl
        · as_aux_lemma => kernel_rfl
        refine JBACK (wr (1 + m3), m35, wr (1 + m37), m39, wr (1 + m41), m43) [0, 2, 4, 6, 7] 3 [0] _ trivial ?_ rfl rfl rfl
        · as_aux_lemma => kernel_rfl
    · -- operation 25 next
      refine RUNO [(0, .v (p)), (2, I now), (4, .e (some ⟨b1, 0, none⟩) 0 0), (6, .e (some ⟨b2, 0, none⟩) 0 0), (7, .p 0 0), (8, .v (p)), (11, .v (p)), (14, I (r.seats.length : Int)), (16, .v (p)), (18, I r.size), (21, .v (p)), (23, I r.tiers), (25, .v (p)), (28, .v (p)), (30, I r.tries)] [(62, [vi 0, vi 0, vi 0, vi 0, vi 0, vi 0, vi 0, vi 0, vi 0, vi 0])] ?_ ?_
      · as_aux_lemma => kernel_rfl
      refine HKEEP (js := [0, 0]) rfl (HALL [1] ?_ (by decide) ?_)
      · as_aux_lemma => kernel_rfl
      refine CALL 23 #[p, vi 12] (some 9) ?_ [2] [curA (d) p] _ rfl (⟨{x : Int // 0 ≤ x ∧ (12 ≤ 0 → x = 0) ∧ (0 < 12 → x < 12)}, fun q => vi q.1, fun q => [curA (d) p]⟩) (fun w hw => l1Below_c w (d) (hd.fr hw.fr hS) p 12) (by rintro _ ⟨⟩; exact Nat.le_of_ble_eq_true rfl) ?_
      · as_aux_lemma => kernel_rfl
      rintro ⟨m45, hm46⟩
      try dsimp only at hm46
      refine HKEEP (js := [0, 0]) rfl (HPURE (js := [0, 0]) 2 [(0, .v (p)), (2, I now), (4, .e (some ⟨b1, 0, none⟩) 0 0), (6, .e (some ⟨b2, 0, none⟩) 0 0), (7, .p 0 0), (10, I (wr (1 + m45))), (11, .v (p)), (14, I (r.seats.length : Int)), (16, .v (p)), (18, I r.size), (21, .v (p)), (23, I r.tiers), (25, .v (p)), (28, .v (p)), (30, I r.tries)] ?_ ?_ rfl ?_)
      · as_aux_lemma => kernel_rfl
      · as_aux_lemma => kernel_rfl
      refine HALL [7] ?_ (by decide) ?_
      · as_aux_lemma => kernel_rfl
      refine CALL 23 #[p, vi (r.seats.length : Int)] (some 15) ?_ [2] [curA (d) p] _ rfl (⟨{x : Int // 0 ≤ x ∧ ((r.seats.length : Int) ≤ 0 → x = 0) ∧ (0 < (r.seats.length : Int) → x < (r.seats.length : Int))}, fun q => vi q.1, fun q => [curA (d) p]⟩) (fun w hw => l1Below_c w (d) (hd.fr hw.fr hS) p (r.seats.length : Int)) (by rintro _ ⟨⟩; exact Nat.le_of_ble_eq_true rfl) ?_
      · as_aux_lemma => kernel_rfl
      rintro ⟨m47, hm48⟩
      try dsimp only at hm48
      refine HKEEP (js := [0, 0]) rfl (HALL [11] ?_ (by decide) ?_)
      · as_aux_lemma => kernel_rfl
      refine CALL 23 #[p, vi r.size] (some 19) ?_ [2] [curA (d) p] _ rfl (⟨{x : Int // 0 ≤ x ∧ (r.size ≤ 0 → x = 0) ∧ (0 < r.size → x < r.size)}, fun q => vi q.1, fun q => [curA (d) p]⟩) (fun w hw => l1Below_c w (d) (hd.fr hw.fr hS) p r.size) (by rintro _ ⟨⟩; exact Nat.le_of_ble_eq_true rfl) ?_
      · as_aux_lemma => kernel_rfl
      rintro ⟨m49, hm50⟩
      try dsimp only at hm50
      refine HKEEP (js := [0, 0]) rfl (HPURE (js := [0, 0]) 12 [(0, .v (p)), (2, I now), (4, .e (some ⟨b1, 0, none⟩) 0 0), (6, .e (some ⟨b2, 0, none⟩) 0 0), (7, .p 0 0), (10, I (wr (1 + m45))), (15, I m47), (20, I (wr (1 + m49))), (21, .v (p)), (23, I r.tiers), (25, .v (p)), (28, .v (p)), (30, I r.tries)] ?_ ?_ rfl ?_)
      · as_aux_lemma => kernel_rfl
      · as_aux_lemma => kernel_rfl
      refine HALL [16] ?_ (by decide) ?_
      · as_aux_lemma => kernel_rfl
      refine CALL 23 #[p, vi r.tiers] (some 24) ?_ [2] [curA (d) p] _ rfl (⟨{x : Int // 0 ≤ x ∧ (r.tiers ≤ 0 → x = 0) ∧ (0 < r.tiers → x < r.tiers)}, fun q => vi q.1, fun q => [curA (d) p]⟩) (fun w hw => l1Below_c w (d) (hd.fr hw.fr hS) p r.tiers) (by rintro _ ⟨⟩; exact Nat.le_of_ble_eq_true rfl) ?_
      · as_aux_lemma => kernel_rfl
      rintro ⟨m51, hm52⟩
      try dsimp only at hm52
      refine HKEEP (js := [0, 0]) rfl (HALL [18] ?_ (by decide) ?_)
      · as_aux_lemma => kernel_rfl
      refine CALL 23 #[p, vi 40] (some 26) ?_ [2] [curA (d) p] _ rfl (⟨{x : Int // 0 ≤ x ∧ (40 ≤ 0 → x = 0) ∧ (0 < 40 → x < 40)}, fun q => vi q.1, fun q => [curA (d) p]⟩) (fun w hw => l1Below_c w (d) (hd.fr hw.fr hS) p 40) (by rintro _ ⟨⟩; exact Nat.le_of_ble_eq_true rfl) ?_
      · as_aux_lemma => kernel_rfl
      rintro ⟨m53, hm54⟩
      try dsimp only at hm54
      refine HKEEP (js := [0, 0]) rfl (HPURE (js := [0, 0]) 19 [(0, .v (p)), (2, I now), (4, .e (some ⟨b1, 0, none⟩) 0 0), (6, .e (some ⟨b2, 0, none⟩) 0 0), (7, .p 0 0), (10, I (wr (1 + m45))), (15, I m47), (20, I (wr (1 + m49))), (24, I m51), (27, I (wr (1 + m53))), (28, .v (p)), (30, I r.tries)] ?_ ?_ rfl ?_)
      · as_aux_lemma => kernel_rfl
      · as_aux_lemma => kernel_rfl
      refine HALL [23] ?_ (by decide) ?_
      · as_aux_lemma => kernel_rfl
      refine CALL 23 #[p, vi r.tries] (some 31) ?_ [2] [curA (d) p] _ rfl (⟨{x : Int // 0 ≤ x ∧ (r.tries ≤ 0 → x = 0) ∧ (0 < r.tries → x < r.tries)}, fun q => vi q.1, fun q => [curA (d) p]⟩) (fun w hw => l1Below_c w (d) (hd.fr hw.fr hS) p r.tries) (by rintro _ ⟨⟩; exact Nat.le_of_ble_eq_true rfl) ?_
      · as_aux_lemma => kernel_rfl
      rintro ⟨m55, hm56⟩
      try dsimp only at hm56
      refine HKEEP (js := [0, 0]) rfl (HPURE (js := [0, 0]) 24 [(0, .v (p)), (2, I now), (4, .e (some ⟨b1, 0, none⟩) 0 0), (6, .e (some ⟨b2, 0, none⟩) 0 0), (7, .p 0 0), (32, .v (.agg #[vi (wr (1 + m45)), vi m47, vi (-1), vi (wr (1 + m49)), vi m51, vi 0, vi (wr (1 + m53)), vi 1, vi 0, vi m55]))] ?_ ?_ rfl ?_)
      · as_aux_lemma => kernel_rfl
      · as_aux_lemma => kernel_rfl
      refine HALL [26] ?_ (by decide) ?_
      · as_aux_lemma => kernel_rfl
      refine RUNO [(0, .v (p)), (2, I now), (4, .e (some ⟨b1, 0, none⟩) 0 0), (6, .e (some ⟨b2, 0, none⟩) 0 0), (7, .p 0 0)] [(62, [vi (wr (1 + m45)), vi m47, vi (-1), vi (wr (1 + m49)), vi m51, vi 0, vi (wr (1 + m53)), vi 1, vi 0, vi m55])] ?_ ?_
      · as_aux_lemma => kernel_rfl
      refine HKEEP (js := [0, 0]) rfl (HEND ?_ ?_)
      · as_aux_lemma => kernel_rfl
      refine IMPORT (L0 := [(41, [.slice r_seats_a r.seats.length r_seats_c, vi r.tiers, vi r.room, vi r.size, vi r.period, vi r.window, vi r.rest, vi r.tries, vi r.crew]), (62, [vi 0, vi 0, vi 0, vi 0, vi 0, vi 0, vi 0, vi 0, vi 0, vi 0])]) (L1 := [(62, [vi (wr (1 + m45)), vi m47, vi (-1), vi (wr (1 + m49)), vi m51, vi 0, vi (wr (1 + m53)), vi 1, vi 0, vi m55])]) [b1, b2] rfl [0, 0] _ rfl [(0, .v (p)), (2, I now), (4, .p 0 0), (6, .p 1 0), (7, .p 2 0)] ?_ ?_ ?_
      · as_aux_lemma => kernel_rfl
      · as_aux_lemma => kernel_rfl
      refine JBACK (wr (1 + m45), m47, wr (1 + m49), m51, wr (1 + m53), m55) [0, 2, 4, 6, 7] 3 [0] _ trivial ?_ rfl rfl rfl
      · as_aux_lemma => kernel_rfl
  rintro ⟨u0, u1, u3, u4, u6, u9⟩ hi57
  try dsimp only at hi57
  refine SEQJ (ι := Int × Int × Int) (fun j => [(0, .v (p)), (4, .p 0 0), (6, .p 1 0), (7, .p 2 0)]) (fun j => [(41, [.slice r_seats_a r.seats.length r_seats_c, vi r.tiers, vi r.room, vi r.size, vi r.period, vi r.window, vi r.rest, vi r.tries, vi r.crew]), (62, [vi 0, vi 0, vi 0, vi 0, vi 0, vi 0, vi 0, vi 0, vi 0, vi 0]), (62, [vi u0, vi u1, vi (-1), vi u3, vi u4, vi j.1, vi u6, vi j.2.1, vi j.2.2, vi u9])]) (fun j => [curA d p]) (fun j => True) ?_ ?_
  · -- up to where the ways meet
    refine SEQ (REGION [0, 1] rfl (RUN0 1 [1] [(0, .v (p)), (2, I now), (4, .p 0 0), (6, .p 1 0), (7, .p 2 0), (33, I now)] ?_ rfl ?_))
    · as_aux_lemma => kernel_rfl
    refine OPC (CALL 44 #[vi now, vi 0, vi 10000000] (some 34) ?_ [] [] _ rfl (RV (.bool (inB now 0 10000000))) (fun w hw => l1In_c w now 0 10000000) (by rintro _ ⟨⟩; exact Nat.le_of_ble_eq_true rfl) ?_)
    · as_aux_lemma => kernel_rfl
    rintro ⟨⟩
    refine ENDOPS (NEXT (IF (inB now 0 10000000) ?_ (fun bh58 => ?_) (fun bh58 => ?_)))
    · as_aux_lemma => kernel_rfl
    · -- inB now 0 10000000 = true
      have h58 := bh58
      refine SEQ (REGION [0, 1, 2, 3, 4, 5] rfl (RUN0 3 [3, 4, 5] [(0, .v (p)), (2, I now), (4, .p 0 0), (6, .p 1 0), (7, .p 2 0), (35, .v (p)), (37, I (wr (now + 1)))] ?_ rfl ?_))
      · as_aux_lemma => kernel_rfl
      refine OPC (CALL 23 #[p, vi (wr (now + 1))] (some 38) ?_ [0] [curA (d) p] _ rfl (⟨{x : Int // 0 ≤ x ∧ ((wr (now + 1)) ≤ 0 → x = 0) ∧ (0 < (wr (now + 1)) → x < (wr (now + 1)))}, fun q => vi q.1, fun q => [curA (d) p]⟩) (fun w hw => l1Below_c w (d) (hd.fr hw.fr hS) p (wr (now + 1))) (by rintro _ ⟨⟩; exact Nat.le_of_ble_eq_true rfl) ?_)
      · as_aux_lemma => kernel_rfl
      rintro ⟨m59, hm60⟩
      try dsimp only at hm60
      refine RUN 2 [] [(0, .v (p)), (2, I now), (4, .p 0 0), (6, .p 1 0), (7, .p 2 0)] [(41, [.slice r_seats_a r.seats.length r_seats_c, vi r.tiers, vi r.room, vi r.size, vi r.period, vi r.window, vi r.rest, vi r.tries, vi r.crew]), (62, [vi 0, vi 0, vi 0, vi 0, vi 0, vi 0, vi 0, vi 0, vi 0, vi 0]), (62, [vi u0, vi u1, vi (-1), vi u3, vi u4, vi m59, vi u6, vi 1, vi 0, vi u9])] ?_ rfl ?_
      · as_aux_lemma => kernel_rfl
      refine ENDOPS (NEXT (SEQJ (ι := Int) (fun j => [(0, .v (p)), (2, I now), (4, .p 0 0), (6, .p 1 0), (7, .p 2 0)]) (fun j => [(41, [.slice r_seats_a r.seats.length r_seats_c, vi r.tiers, vi r.room, vi r.size, vi r.period, vi r.window, vi r.rest, vi r.tries, vi r.crew]), (62, [vi 0, vi 0, vi 0, vi 0, vi 0, vi 0, vi 0, vi 0, vi 0, vi 0]), (62, [vi u0, vi u1, vi (-1), vi u3, vi u4, vi m59, vi u6, vi 1, vi j, vi u9])]) (fun j => [curA (d) p]) (fun j => True) ?_ ?_))
      · -- up to where the ways meet
        refine SEQ (REGION [0, 1] rfl (RUN0 1 [1] [(0, .v (p)), (2, I now), (4, .p 0 0), (6, .p 1 0), (7, .p 2 0), (40, .v (p))] ?_ rfl ?_))
        · as_aux_lemma => kernel_rfl
        refine OPC (CALL 19 #[p, vi 3] (some 41) ?_ [0] [curA (d) p] _ rfl (⟨{x : Bool // True}, fun q => .bool q.1, fun q => [curA (d) p]⟩) (fun w hw => l1Once_c w (d) (hd.fr hw.fr hS) p 3) (by rintro _ ⟨⟩; exact Nat.le_of_ble_eq_true rfl) ?_)
        · as_aux_lemma => kernel_rfl
        rintro ⟨m61, hm62⟩
        try dsimp only at hm62
        refine ENDOPS (NEXT (IF (m61) ?_ (fun bh63 => ?_) (fun bh63 => ?_)))
        · as_aux_lemma => kernel_rfl
        · -- m61 = true
          have h63 := bh63
          refine REGION [0, 1, 2, 3, 4, 5, 6, 7, 8] rfl (RUN0 6 [6, 7, 8] [(0, .v (p)), (2, I now), (4, .p 0 0), (6, .p 1 0), (7, .p 2 0), (42, .v (p)), (47, I (wr ((wr (now + r.rest)) + 1)))] ?_ rfl ?_)
          · as_aux_lemma => kernel_rfl
          refine OPC (CALL 23 #[p, vi (wr ((wr (now + r.rest)) + 1))] (some 48) ?_ [0] [curA (d) p] _ rfl (⟨{x : Int // 0 ≤ x ∧ ((wr ((wr (now + r.rest)) + 1)) ≤ 0 → x = 0) ∧ (0 < (wr ((wr (now + r.rest)) + 1)) → x < (wr ((wr (now + r.rest)) + 1)))}, fun q => vi q.1, fun q => [curA (d) p]⟩) (fun w hw => l1Below_c w (d) (hd.fr hw.fr hS) p (wr ((wr (now + r.rest)) + 1))) (by rintro _ ⟨⟩; exact Nat.le_of_ble_eq_true rfl) ?_)
          · as_aux_lemma => kernel_rfl
          rintro ⟨m64, hm65⟩
          try dsimp only at hm65
          refine RUN 2 [] [(0, .v (p)), (2, I now), (4, .p 0 0), (6, .p 1 0), (7, .p 2 0)] [(41, [.slice r_seats_a r.seats.length r_seats_c, vi r.tiers, vi r.room, vi r.size, vi r.period, vi r.window, vi r.rest, vi r.tries, vi r.crew]), (62, [vi 0, vi 0, vi 0, vi 0, vi 0, vi 0, vi 0, vi 0, vi 0, vi 0]), (62, [vi u0, vi u1, vi (-1), vi u3, vi u4, vi m59, vi u6, vi 1, vi m64, vi u9])] ?_ rfl ?_
          · as_aux_lemma => kernel_rfl
          refine ENDOPS (JBACK (m64) [0, 2, 4, 6, 7] 3 [0] _ trivial ?_ rfl rfl rfl)
          · as_aux_lemma => kernel_rfl
        · -- m61 = false
          have h63 := bh63
          refine SKIP (JBACK (0) [0, 2, 4, 6, 7] 3 [0] _ trivial ?_ rfl rfl rfl)
          · as_aux_lemma => kernel_rfl
      rintro uo hi66
      try dsimp only at hi66
      refine SEQ (REGION [0, 1] rfl (RUN0 1 [1] [(0, .v (p)), (2, I now), (4, .p 0 0), (6, .p 1 0), (7, .p 2 0), (50, .v (p))] ?_ rfl ?_))
      · as_aux_lemma => kernel_rfl
      refine OPC (CALL 19 #[p, vi 3] (some 51) ?_ [0] [curA (d) p] _ rfl (⟨{x : Bool // True}, fun q => .bool q.1, fun q => [curA (d) p]⟩) (fun w hw => l1Once_c w (d) (hd.fr hw.fr hS) p 3) (by rintro _ ⟨⟩; exact Nat.le_of_ble_eq_true rfl) ?_)
      · as_aux_lemma => kernel_rfl
      rintro ⟨m67, hm68⟩
      try dsimp only at hm68
      refine ENDOPS (NEXT (IF (m67) ?_ (fun bh69 => ?_) (fun bh69 => ?_)))
      · as_aux_lemma => kernel_rfl
      · -- m67 = true
        have h69 := bh69
        refine SEQ (REGION [0, 1] rfl (RUN 2 [] [(0, .v (p)), (2, I now), (4, .p 0 0), (6, .p 1 0), (7, .p 2 0)] [(41, [.slice r_seats_a r.seats.length r_seats_c, vi r.tiers, vi r.room, vi r.size, vi r.period, vi r.window, vi r.rest, vi r.tries, vi r.crew]), (62, [vi 0, vi 0, vi 0, vi 0, vi 0, vi 0, vi 0, vi 0, vi 0, vi 0]), (62, [vi u0, vi u1, vi (-1), vi u3, vi u4, vi m59, vi u6, vi 2, vi uo, vi u9])] ?_ rfl ?_))
        · as_aux_lemma => kernel_rfl
        refine ENDOPS (NEXT (REGION [0, 1, 2, 3, 4, 5, 6, 7, 8] rfl (RUN0 5 [5, 6, 7, 8] [(0, .v (p)), (4, .p 0 0), (6, .p 1 0), (7, .p 2 0), (53, .v (p)), (57, I (wr (now + r.window)))] ?_ rfl ?_)))
        · as_aux_lemma => kernel_rfl
        refine OPC (CALL 23 #[p, vi (wr (now + r.window))] (some 58) ?_ [0] [curA (d) p] _ rfl (⟨{x : Int // 0 ≤ x ∧ ((wr (now + r.window)) ≤ 0 → x = 0) ∧ (0 < (wr (now + r.window)) → x < (wr (now + r.window)))}, fun q => vi q.1, fun q => [curA (d) p]⟩) (fun w hw => l1Below_c w (d) (hd.fr hw.fr hS) p (wr (now + r.window))) (by rintro _ ⟨⟩; exact Nat.le_of_ble_eq_true rfl) ?_)
        · as_aux_lemma => kernel_rfl
        rintro ⟨m70, hm71⟩
        try dsimp only at hm71
        refine RUN 3 [] [(0, .v (p)), (4, .p 0 0), (6, .p 1 0), (7, .p 2 0)] [(41, [.slice r_seats_a r.seats.length r_seats_c, vi r.tiers, vi r.room, vi r.size, vi r.period, vi r.window, vi r.rest, vi r.tries, vi r.crew]), (62, [vi 0, vi 0, vi 0, vi 0, vi 0, vi 0, vi 0, vi 0, vi 0, vi 0]), (62, [vi u0, vi u1, vi (-1), vi u3, vi u4, vi m59, vi u6, vi 2, vi (wr (1 + m70)), vi u9])] ?_ rfl ?_
        · as_aux_lemma => kernel_rfl
        refine ENDOPS (JBACK (m59, 2, wr (1 + m70)) [0, 4, 6, 7] 3 [0] _ trivial ?_ rfl rfl rfl)
        · as_aux_lemma => kernel_rfl
      · -- m67 = false
        have h69 := bh69
        refine SKIP (JBACK (m59, 1, uo) [0, 4, 6, 7] 3 [0] _ trivial ?_ rfl rfl rfl)
        · as_aux_lemma => kernel_rfl
    · -- inB now 0 10000000 = false
      have h58 := bh58
      refine SKIP (JBACK (0, 1, 0) [0, 4, 6, 7] 3 [0] _ trivial ?_ rfl rfl rfl)
      · as_aux_lemma => kernel_rfl
  rintro ⟨sc, stt, un⟩ hi72
  try dsimp only at hi72
  refine SEQ (SEQ (REGION [0, 1] rfl (RUN0 1 [1] [(0, .v (p)), (4, .p 0 0), (6, .p 1 0), (7, .p 2 0), (61, .v (p))] ?_ rfl ?_)))
  · as_aux_lemma => kernel_rfl
  refine OPC (CALL 19 #[p, vi 4] (some 62) ?_ [0] [curA (d) p] _ rfl (⟨{x : Bool // True}, fun q => .bool q.1, fun q => [curA (d) p]⟩) (fun w hw => l1Once_c w (d) (hd.fr hw.fr hS) p 4) (by rintro _ ⟨⟩; exact Nat.le_of_ble_eq_true rfl) ?_)
  · as_aux_lemma => kernel_rfl
  rintro ⟨m73, hm74⟩
  try dsimp only at hm74
  refine ENDOPS (NEXT (IF (m73) ?_ (fun bh75 => ?_) (fun bh75 => ?_)))
  · as_aux_lemma => kernel_rfl
  · -- m73 = true
    have h75 := bh75
    refine REGION [0, 1, 2, 3, 4, 5, 6] rfl (RUN0 4 [4, 5, 6] [(6, .p 1 0), (7, .p 2 0), (63, .v (p)), (66, I (r.seats.length : Int))] ?_ rfl ?_)
    · as_aux_lemma => kernel_rfl
    refine OPC (CALL 23 #[p, vi (r.seats.length : Int)] (some 67) ?_ [0] [curA (d) p] _ rfl (⟨{x : Int // 0 ≤ x ∧ ((r.seats.length : Int) ≤ 0 → x = 0) ∧ (0 < (r.seats.length : Int) → x < (r.seats.length : Int))}, fun q => vi q.1, fun q => [curA (d) p]⟩) (fun w hw => l1Below_c w (d) (hd.fr hw.fr hS) p (r.seats.length : Int)) (by rintro _ ⟨⟩; exact Nat.le_of_ble_eq_true rfl) ?_)
    · as_aux_lemma => kernel_rfl
    rintro ⟨m76, hm77⟩
    try dsimp only at hm77
    refine RUN 2 [] [(6, .p 1 0), (7, .p 2 0)] [(41, [.slice r_seats_a r.seats.length r_seats_c, vi r.tiers, vi r.room, vi r.size, vi r.period, vi r.window, vi r.rest, vi r.tries, vi r.crew]), (62, [vi 0, vi 0, vi 0, vi 0, vi 0, vi 0, vi 0, vi 0, vi 0, vi 0]), (62, [vi u0, vi u1, vi m76, vi u3, vi u4, vi sc, vi u6, vi stt, vi un, vi u9])] ?_ rfl ?_
    · as_aux_lemma => kernel_rfl
    refine ENDOPS (NEXT (SEQ (REGION [0, 1] rfl (RUN 2 [] [(6, .p 1 0)] [(41, [.slice r_seats_a r.seats.length r_seats_c, vi r.tiers, vi r.room, vi r.size, vi r.period, vi r.window, vi r.rest, vi r.tries, vi r.crew]), (62, [vi u0, vi u1, vi m76, vi u3, vi u4, vi sc, vi u6, vi stt, vi un, vi u9]), (62, [vi u0, vi u1, vi m76, vi u3, vi u4, vi sc, vi u6, vi stt, vi un, vi u9])] ?_ rfl ?_))))
    · as_aux_lemma => kernel_rfl
    refine ENDOPS (NEXT (RET (FIN (.agg #[vi u0, vi u1, vi m76, vi u3, vi u4, vi sc, vi u6, vi stt, vi un, vi u9]) ?_ ⟨(⟨u0, u1, m76, u3, u4, sc, u6, stt, un, u9⟩ : Party), trivial⟩ ?_ [0] ?_)))
    · as_aux_lemma => kernel_rfl
    · rfl
    · rfl
  · -- m73 = false
    have h75 := bh75
    refine SKIP (NEXT (SEQ (REGION [0, 1] rfl (RUN 2 [] [(6, .p 1 0)] [(41, [.slice r_seats_a r.seats.length r_seats_c, vi r.tiers, vi r.room, vi r.size, vi r.period, vi r.window, vi r.rest, vi r.tries, vi r.crew]), (62, [vi u0, vi u1, vi (-1), vi u3, vi u4, vi sc, vi u6, vi stt, vi un, vi u9]), (62, [vi u0, vi u1, vi (-1), vi u3, vi u4, vi sc, vi u6, vi stt, vi un, vi u9])] ?_ rfl ?_))))
    · as_aux_lemma => kernel_rfl
    refine ENDOPS (NEXT (RET (FIN (.agg #[vi u0, vi u1, vi (-1), vi u3, vi u4, vi sc, vi u6, vi stt, vi un, vi u9]) ?_ ⟨(⟨u0, u1, -1, u3, u4, sc, u6, stt, un, u9⟩ : Party), trivial⟩ ?_ [0] ?_)))
    · as_aux_lemma => kernel_rfl
    · rfl
    · rfl

theorem partyPut_c (W : World) (list : List Party) (list_a : Option Addr) (list_c : Nat) (hlist : Rd partyL W list_a list) (pa : Party) (hcap : list.length ≤ list_c) (hb : list.length ≤ 1048576) : Spec Try.prog W [] 37 #[.slice list_a list.length list_c, .agg #[vi pa.id, vi pa.cabin, vi pa.from', vi pa.size, vi pa.tier, vi pa.since, vi pa.turn, vi pa.state, vi pa.until', vi pa.asked]] (⟨{q : (HH) × (List Party) // (fun x : List Party => x.length ≤ list.length + 1) q.2}, fun q => .slice q.1.1.1 q.1.2.length q.1.1.2, fun q => [slA 62 partyL (.slice q.1.1.1 q.1.2.length q.1.1.2) q.1.2]⟩) := by
  refine ENTER0 (N := 50) (vs := [.slice list_a list.length list_c, .agg #[vi pa.id, vi pa.cabin, vi pa.from', vi pa.size, vi pa.tier, vi pa.since, vi pa.turn, vi pa.state, vi pa.until', vi pa.asked]]) Try.func37 rfl rfl (Nat.le_of_ble_eq_true rfl) ?_
  have hlist_len := hlist.len
  refine SEQ (REGION [0, 1] rfl (RUN 2 [] [(0, .v (.slice list_a list.length list_c)), (3, .p 0 0)] [(62, [vi pa.id, vi pa.cabin, vi pa.from', vi pa.size, vi pa.tier, vi pa.since, vi pa.turn, vi pa.state, vi pa.until', vi pa.asked])] ?_ rfl ?_))
  · as_aux_lemma => kernel_rfl
  refine ENDOPS (NEXT (SEQ (REGION [0, 1, 2, 3, 4] rfl (RUN0 3 [3, 4] [(0, .v (.slice list_a list.length list_c)), (3, .p 0 0), (7, .v (.slice list_a list.length list_c)), (9, I pa.id)] ?_ rfl ?_))))
  · as_aux_lemma => kernel_rfl
  refine OPC (CALL 34 #[.slice list_a list.length list_c, vi pa.id] (some 10) ?_ [] [] _ rfl (⟨{x : Int // x < (list.length : Int)}, fun q => vi q.1, fun q => []⟩) (fun w hw => l11At_c w list list_a list_c (hlist.fr hw.fr) pa.id) (by rintro _ ⟨⟩; exact Nat.le_of_ble_eq_true rfl) ?_)
  · as_aux_lemma => kernel_rfl
  rintro ⟨m1, hm2⟩
  try dsimp only at hm2
  refine RUN0 1 [] [(0, .v (.slice list_a list.length list_c)), (3, .p 0 0), (5, I m1)] ?_ rfl ?_
  · as_aux_lemma => kernel_rfl
  refine ENDOPS (NEXT (SEQ (REGION [0, 1, 2, 3] rfl (OPC (BUILDS 42 0 #[] 11 42 ?_ (Nat.le_of_ble_eq_true rfl) 62 [] ?_ partyL [] rfl (by simp only [maxLen]; omega) [] [] _ rfl (flatRep rfl) (fun a3 ha4 => ?_))))))
  · as_aux_lemma => kernel_rfl
  · as_aux_lemma => kernel_rfl
  refine RUN0 1 [2, 3] [(0, .v (.slice list_a list.length list_c)), (3, .p 0 0), (5, I m1), (11, .v (.slice a3 0 0)), (12, .v (.slice list_a list.length list_c))] ?_ rfl ?_
  · as_aux_lemma => kernel_rfl
  refine OPC (APPENDR 42 (.tmp 11) (.tmp 12) 13 42 ?_ (Nat.le_of_ble_eq_true rfl) (.slice a3 0 0) list_a list.length list_c ?_ ?_ 62 ?_ (.agg #[vi 0, vi 0, vi 0, vi 0, vi 0, vi 0, vi 0, vi 0, vi 0, vi 0]) 80 ?_ rfl (by decide) 0 ([]) list _ rfl rfl (fun w hw => (hlist.fr hw.fr)) (by first | omega | (simp only [List.length_append, List.length_cons, List.length_nil, List.length_take, List.length_drop] at *; omega)) (by simp only [maxLen]; first | omega | (simp only [List.length_append, List.length_cons, List.length_nil, List.length_take, List.length_drop] at *; omega)) (fun a5 c6 hn7 => ?_))
  · as_aux_lemma => kernel_rfl
  · as_aux_lemma => kernel_rfl
  · as_aux_lemma => kernel_rfl
  · as_aux_lemma => kernel_rfl
  · as_aux_lemma => kernel_rfl
  refine RUN0 1 [] [(0, .v (.slice list_a list.length list_c)), (3, .p 0 0), (5, I m1), (6, .v (.slice a5 ((([]) ++ list).length) c6))] ?_ rfl ?_
  · as_aux_lemma => kernel_rfl
  refine ENDOPS (NEXT (SEQ (SEQ (REGION [0, 1] rfl (RUN0 2 [] [(0, .v (.slice list_a list.length list_c)), (3, .p 0 0), (5, I m1), (6, .v (.slice a5 ((([]) ++ list).length) c6)), (15, B (decide (m1 ≥ 0)))] ?_ rfl ?_)))))
  · as_aux_lemma => kernel_rfl
  refine ENDOPS (NEXT (IF (decide (m1 ≥ 0)) ?_ (fun bh8 => ?_) (fun bh8 => ?_)))
  · as_aux_lemma => kernel_rfl
  · -- decide (m1 ≥ 0) = true
    have h8 := bh8
    have h8 := of_decide_eq_true h8
    refine SEQ (REGION [0, 1, 2, 3, 4] rfl (RUN0 3 [3, 4] [(6, .v (.slice a5 ((([]) ++ list).length) c6)), (16, .v (.slice a5 ((([]) ++ list).length) c6)), (17, I m1), (18, .v (.agg #[vi pa.id, vi pa.cabin, vi pa.from', vi pa.size, vi pa.tier, vi pa.since, vi pa.turn, vi pa.state, vi pa.until', vi pa.asked]))] ?_ rfl ?_))
    · as_aux_lemma => kernel_rfl
    have hla9 : (([]) ++ list).length = 0 + list.length := by first | (simp only [List.length_append, List.length_cons, List.length_nil]; done) | (simp only [List.length_append, List.length_cons, List.length_nil]; omega) | (simp; done)
    obtain ⟨x10, hx11⟩ : ∃ y, (([]) ++ list)[m1.toNat]? = some y := ⟨_, List.getElem?_eq_getElem (by omega)⟩
    refine FACT (a5.isSome = true) (fun w hw => SlO.isS (hw.own 0 rfl) (by omega)) (fun hs12 => ?_)
    refine OPC (INDEX 42 (.tmp 16) (.tmp 17) 19 0 ?_ (Nat.le_of_ble_eq_true rfl) a5 ((([]) ++ list).length) c6 .i64 m1 62 10 ?_ ?_ ?_ ?_ hs12 (by omega) (by omega) ?_)
    · as_aux_lemma => kernel_rfl
    · as_aux_lemma => kernel_rfl
    · as_aux_lemma => kernel_rfl
    · as_aux_lemma => kernel_rfl
    · as_aux_lemma => kernel_rfl
    refine OPC (STOREF 62 (.tmp 19) (.tmp 18) 0 ?_ 0 _ 62 a5 ((([]) ++ list).length) c6 m1.toNat 0 (([]) ++ list) rfl x10 pa hx11 (.agg #[vi pa.id, vi pa.cabin, vi pa.from', vi pa.size, vi pa.tier, vi pa.since, vi pa.turn, vi pa.state, vi pa.until', vi pa.asked]) ?_ ?_ ?_ ?_)
    · as_aux_lemma => kernel_rfl
    · as_aux_lemma => kernel_rfl
    · as_aux_lemma => kernel_rfl
    · as_aux_lemma => kernel_rfl
    refine ENDOPS (NEXT (SEQ (REGION [0, 1] rfl (RUN0 2 [] [(4, .v (.slice a5 ((([]) ++ list).length) c6))] ?_ rfl ?_))))
    · as_aux_lemma => kernel_rfl
    refine ENDOPS (NEXT (RET (PASS trivial (FACT (((([]) ++ list).length) = ((([]) ++ list).set m1.toNat pa).length) (fun w hw => (SlO.lenE (hw.own 0 rfl)).1) (fun hln13 => ?_)))))
    refine RELEN (fun z : Nat => [(4, .v (.slice a5 z c6))]) (fun z : Nat => [(62, [vi pa.id, vi pa.cabin, vi pa.from', vi pa.size, vi pa.tier, vi pa.since, vi pa.turn, vi pa.state, vi pa.until', vi pa.asked])]) (fun z : Nat => [slA 62 partyL (.slice a5 z c6) ((([]) ++ list).set m1.toNat pa)]) hln13 ?_
    refine FIN (.slice a5 (((([]) ++ list).set m1.toNat pa).length) c6) ?_ ⟨((a5, c6), (([]) ++ list).set m1.toNat pa), (by first | omega | (dsimp only; omega) | (simp only [List.length_append, List.length_cons, List.length_nil, List.length_take, List.length_drop, List.length_set]; omega))⟩ ?_ [0] ?_
    · as_aux_lemma => kernel_rfl
    · rfl
    · rfl
  · -- decide (m1 ≥ 0) = false
    have h8 := bh8
    have h8 := of_decide_eq_false h8
    refine SKIP (NEXT (SEQ (REGION [0] rfl (RUN0 1 [] [(0, .v (.slice list_a list.length list_c)), (3, .p 0 0), (5, I 0)] ?_ rfl ?_))))
    · as_aux_lemma => kernel_rfl
    refine ENDOPS (NEXT (SEQ (BLOCK (LOOP (ι := Nat) (fun j => [(0, .v (.slice list_a list.length list_c)), (3, .p 0 0), (5, I (j : Int))]) (fun j => [(62, [vi pa.id, vi pa.cabin, vi pa.from', vi pa.size, vi pa.tier, vi pa.since, vi pa.turn, vi pa.state, vi pa.until', vi pa.asked])]) (fun j => [slA 62 partyL (.slice a5 (([]) ++ list).length c6) (([]) ++ list)]) (fun j => j ≤ list.length) (fun j => list.length - j) (0) [0, 3, 5] (by first | omega | (dsimp only; omega)) ?_ rfl rfl ?_))))
    · as_aux_lemma => kernel_rfl
    rintro k hk
    try dsimp only at hk
    refine SEQ (SEQ (REGIONQ ?_ ?_ ?_))
    · as_aux_lemma => kernel_rfl
    · as_aux_lemma => kernel_rfl
    refine QRUN 5 0 5 [(0, .v (.slice list_a list.length list_c)), (3, .p 0 0), (5, I (k : Int)), (25, B (decide ((k : Int) < (list.length : Int))))] ?_ rfl ?_
    · as_aux_lemma => kernel_rfl
    refine QSPLIT (d := 25) (decide ((k : Int) < (list.length : Int))) ?_ (fun bh14 => ?_) (fun bh14 => ?_)
    · as_aux_lemma => kernel_rfl
    · -- decide ((k : Int) < (list.length : Int)) = true
      have h14 := bh14
      have h14 := of_decide_eq_true h14
      refine QRUN 2 5 7 [(0, .v (.slice list_a list.length list_c)), (3, .p 0 0), (5, I (k : Int)), (25, B true), (26, .v (.slice list_a list.length list_c)), (27, I (k : Int))] ?_ rfl ?_
      · as_aux_lemma => kernel_rfl
      obtain ⟨x15, hx16⟩ : ∃ y, list[k]? = some y := ⟨_, List.getElem?_eq_getElem (by omega)⟩
      refine QINDEX 42 (.tmp 26) (.tmp 27) 28 0 ?_ (Nat.le_of_ble_eq_true rfl) list_a list.length list_c .i64 (k : Int) 62 10 ?_ ?_ ?_ ?_ (Rd.some hlist (by omega)) (by omega) (by omega) ?_
      · as_aux_lemma => kernel_rfl
      · as_aux_lemma => kernel_rfl
      · as_aux_lemma => kernel_rfl
      · as_aux_lemma => kernel_rfl
      · as_aux_lemma => kernel_rfl
      refine QRUN 1 8 9 [(0, .v (.slice list_a list.length list_c)), (3, .p 0 0), (5, I (k : Int)), (25, B true), (29, .e list_a (k * 10) 0)] ?_ rfl ?_
      · as_aux_lemma => kernel_rfl
      refine QLOADE 3 (.tmp 29) 30 3 ?_ (Nat.le_of_ble_eq_true rfl) list_a (k * 10) 0 [vi x15.id, vi x15.cabin, vi x15.from', vi x15.size, vi x15.tier, vi x15.since, vi x15.turn, vi x15.state, vi x15.until', vi x15.asked] (vi x15.id) ?_ (fun w hw => (hlist.fr hw.fr).flat hx16) ?_ ?_
      · as_aux_lemma => kernel_rfl
      · as_aux_lemma => kernel_rfl
      · as_aux_lemma => kernel_rfl
      refine QRUN 4 10 14 [(0, .v (.slice list_a list.length list_c)), (3, .p 0 0), (5, I (k : Int)), (34, B (decide (x15.id < pa.id)))] ?_ rfl ?_
      · as_aux_lemma => kernel_rfl
      refine QEND rfl (NEXT (IF (decide (x15.id < pa.id)) ?_ (fun bh17 => ?_) (fun bh17 => ?_)))
      · as_aux_lemma => kernel_rfl
      · -- decide (x15.id < pa.id) = true
        have h17 := bh17
        have h17 := of_decide_eq_true h17
        refine SKIP (NEXT (BLOCK (REGION [0, 1, 2] rfl (RUN0 2 [2] [(0, .v (.slice list_a list.length list_c)), (3, .p 0 0), (36, I (wr ((k : Int) + 1)))] ?_ rfl ?_))))
        · as_aux_lemma => kernel_rfl
        refine CAST (d := 36) (vi (wr ((k : Int) + 1))) (vi ((k + 1 : Nat) : Int)) ?_ (vi_cast (by omega) (by omega)) ?_
        · as_aux_lemma => kernel_rfl
        refine RUN0 1 [] [(0, .v (.slice list_a list.length list_c)), (3, .p 0 0), (5, I ((k + 1 : Nat) : Int))] ?_ rfl ?_
        · as_aux_lemma => kernel_rfl
        refine ENDOPS (OUTN (BACK (k + 1) [0, 3, 5] 1 [0] _ (by first | omega | (dsimp only; omega)) (by first | omega | (dsimp only; omega)) ?_ rfl rfl rfl))
        · as_aux_lemma => kernel_rfl
      · -- decide (x15.id < pa.id) = false
        have h17 := bh17
        have h17 := of_decide_eq_false h17
        refine EXIT (PASS trivial (PASS trivial (OUT (NEXT (SEQ (EXPORT (fun bs hbs => ?_)))))))
        obtain ⟨b18, rfl⟩ := len1 hbs
        refine REGIONH ?_ 9 rfl [ptC b18 62 [vi pa.id, vi pa.cabin, vi pa.from', vi pa.size, vi pa.tier, vi pa.since, vi pa.turn, vi pa.state, vi pa.until', vi pa.asked], slA 62 partyL (.slice a5 (([]) ++ list).length c6) (([]) ++ list)] ?_
        · as_aux_lemma => kernel_rfl
        refine HPURE (js := [0, 0]) 1 [(0, .v (.slice list_a list.length list_c)), (3, .e (some ⟨b18, 0, none⟩) 0 0), (5, I (k : Int)), (38, .v (.slice list_a list.length list_c))] ?_ ?_ rfl ?_
        · as_aux_lemma => kernel_rfl
        · as_aux_lemma => kernel_rfl
        refine HPURE (js := [0, 0]) 2 [(0, .v (.slice list_a list.length list_c)), (3, .e (some ⟨b18, 0, none⟩) 0 0), (5, I (k : Int)), (38, .v (.slice list_a list.length list_c)), (39, I (k : Int))] ?_ ?_ rfl ?_
        · as_aux_lemma => kernel_rfl
        · as_aux_lemma => kernel_rfl
        refine HLOADE (i := 5) (js := [0, 0])  62 (.tmp 3) 42 62 ?_ (Nat.le_of_ble_eq_true rfl) (some ⟨b18, 0, none⟩) 0 0 [vi pa.id, vi pa.cabin, vi pa.from', vi pa.size, vi pa.tier, vi pa.since, vi pa.turn, vi pa.state, vi pa.until', vi pa.asked] (.agg #[vi pa.id, vi pa.cabin, vi pa.from', vi pa.size, vi pa.tier, vi pa.since, vi pa.turn, vi pa.state, vi pa.until', vi pa.asked]) ?_ (fun w hw => ptC_elem (hw.own 0 rfl)) ?_ ?_ rfl ?_
        · as_aux_lemma => kernel_rfl
        · as_aux_lemma => kernel_rfl
        · as_aux_lemma => kernel_rfl
        · as_aux_lemma => kernel_rfl
        refine HALL [0, 3, 6] ?_ (by decide) ⟨?_, ?_, ?_⟩
        · as_aux_lemma => kernel_rfl
        · -- operation 0 next
          refine BUILDS 42 0 #[] 37 42 ?_ (Nat.le_of_ble_eq_true rfl) 62 [] ?_ partyL [] rfl (by simp only [maxLen]; omega) [] [] _ rfl (flatRep rfl) (fun a19 ha20 => ?_)
          · as_aux_lemma => kernel_rfl
          · as_aux_lemma => kernel_rfl
          refine HKEEP (js := [0, 0]) rfl (HALL [3, 6] ?_ (by decide) ⟨?_, ?_⟩)
          · as_aux_lemma => kernel_rfl
          · -- operation 3 next
            refine CUTH 42 (.tmp 38) (.tmp 39) 40 42 ?_ (Nat.le_of_ble_eq_true rfl) list_a list.length list_c .i64 (k : Int) ?_ ?_ 62 partyL list ?_ ?_ (by omega) (by first | omega | (simp only [List.length_append, List.length_cons, List.length_nil, List.length_take, List.length_drop] at *; omega)) rfl (by omega) (fun a21 hsh22 => ?_)
            · as_aux_lemma => kernel_rfl
            · as_aux_lemma => kernel_rfl
            · as_aux_lemma => kernel_rfl
            · as_aux_lemma => kernel_rfl
            · as_aux_lemma => kernel_rfl
            have hsh22 : ∀ w, Rd partyL w list_a list → Rd partyL w a21 (list.take k) := hsh22
            have hln23 : (list.take k).length = k := by first | (simp; done) | (simp; omega)
            refine CAST (d := 40) (.slice a21 k list_c) (.slice a21 ((list.take k).length) list_c) ?_ (by rw [hln23]) ?_
            · as_aux_lemma => kernel_rfl
            refine HKEEP (js := [0, 0]) rfl (HALL [4, 6] ?_ (by decide) ⟨?_, ?_⟩)
            · as_aux_lemma => kernel_rfl
            · -- operation 4 next
              refine APPENDR 42 (.tmp 37) (.tmp 40) 41 42 ?_ (Nat.le_of_ble_eq_true rfl) (.slice a19 0 0) a21 ((list.take k).length) list_c ?_ ?_ 62 ?_ (.agg #[vi 0, vi 0, vi 0, vi 0, vi 0, vi 0, vi 0, vi 0, vi 0, vi 0]) 80 ?_ rfl (by decide) 2 ([]) (list.take k) _ rfl rfl (fun w hw => (hsh22 _ (hlist.fr hw.fr))) (by first | omega | (simp only [List.length_append, List.length_cons, List.length_nil, List.length_take, List.length_drop] at *; omega)) (by simp only [maxLen]; first | omega | (simp only [List.length_append, List.length_cons, List.length_nil, List.length_take, List.length_drop] at *; omega)) (fun a24 c25 hn26 => ?_)
              · as_aux_lemma => kernel_rfl
              · as_aux_lemma => kernel_rfl
              · as_aux_lemma => kernel_rfl
              · as_aux_lemma => kernel_rfl
              · as_aux_lemma => kernel_rfl
              refine HKEEP (js := [0, 0]) rfl (HALL [6] ?_ (by decide) ?_)
              · as_aux_lemma => kernel_rfl
              refine BUILDS 42 1 #[(0, .tmp 42)] 43 42 ?_ (Nat.le_of_ble_eq_true rfl) 62 [vi pa.id, vi pa.cabin, vi pa.from', vi pa.size, vi pa.tier, vi pa.since, vi pa.turn, vi pa.state, vi pa.until', vi pa.asked] ?_ partyL [pa] rfl (by simp only [maxLen]; omega) [] [] _ rfl (flatRep rfl) (fun a27 ha28 => ?_)
              · as_aux_lemma => kernel_rfl
              · as_aux_lemma => kernel_rfl
              refine HKEEP (js := [0, 0]) rfl (HALL [7] ?_ (by decide) ?_)
              · as_aux_lemma => kernel_rfl
              refine APPENDO 42 (.tmp 41) (.tmp 43) 44 42 ?_ (Nat.le_of_ble_eq_true rfl) (.slice a24 ((([]) ++ (list.take k)).length) c25) a27 1 1 ?_ ?_ ha28 62 ?_ partyL (.agg #[vi 0, vi 0, vi 0, vi 0, vi 0, vi 0, vi 0, vi 0, vi 0, vi 0]) 80 ?_ rfl (by decide) 2 2 (([]) ++ (list.take k)) ([pa]) _ rfl rfl (by first | omega | (simp only [List.length_append, List.length_cons, List.length_nil, List.length_take, List.length_drop] at *; omega)) (by simp only [maxLen]; first | omega | (simp only [List.length_append, List.length_cons, List.length_nil, List.length_take, List.length_drop] at *; omega)) (fun a29 c30 hn31 => ?_)
              · as_aux_lemma => kernel_rfl
              · as_aux_lemma => kernel_rfl
              · as_aux_lemma => kernel_rfl
              · as_aux_lemma => kernel_rfl
              · as_aux_lemma => kernel_rfl
              refine HKEEP (js := [0, 0]) rfl (HPURE (js := [0, 0]) 8 [(0, .v (.slice list_a list.length list_c)), (5, I (k : Int)), (6, .v (.slice a29 (((([]) ++ (list.take k)) ++ ([pa])).length) c30))] ?_ ?_ rfl ?_)
              · as_aux_lemma => kernel_rfl
              · as_aux_lemma => kernel_rfl
              refine HEND ?_ ?_
              · as_aux_lemma => kernel_rfl
              refine IMPORT (L0 := [(62, [vi pa.id, vi pa.cabin, vi pa.from', vi pa.size, vi pa.tier, vi pa.since, vi pa.turn, vi pa.state, vi pa.until', vi pa.asked])]) (L1 := []) [b18] rfl [0] _ rfl [(0, .v (.slice list_a list.length list_c)), (5, I (k : Int)), (6, .v (.slice a29 (((([]) ++ (list.take k)) ++ ([pa])).length) c30))] ?_ ?_ ?_
              · as_aux_lemma => kernel_rfl
              · as_aux_lemma => kernel_rfl
              refine NEXT (SEQ (REGION [0, 1, 2, 3, 4, 5] rfl (RUN0 3 [3, 4, 5] [(45, .v (.slice a29 (((([]) ++ (list.take k)) ++ ([pa])).length) c30)), (46, .v (.slice list_a list.length list_c)), (47, I (k : Int))] ?_ rfl ?_)))
              · as_aux_lemma => kernel_rfl
              refine OPC (CUTL 42 (.tmp 46) (.tmp 47) 48 42 ?_ (Nat.le_of_ble_eq_true rfl) list_a list.length list_c .i64 (k : Int) ?_ ?_ 62 partyL list ?_ ?_ (by omega) (by first | omega | (simp only [List.length_append, List.length_cons, List.length_nil, List.length_take, List.length_drop] at *; omega)) rfl (by omega) (fun a32 hsh33 => ?_))
              · as_aux_lemma => kernel_rfl
              · as_aux_lemma => kernel_rfl
              · as_aux_lemma => kernel_rfl
              · as_aux_lemma => kernel_rfl
              · as_aux_lemma => kernel_rfl
              have hsh33 : ∀ w, Rd partyL w list_a list → Rd partyL w a32 (list.drop k) := hsh33
              have hln34 : (list.drop k).length = list.length - k := by first | (simp; done) | (simp; omega)
              refine CAST (d := 48) (.slice a32 (list.length - k) (list_c - k)) (.slice a32 ((list.drop k).length) (list_c - k)) ?_ (by rw [hln34]) ?_
              · as_aux_lemma => kernel_rfl
              refine OPC (APPENDR 42 (.tmp 45) (.tmp 48) 49 42 ?_ (Nat.le_of_ble_eq_true rfl) (.slice a29 (((([]) ++ (list.take k)) ++ ([pa])).length) c30) a32 ((list.drop k).length) (list_c - k) ?_ ?_ 62 ?_ (.agg #[vi 0, vi 0, vi 0, vi 0, vi 0, vi 0, vi 0, vi 0, vi 0, vi 0]) 80 ?_ rfl (by decide) 1 ((([]) ++ (list.take k)) ++ ([pa])) (list.drop k) _ rfl rfl (fun w hw => (hsh33 _ (hlist.fr hw.fr))) (by first | omega | (simp only [List.length_append, List.length_cons, List.length_nil, List.length_take, List.length_drop] at *; omega)) (by simp only [maxLen]; first | omega | (simp only [List.length_append, List.length_cons, List.length_nil, List.length_take, List.length_drop] at *; omega)) (fun a35 c36 hn37 => ?_))
              · as_aux_lemma => kernel_rfl
              · as_aux_lemma => kernel_rfl
              · as_aux_lemma => kernel_rfl
              · as_aux_lemma => kernel_rfl
              · as_aux_lemma => kernel_rfl
              refine RUN0 1 [] [(4, .v (.slice a35 ((((([]) ++ (list.take k)) ++ ([pa])) ++ (list.drop k)).length) c36))] ?_ rfl ?_
              · as_aux_lemma => kernel_rfl
              refine ENDOPS (NEXT (RET (FIN (.slice a35 ((((([]) ++ (list.take k)) ++ ([pa])) ++ (list.drop k)).length) c36) ?_ ⟨((a35, c36), ((([]) ++ (list.take k)) ++ ([pa])) ++ (list.drop k)), (by first | omega | (dsimp only; omega) | (simp only [List.length_append, List.length_cons, List.length_nil, List.length_take, List.length_drop, List.length_set]; omega))⟩ ?_ [1] ?_)))
              · as_aux_lemma => kernel_rfl
              · rfl
              · rfl
            · -- operation 6 next
              refine BUILDS 42 1 #[(0, .tmp 42)] 43 42 ?_ (Nat.le_of_ble_eq_true rfl) 62 [vi pa.id, vi pa.cabin, vi pa.from', vi pa.size, vi pa.tier, vi pa.since, vi pa.turn, vi pa.state, vi pa.until', vi pa.asked] ?_ partyL [pa] rfl (by simp only [maxLen]; omega) [] [] _ rfl (flatRep rfl) (fun a38 ha39 => ?_)
              · as_aux_lemma => kernel_rfl
              · as_aux_lemma => kernel_rfl
              refine HKEEP (js := [0, 0]) rfl (HALL [4] ?_ (by decide) ?_)
              · as_aux_lemma => kernel_rfl
              refine APPENDR 42 (.tmp 37) (.tmp 40) 41 42 ?_ (Nat.le_of_ble_eq_true rfl) (.slice a19 0 0) a21 ((list.take k).length) list_c ?_ ?_ 62 ?_ (.agg #[vi 0, vi 0, vi 0, vi 0, vi 0, vi 0, vi 0, vi 0, vi 0, vi 0]) 80 ?_ rfl (by decide) 2 ([]) (list.take k) _ rfl rfl (fun w hw => (hsh22 _ (hlist.fr hw.fr))) (by first | omega | (simp only [List.length_append, List.length_cons, List.length_nil, List.length_take, List.length_drop] at *; omega)) (by simp only [maxLen]; first | omega | (simp only [List.length_append, List.length_cons, List.length_nil, List.length_take, List.length_drop] at *; omega)) (fun a40 c41 hn42 => ?_)
              · as_aux_lemma => kernel_rfl
              · as_aux_lemma => kernel_rfl
              · as_aux_lemma => kernel_rfl
              · as_aux_lemma => kernel_rfl
              · as_aux_lemma => kernel_rfl
              refine HKEEP (js := [0, 0]) rfl (HALL [7] ?_ (by decide) ?_)
              · as_aux_lemma => kernel_rfl
              refine APPENDO 42 (.tmp 41) (.tmp 43) 44 42 ?_ (Nat.le_of_ble_eq_true rfl) (.slice a40 ((([]) ++ (list.take k)).length) c41) a38 1 1 ?_ ?_ ha39 62 ?_ partyL (.agg #[vi 0, vi 0, vi 0, vi 0, vi 0, vi 0, vi 0, vi 0, vi 0, vi 0]) 80 ?_ rfl (by decide) 3 2 (([]) ++ (list.take k)) ([pa]) _ rfl rfl (by first | omega | (simp only [List.length_append, List.length_cons, List.length_nil, List.length_take, List.length_drop] at *; omega)) (by simp only [maxLen]; first | omega | (simp only [List.length_append, List.length_cons, List.length_nil, List.length_take, List.length_drop] at *; omega)) (fun a43 c44 hn45 => ?_)
              · as_aux_lemma => kernel_rfl
              · as_aux_lemma => kernel_rfl
              · as_aux_lemma => kernel_rfl
              · as_aux_lemma => kernel_rfl
              · as_aux_lemma => kernel_rfl
              refine HKEEP (js := [0, 0]) rfl (HPURE (js := [0, 0]) 8 [(0, .v (.slice list_a list.length list_c)), (5, I (k : Int)), (6, .v (.slice a43 (((([]) ++ (list.take k)) ++ ([pa])).length) c44))] ?_ ?_ rfl ?_)
              · as_aux_lemma => kernel_rfl
              · as_aux_lemma => kernel_rfl
              refine HEND ?_ ?_
              · as_aux_lemma => kernel_rfl
              refine IMPORT (L0 := [(62, [vi pa.id, vi pa.cabin, vi pa.from', vi pa.size, vi pa.tier, vi pa.since, vi pa.turn, vi pa.state, vi pa.until', vi pa.asked])]) (L1 := []) [b18] rfl [0] _ rfl [(0, .v (.slice list_a list.length list_c)), (5, I (k : Int)), (6, .v (.slice a43 (((([]) ++ (list.take k)) ++ ([pa])).length) c44))] ?_ ?_ ?_
              · as_aux_lemma => kernel_rfl
              · as_aux_lemma => kernel_rfl
              refine NEXT (SEQ (REGION [0, 1, 2, 3, 4, 5] rfl (RUN0 3 [3, 4, 5] [(45, .v (.slice a43 (((([]) ++ (list.take k)) ++ ([pa])).length) c44)), (46, .v (.slice list_a list.length list_c)), (47, I (k : Int))] ?_ rfl ?_)))
              · as_aux_lemma => kernel_rfl
              refine OPC (CUTL 42 (.tmp 46) (.tmp 47) 48 42 ?_ (Nat.le_of_ble_eq_true rfl) list_a list.length list_c .i64 (k : Int) ?_ ?_ 62 partyL list ?_ ?_ (by omega) (by first | omega | (simp only [List.length_append, List.length_cons, List.length_nil, List.length_take, List.length_drop] at *; omega)) rfl (by omega) (fun a46 hsh47 => ?_))
              · as_aux_lemma => kernel_rfl
              · as_aux_lemma => kernel_rfl
              · as_aux_lemma => kernel_rfl
              · as_aux_lemma => kernel_rfl
              · as_aux_lemma => kernel_rfl
              have hsh47 : ∀ w, Rd partyL w list_a list → Rd partyL w a46 (list.drop k) := hsh47
              have hln48 : (list.drop k).length = list.length - k := by first | (simp; done) | (simp; omega)
              refine CAST (d := 48) (.slice a46 (list.length - k) (list_c - k)) (.slice a46 ((list.drop k).length) (list_c - k)) ?_ (by rw [hln48]) ?_
              · as_aux_lemma => kernel_rfl
              refine OPC (APPENDR 42 (.tmp 45) (.tmp 48) 49 42 ?_ (Nat.le_of_ble_eq_true rfl) (.slice a43 (((([]) ++ (list.take k)) ++ ([pa])).length) c44) a46 ((list.drop k).length) (list_c - k) ?_ ?_ 62 ?_ (.agg #[vi 0, vi 0, vi 0, vi 0, vi 0, vi 0, vi 0, vi 0, vi 0, vi 0]) 80 ?_ rfl (by decide) 1 ((([]) ++ (list.take k)) ++ ([pa])) (list.drop k) _ rfl rfl (fun w hw => (hsh47 _ (hlist.fr hw.fr))) (by first | omega | (simp only [List.length_append, List.length_cons, List.length_nil, List.length_take, List.length_drop] at *; omega)) (by simp only [maxLen]; first | omega | (simp only [List.length_append, List.length_cons, List.length_nil, List.length_take, List.length_drop] at *; omega)) (fun a49 c50 hn51 => ?_))
              · as_aux_lemma => kernel_rfl
              · as_aux_lemma => kernel_rfl
              · as_aux_lemma => kernel_rfl
              · as_aux_lemma => kernel_rfl
              · as_aux_lemma => kernel_rfl
              refine RUN0 1 [] [(4, .v (.slice a49 ((((([]) ++ (list.take k)) ++ ([pa])) ++ (list.drop k)).length) c50))] ?_ rfl ?_
              · as_aux_lemma => kernel_rfl
              refine ENDOPS (NEXT (RET (FIN (.slice a49 ((((([]) ++ (list.take k)) ++ ([pa])) ++ (list.drop k)).length) c50) ?_ ⟨((a49, c50), ((([]) ++ (list.take k)) ++ ([pa])) ++ (list.drop k)), (by first | omega | (dsimp only; omega) | (simp only [List.length_append, List.length_cons, List.length_nil, List.length_take, List.length_drop, List.length_set]; omega))⟩ ?_ [1] ?_)))
              · as_aux_lemma => kernel_rfl
              · rfl
              · rfl
          · -- operation 6 next
            refine BUILDS 42 1 #[(0, .tmp 42)] 43 42 ?_ (Nat.le_of_ble_eq_true rfl) 62 [vi pa.id, vi pa.cabin, vi pa.from', vi pa.size, vi pa.tier, vi pa.since, vi pa.turn, vi pa.state, vi pa.until', vi pa.asked] ?_ partyL [pa] rfl (by simp only [maxLen]; omega) [] [] _ rfl (flatRep rfl) (fun a52 ha53 => ?_)
            · as_aux_lemma => kernel_rfl
            · as_aux_lemma => kernel_rfl
            refine HKEEP (js := [0, 0]) rfl (HALL [3] ?_ (by decide) ?_)
            · as_aux_lemma => kernel_rfl
            refine CUTH 42 (.tmp 38) (.tmp 39) 40 42 ?_ (Nat.le_of_ble_eq_true rfl) list_a list.length list_c .i64 (k : Int) ?_ ?_ 62 partyL list ?_ ?_ (by omega) (by first | omega | (simp only [List.length_append, List.length_cons, List.length_nil, List.length_take, List.length_drop] at *; omega)) rfl (by omega) (fun a54 hsh55 => ?_)
            · as_aux_lemma => kernel_rfl
            · as_aux_lemma => kernel_rfl
            · as_aux_lemma => kernel_rfl
            · as_aux_lemma => kernel_rfl
            · as_aux_lemma => kernel_rfl
            have hsh55 : ∀ w, Rd partyL w list_a list → Rd partyL w a54 (list.take k) := hsh55
            have hln56 : (list.take k).length = k := by first | (simp; done) | (simp; omega)
            refine CAST (d := 40) (.slice a54 k list_c) (.slice a54 ((list.take k).length) list_c) ?_ (by rw [hln56]) ?_
            · as_aux_lemma => kernel_rfl
            refine HKEEP (js := [0, 0]) rfl (HALL [4] ?_ (by decide) ?_)
            · as_aux_lemma => kernel_rfl
            refine APPENDR 42 (.tmp 37) (.tmp 40) 41 42 ?_ (Nat.le_of_ble_eq_true rfl) (.slice a19 0 0) a54 ((list.take k).length) list_c ?_ ?_ 62 ?_ (.agg #[vi 0, vi 0, vi 0, vi 0, vi 0, vi 0, vi 0, vi 0, vi 0, vi 0]) 80 ?_ rfl (by decide) 2 ([]) (list.take k) _ rfl rfl (fun w hw => (hsh55 _ (hlist.fr hw.fr))) (by first | omega | (simp only [List.length_append, List.length_cons, List.length_nil, List.length_take, List.length_drop] at *; omega)) (by simp only [maxLen]; first | omega | (simp only [List.length_append, List.length_cons, List.length_nil, List.length_take, List.length_drop] at *; omega)) (fun a57 c58 hn59 => ?_)
            · as_aux_lemma => kernel_rfl
            · as_aux_lemma => kernel_rfl
            · as_aux_lemma => kernel_rfl
            · as_aux_lemma => kernel_rfl
            · as_aux_lemma => kernel_rfl
            refine HKEEP (js := [0, 0]) rfl (HALL [7] ?_ (by decide) ?_)
            · as_aux_lemma => kernel_rfl
            refine APPENDO 42 (.tmp 41) (.tmp 43) 44 42 ?_ (Nat.le_of_ble_eq_true rfl) (.slice a57 ((([]) ++ (list.take k)).length) c58) a52 1 1 ?_ ?_ ha53 62 ?_ partyL (.agg #[vi 0, vi 0, vi 0, vi 0, vi 0, vi 0, vi 0, vi 0, vi 0, vi 0]) 80 ?_ rfl (by decide) 3 2 (([]) ++ (list.take k)) ([pa]) _ rfl rfl (by first | omega | (simp only [List.length_append, List.length_cons, List.length_nil, List.length_take, List.length_drop] at *; omega)) (by simp only [maxLen]; first | omega | (simp only [List.length_append, List.length_cons, List.length_nil, List.length_take, List.length_drop] at *; omega)) (fun a60 c61 hn62 => ?_)
            · as_aux_lemma => kernel_rfl
            · as_aux_lemma => kernel_rfl
            · as_aux_lemma => kernel_rfl
            · as_aux_lemma => kernel_rfl
            · as_aux_lemma => kernel_rfl
            refine HKEEP (js := [0, 0]) rfl (HPURE (js := [0, 0]) 8 [(0, .v (.slice list_a list.length list_c)), (5, I (k : Int)), (6, .v (.slice a60 (((([]) ++ (list.take k)) ++ ([pa])).length) c61))] ?_ ?_ rfl ?_)
            · as_aux_lemma => kernel_rfl
            · as_aux_lemma => kernel_rfl
            refine HEND ?_ ?_
            · as_aux_lemma => kernel_rfl
            refine IMPORT (L0 := [(62, [vi pa.id, vi pa.cabin, vi pa.from', vi pa.size, vi pa.tier, vi pa.since, vi pa.turn, vi pa.state, vi pa.until', vi pa.asked])]) (L1 := []) [b18] rfl [0] _ rfl [(0, .v (.slice list_a list.length list_c)), (5, I (k : Int)), (6, .v (.slice a60 (((([]) ++ (list.take k)) ++ ([pa])).length) c61))] ?_ ?_ ?_
            · as_aux_lemma => kernel_rfl
            · as_aux_lemma => kernel_rfl
            refine NEXT (SEQ (REGION [0, 1, 2, 3, 4, 5] rfl (RUN0 3 [3, 4, 5] [(45, .v (.slice a60 (((([]) ++ (list.take k)) ++ ([pa])).length) c61)), (46, .v (.slice list_a list.length list_c)), (47, I (k : Int))] ?_ rfl ?_)))
            · as_aux_lemma => kernel_rfl
            refine OPC (CUTL 42 (.tmp 46) (.tmp 47) 48 42 ?_ (Nat.le_of_ble_eq_true rfl) list_a list.length list_c .i64 (k : Int) ?_ ?_ 62 partyL list ?_ ?_ (by omega) (by first | omega | (simp only [List.length_append, List.length_cons, List.length_nil, List.length_take, List.length_drop] at *; omega)) rfl (by omega) (fun a63 hsh64 => ?_))
            · as_aux_lemma => kernel_rfl
            · as_aux_lemma => kernel_rfl
            · as_aux_lemma => kernel_rfl
            · as_aux_lemma => kernel_rfl
            · as_aux_lemma => kernel_rfl
            have hsh64 : ∀ w, Rd partyL w list_a list → Rd partyL w a63 (list.drop k) := hsh64
            have hln65 : (list.drop k).length = list.length - k := by first | (simp; done) | (simp; omega)
            refine CAST (d := 48) (.slice a63 (list.length - k) (list_c - k)) (.slice a63 ((list.drop k).length) (list_c - k)) ?_ (by rw [hln65]) ?_
            · as_aux_lemma => kernel_rfl
            refine OPC (APPENDR 42 (.tmp 45) (.tmp 48) 49 42 ?_ (Nat.le_of_ble_eq_true rfl) (.slice a60 (((([]) ++ (list.take k)) ++ ([pa])).length) c61) a63 ((list.drop k).length) (list_c - k) ?_ ?_ 62 ?_ (.agg #[vi 0, vi 0, vi 0, vi 0, vi 0, vi 0, vi 0, vi 0, vi 0, vi 0]) 80 ?_ rfl (by decide) 1 ((([]) ++ (list.take k)) ++ ([pa])) (list.drop k) _ rfl rfl (fun w hw => (hsh64 _ (hlist.fr hw.fr))) (by first | omega | (simp only [List.length_append, List.length_cons, List.length_nil, List.length_take, List.length_drop] at *; omega)) (by simp only [maxLen]; first | omega | (simp only [List.length_append, List.length_cons, List.length_nil, List.length_take, List.length_drop] at *; omega)) (fun a66 c67 hn68 => ?_))
            · as_aux_lemma => kernel_rfl
            · as_aux_lemma => kernel_rfl
            · as_aux_lemma => kernel_rfl
            · as_aux_lemma => kernel_rfl
            · as_aux_lemma => kernel_rfl
            refine RUN0 1 [] [(4, .v (.slice a66 ((((([]) ++ (list.take k)) ++ ([pa])) ++ (list.drop k)).length) c67))] ?_ rfl ?_
            · as_aux_lemma => kernel_rfl
            refine ENDOPS (NEXT (RET (FIN (.slice a66 ((((([]) ++ (list.take k)) ++ ([pa])) ++ (list.drop k)).length) c67) ?_ ⟨((a66, c67), ((([]) ++ (list.take k)) ++ ([pa])) ++ (list.drop k)), (by first | omega | (dsimp only; omega) | (simp only [List.length_append, List.length_cons, List.length_nil, List.length_take, List.length_drop, List.length_set]; omega))⟩ ?_ [1] ?_)))
            · as_aux_lemma => kernel_rfl
            · rfl
            · rfl
        · -- operation 3 next
          refine CUTH 42 (.tmp 38) (.tmp 39) 40 42 ?_ (Nat.le_of_ble_eq_true rfl) list_a list.length list_c .i64 (k : Int) ?_ ?_ 62 partyL list ?_ ?_ (by omega) (by first | omega | (simp only [List.length_append, List.length_cons, List.length_nil, List.length_take, List.length_drop] at *; omega)) rfl (by omega) (fun a69 hsh70 => ?_)
          · as_aux_lemma => kernel_rfl
          · as_aux_lemma => kernel_rfl
          · as_aux_lemma => kernel_rfl
          · as_aux_lemma => kernel_rfl
          · as_aux_lemma => kernel_rfl
          have hsh70 : ∀ w, Rd partyL w list_a list → Rd partyL w a69 (list.take k) := hsh70
          have hln71 : (list.take k).length = k := by first | (simp; done) | (simp; omega)
          refine CAST (d := 40) (.slice a69 k list_c) (.slice a69 ((list.take k).length) list_c) ?_ (by rw [hln71]) ?_
          · as_aux_lemma => kernel_rfl
          refine HKEEP (js := [0, 0]) rfl (HALL [0, 6] ?_ (by decide) ⟨?_, ?_⟩)
          · as_aux_lemma => kernel_rfl
          · -- operation 0 next
            refine BUILDS 42 0 #[] 37 42 ?_ (Nat.le_of_ble_eq_true rfl) 62 [] ?_ partyL [] rfl (by simp only [maxLen]; omega) [] [] _ rfl (flatRep rfl) (fun a72 ha73 => ?_)
            · as_aux_lemma => kernel_rfl
            · as_aux_lemma => kernel_rfl
            refine HKEEP (js := [0, 0]) rfl (HALL [4, 6] ?_ (by decide) ⟨?_, ?_⟩)
            · as_aux_lemma => kernel_rfl
            · -- operation 4 next
              refine APPENDR 42 (.tmp 37) (.tmp 40) 41 42 ?_ (Nat.le_of_ble_eq_true rfl) (.slice a72 0 0) a69 ((list.take k).length) list_c ?_ ?_ 62 ?_ (.agg #[vi 0, vi 0, vi 0, vi 0, vi 0, vi 0, vi 0, vi 0, vi 0, vi 0]) 80 ?_ rfl (by decide) 2 ([]) (list.take k) _ rfl rfl (fun w hw => (hsh70 _ (hlist.fr hw.fr))) (by first | omega | (simp only [List.length_append, List.length_cons, List.length_nil, List.length_take, List.length_drop] at *; omega)) (by simp only [maxLen]; first | omega | (simp only [List.length_append, List.length_cons, List.length_nil, List.length_take, List.length_drop] at *; omega)) (fun a74 c75 hn76 => ?_)
              · as_aux_lemma => kernel_rfl
              · as_aux_lemma => kernel_rfl
              · as_aux_lemma => kernel_rfl
              · as_aux_lemma => kernel_rfl
              · as_aux_lemma => kernel_rfl
              refine HKEEP (js := [0, 0]) rfl (HALL [6] ?_ (by decide) ?_)
              · as_aux_lemma => kernel_rfl
              refine BUILDS 42 1 #[(0, .tmp 42)] 43 42 ?_ (Nat.le_of_ble_eq_true rfl) 62 [vi pa.id, vi pa.cabin, vi pa.from', vi pa.size, vi pa.tier, vi pa.since, vi pa.turn, vi pa.state, vi pa.until', vi pa.asked] ?_ partyL [pa] rfl (by simp only [maxLen]; omega) [] [] _ rfl (flatRep rfl) (fun a77 ha78 => ?_)
              · as_aux_lemma => kernel_rfl
              · as_aux_lemma => kernel_rfl
              refine HKEEP (js := [0, 0]) rfl (HALL [7] ?_ (by decide) ?_)
              · as_aux_lemma => kernel_rfl
              refine APPENDO 42 (.tmp 41) (.tmp 43) 44 42 ?_ (Nat.le_of_ble_eq_true rfl) (.slice a74 ((([]) ++ (list.take k)).length) c75) a77 1 1 ?_ ?_ ha78 62 ?_ partyL (.agg #[vi 0, vi 0, vi 0, vi 0, vi 0, vi 0, vi 0, vi 0, vi 0, vi 0]) 80 ?_ rfl (by decide) 2 2 (([]) ++ (list.take k)) ([pa]) _ rfl rfl (by first | omega | (simp only [List.length_append, List.length_cons, List.length_nil, List.length_take, List.length_drop] at *; omega)) (by simp only [maxLen]; first | omega | (simp only [List.length_append, List.length_cons, List.length_nil, List.length_take, List.length_drop] at *; omega)) (fun a79 c80 hn81 => ?_)
              · as_aux_lemma => kernel_rfl
              · as_aux_lemma => kernel_rfl
              · as_aux_lemma => kernel_rfl
              · as_aux_lemma => kernel_rfl
              · as_aux_lemma => kernel_rfl
              refine HKEEP (js := [0, 0]) rfl (HPURE (js := [0, 0]) 8 [(0, .v (.slice list_a list.length list_c)), (5, I (k : Int)), (6, .v (.slice a79 (((([]) ++ (list.take k)) ++ ([pa])).length) c80))] ?_ ?_ rfl ?_)
              · as_aux_lemma => kernel_rfl
              · as_aux_lemma => kernel_rfl
              refine HEND ?_ ?_
              · as_aux_lemma => kernel_rfl
              refine IMPORT (L0 := [(62, [vi pa.id, vi pa.cabin, vi pa.from', vi pa.size, vi pa.tier, vi pa.since, vi pa.turn, vi pa.state, vi pa.until', vi pa.asked])]) (L1 := []) [b18] rfl [0] _ rfl [(0, .v (.slice list_a list.length list_c)), (5, I (k : Int)), (6, .v (.slice a79 (((([]) ++ (list.take k)) ++ ([pa])).length) c80))] ?_ ?_ ?_
              · as_aux_lemma => kernel_rfl
              · as_aux_lemma => kernel_rfl
              refine NEXT (SEQ (REGION [0, 1, 2, 3, 4, 5] rfl (RUN0 3 [3, 4, 5] [(45, .v (.slice a79 (((([]) ++ (list.take k)) ++ ([pa])).length) c80)), (46, .v (.slice list_a list.length list_c)), (47, I (k : Int))] ?_ rfl ?_)))
              · as_aux_lemma => kernel_rfl
              refine OPC (CUTL 42 (.tmp 46) (.tmp 47) 48 42 ?_ (Nat.le_of_ble_eq_true rfl) list_a list.length list_c .i64 (k : Int) ?_ ?_ 62 partyL list ?_ ?_ (by omega) (by first | omega | (simp only [List.length_append, List.length_cons, List.length_nil, List.length_take, List.length_drop] at *; omega)) rfl (by omega) (fun a82 hsh83 => ?_))
              · as_aux_lemma => kernel_rfl
              · as_aux_lemma => kernel_rfl
              · as_aux_lemma => kernel_rfl
              · as_aux_lemma => kernel_rfl
              · as_aux_lemma => kernel_rfl
              have hsh83 : ∀ w, Rd partyL w list_a list → Rd partyL w a82 (list.drop k) := hsh83
              have hln84 : (list.drop k).length = list.length - k := by first | (simp; done) | (simp; omega)
              refine CAST (d := 48) (.slice a82 (list.length - k) (list_c - k)) (.slice a82 ((list.drop k).length) (list_c - k)) ?_ (by rw [hln84]) ?_
              · as_aux_lemma => kernel_rfl
              refine OPC (APPENDR 42 (.tmp 45) (.tmp 48) 49 42 ?_ (Nat.le_of_ble_eq_true rfl) (.slice a79 (((([]) ++ (list.take k)) ++ ([pa])).length) c80) a82 ((list.drop k).length) (list_c - k) ?_ ?_ 62 ?_ (.agg #[vi 0, vi 0, vi 0, vi 0, vi 0, vi 0, vi 0, vi 0, vi 0, vi 0]) 80 ?_ rfl (by decide) 1 ((([]) ++ (list.take k)) ++ ([pa])) (list.drop k) _ rfl rfl (fun w hw => (hsh83 _ (hlist.fr hw.fr))) (by first | omega | (simp only [List.length_append, List.length_cons, List.length_nil, List.length_take, List.length_drop] at *; omega)) (by simp only [maxLen]; first | omega | (simp only [List.length_append, List.length_cons, List.length_nil, List.length_take, List.length_drop] at *; omega)) (fun a85 c86 hn87 => ?_))
              · as_aux_lemma => kernel_rfl
              · as_aux_lemma => kernel_rfl
              · as_aux_lemma => kernel_rfl
              · as_aux_lemma => kernel_rfl
              · as_aux_lemma => kernel_rfl
              refine RUN0 1 [] [(4, .v (.slice a85 ((((([]) ++ (list.take k)) ++ ([pa])) ++ (list.drop k)).length) c86))] ?_ rfl ?_
              · as_aux_lemma => kernel_rfl
              refine ENDOPS (NEXT (RET (FIN (.slice a85 ((((([]) ++ (list.take k)) ++ ([pa])) ++ (list.drop k)).length) c86) ?_ ⟨((a85, c86), ((([]) ++ (list.take k)) ++ ([pa])) ++ (list.drop k)), (by first | omega | (dsimp only; omega) | (simp only [List.length_append, List.length_cons, List.length_nil, List.length_take, List.length_drop, List.length_set]; omega))⟩ ?_ [1] ?_)))
              · as_aux_lemma => kernel_rfl
              · rfl
              · rfl
            · -- operation 6 next
              refine BUILDS 42 1 #[(0, .tmp 42)] 43 42 ?_ (Nat.le_of_ble_eq_true rfl) 62 [vi pa.id, vi pa.cabin, vi pa.from', vi pa.size, vi pa.tier, vi pa.since, vi pa.turn, vi pa.state, vi pa.until', vi pa.asked] ?_ partyL [pa] rfl (by simp only [maxLen]; omega) [] [] _ rfl (flatRep rfl) (fun a88 ha89 => ?_)
              · as_aux_lemma => kernel_rfl
              · as_aux_lemma => kernel_rfl
              refine HKEEP (js := [0, 0]) rfl (HALL [4] ?_ (by decide) ?_)
              · as_aux_lemma => kernel_rfl
              refine APPENDR 42 (.tmp 37) (.tmp 40) 41 42 ?_ (Nat.le_of_ble_eq_true rfl) (.slice a72 0 0) a69 ((list.take k).length) list_c ?_ ?_ 62 ?_ (.agg #[vi 0, vi 0, vi 0, vi 0, vi 0, vi 0, vi 0, vi 0, vi 0, vi 0]) 80 ?_ rfl (by decide) 2 ([]) (list.take k) _ rfl rfl (fun w hw => (hsh70 _ (hlist.fr hw.fr))) (by first | omega | (simp only [List.length_append, List.length_cons, List.length_nil, List.length_take, List.length_drop] at *; omega)) (by simp only [maxLen]; first | omega | (simp only [List.length_append, List.length_cons, List.length_nil, List.length_take, List.length_drop] at *; omega)) (fun a90 c91 hn92 => ?_)
              · as_aux_lemma => kernel_rfl
              · as_aux_lemma => kernel_rfl
              · as_aux_lemma => kernel_rfl
              · as_aux_lemma => kernel_rfl
              · as_aux_lemma => kernel_rfl
              refine HKEEP (js := [0, 0]) rfl (HALL [7] ?_ (by decide) ?_)
              · as_aux_lemma => kernel_rfl
              refine APPENDO 42 (.tmp 41) (.tmp 43) 44 42 ?_ (Nat.le_of_ble_eq_true rfl) (.slice a90 ((([]) ++ (list.take k)).length) c91) a88 1 1 ?_ ?_ ha89 62 ?_ partyL (.agg #[vi 0, vi 0, vi 0, vi 0, vi 0, vi 0, vi 0, vi 0, vi 0, vi 0]) 80 ?_ rfl (by decide) 3 2 (([]) ++ (list.take k)) ([pa]) _ rfl rfl (by first | omega | (simp only [List.length_append, List.length_cons, List.length_nil, List.length_take, List.length_drop] at *; omega)) (by simp only [maxLen]; first | omega | (simp only [List.length_append, List.length_cons, List.length_nil, List.length_take, List.length_drop] at *; omega)) (fun a93 c94 hn95 => ?_)
              · as_aux_lemma => kernel_rfl
              · as_aux_lemma => kernel_rfl
              · as_aux_lemma => kernel_rfl
              · as_aux_lemma => kernel_rfl
              · as_aux_lemma => kernel_rfl
              refine HKEEP (js := [0, 0]) rfl (HPURE (js := [0, 0]) 8 [(0, .v (.slice list_a list.length list_c)), (5, I (k : Int)), (6, .v (.slice a93 (((([]) ++ (list.take k)) ++ ([pa])).length) c94))] ?_ ?_ rfl ?_)
              · as_aux_lemma => kernel_rfl
              · as_aux_lemma => kernel_rfl
              refine HEND ?_ ?_
              · as_aux_lemma => kernel_rfl
              refine IMPORT (L0 := [(62, [vi pa.id, vi pa.cabin, vi pa.from', vi pa.size, vi pa.tier, vi pa.since, vi pa.turn, vi pa.state, vi pa.until', vi pa.asked])]) (L1 := []) [b18] rfl [0] _ rfl [(0, .v (.slice list_a list.length list_c)), (5, I (k : Int)), (6, .v (.slice a93 (((([]) ++ (list.take k)) ++ ([pa])).length) c94))] ?_ ?_ ?_
              · as_aux_lemma => kernel_rfl
              · as_aux_lemma => kernel_rfl
              refine NEXT (SEQ (REGION [0, 1, 2, 3, 4, 5] rfl (RUN0 3 [3, 4, 5] [(45, .v (.slice a93 (((([]) ++ (list.take k)) ++ ([pa])).length) c94)), (46, .v (.slice list_a list.length list_c)), (47, I (k : Int))] ?_ rfl ?_)))
              · as_aux_lemma => kernel_rfl
              refine OPC (CUTL 42 (.tmp 46) (.tmp 47) 48 42 ?_ (Nat.le_of_ble_eq_true rfl) list_a list.length list_c .i64 (k : Int) ?_ ?_ 62 partyL list ?_ ?_ (by omega) (by first | omega | (simp only [List.length_append, List.length_cons, List.length_nil, List.length_take, List.length_drop] at *; omega)) rfl (by omega) (fun a96 hsh97 => ?_))
              · as_aux_lemma => kernel_rfl
              · as_aux_lemma => kernel_rfl
              · as_aux_lemma => kernel_rfl
              · as_aux_lemma => kernel_rfl
              · as_aux_lemma => kernel_rfl
              have hsh97 : ∀ w, Rd partyL w list_a list → Rd partyL w a96 (list.drop k) := hsh97
              have hln98 : (list.drop k).length = list.length - k := by first | (simp; done) | (simp; omega)
              refine CAST (d := 48) (.slice a96 (list.length - k) (list_c - k)) (.slice a96 ((list.drop k).length) (list_c - k)) ?_ (by rw [hln98]) ?_
              · as_aux_lemma => kernel_rfl
              refine OPC (APPENDR 42 (.tmp 45) (.tmp 48) 49 42 ?_ (Nat.le_of_ble_eq_true rfl) (.slice a93 (((([]) ++ (list.take k)) ++ ([pa])).length) c94) a96 ((list.drop k).length) (list_c - k) ?_ ?_ 62 ?_ (.agg #[vi 0, vi 0, vi 0, vi 0, vi 0, vi 0, vi 0, vi 0, vi 0, vi 0]) 80 ?_ rfl (by decide) 1 ((([]) ++ (list.take k)) ++ ([pa])) (list.drop k) _ rfl rfl (fun w hw => (hsh97 _ (hlist.fr hw.fr))) (by first | omega | (simp only [List.length_append, List.length_cons, List.length_nil, List.length_take, List.length_drop] at *; omega)) (by simp only [maxLen]; first | omega | (simp only [List.length_append, List.length_cons, List.length_nil, List.length_take, List.length_drop] at *; omega)) (fun a99 c100 hn101 => ?_))
              · as_aux_lemma => kernel_rfl
              · as_aux_lemma => kernel_rfl
              · as_aux_lemma => kernel_rfl
              · as_aux_lemma => kernel_rfl
              · as_aux_lemma => kernel_rfl
              refine RUN0 1 [] [(4, .v (.slice a99 ((((([]) ++ (list.take k)) ++ ([pa])) ++ (list.drop k)).length) c100))] ?_ rfl ?_
              · as_aux_lemma => kernel_rfl
              refine ENDOPS (NEXT (RET (FIN (.slice a99 ((((([]) ++ (list.take k)) ++ ([pa])) ++ (list.drop k)).length) c100) ?_ ⟨((a99, c100), ((([]) ++ (list.take k)) ++ ([pa])) ++ (list.drop k)), (by first | omega | (dsimp only; omega) | (simp only [List.length_append, List.length_cons, List.length_nil, List.length_take, List.length_drop, List.length_set]; omega))⟩ ?_ [1] ?_)))
              · as_aux_lemma => kernel_rfl
              · rfl
              · rfl
          · -- operation 6 next
            refine BUILDS 42 1 #[(0, .tmp 42)] 43 42 ?_ (Nat.le_of_ble_eq_true rfl) 62 [vi pa.id, vi pa.cabin, vi pa.from', vi pa.size, vi pa.tier, vi pa.since, vi pa.turn, vi pa.state, vi pa.until', vi pa.asked] ?_ partyL [pa] rfl (by simp only [maxLen]; omega) [] [] _ rfl (flatRep rfl) (fun a102 ha103 => ?_)
            · as_aux_lemma => kernel_rfl
            · as_aux_lemma => kernel_rfl
            refine HKEEP (js := [0, 0]) rfl (HALL [0] ?_ (by decide) ?_)
            · as_aux_lemma => kernel_rfl
            refine BUILDS 42 0 #[] 37 42 ?_ (Nat.le_of_ble_eq_true rfl) 62 [] ?_ partyL [] rfl (by simp only [maxLen]; omega) [] [] _ rfl (flatRep rfl) (fun a104 ha105 => ?_)
            · as_aux_lemma => kernel_rfl
            · as_aux_lemma => kernel_rfl
            refine HKEEP (js := [0, 0]) rfl (HALL [4] ?_ (by decide) ?_)
            · as_aux_lemma => kernel_rfl
            refine APPENDR 42 (.tmp 37) (.tmp 40) 41 42 ?_ (Nat.le_of_ble_eq_true rfl) (.slice a104 0 0) a69 ((list.take k).length) list_c ?_ ?_ 62 ?_ (.agg #[vi 0, vi 0, vi 0, vi 0, vi 0, vi 0, vi 0, vi 0, vi 0, vi 0]) 80 ?_ rfl (by decide) 3 ([]) (list.take k) _ rfl rfl (fun w hw => (hsh70 _ (hlist.fr hw.fr))) (by first | omega | (simp only [List.length_append, List.length_cons, List.length_nil, List.length_take, List.length_drop] at *; omega)) (by simp only [maxLen]; first | omega | (simp only [List.length_append, List.length_cons, List.length_nil, List.length_take, List.length_drop] at *; omega)) (fun a106 c107 hn108 => ?_)
            · as_aux_lemma => kernel_rfl
            · as_aux_lemma => kernel_rfl
            · as_aux_lemma => kernel_rfl
            · as_aux_lemma => kernel_rfl
            · as_aux_lemma => kernel_rfl
            refine HKEEP (js := [0, 0]) rfl (HALL [7] ?_ (by decide) ?_)
            · as_aux_lemma => kernel_rfl
            refine APPENDO 42 (.tmp 41) (.tmp 43) 44 42 ?_ (Nat.le_of_ble_eq_true rfl) (.slice a106 ((([]) ++ (list.take k)).length) c107) a102 1 1 ?_ ?_ ha103 62 ?_ partyL (.agg #[vi 0, vi 0, vi 0, vi 0, vi 0, vi 0, vi 0, vi 0, vi 0, vi 0]) 80 ?_ rfl (by decide) 3 2 (([]) ++ (list.take k)) ([pa]) _ rfl rfl (by first | omega | (simp only [List.length_append, List.length_cons, List.length_nil, List.length_take, List.length_drop] at *; omega)) (by simp only [maxLen]; first | omega | (simp only [List.length_append, List.length_cons, List.length_nil, List.length_take, List.length_drop] at *; omega)) (fun a109 c110 hn111 => ?_)
            · as_aux_lemma => kernel_rfl
            · as_aux_lemma => kernel_rfl
            · as_aux_lemma => kernel_rfl
            · as_aux_lemma => kernel_rfl
            · as_aux_lemma => kernel_rfl
            refine HKEEP (js := [0, 0]) rfl (HPURE (js := [0, 0]) 8 [(0, .v (.slice list_a list.length list_c)), (5, I (k : Int)), (6, .v (.slice a109 (((([]) ++ (list.take k)) ++ ([pa])).length) c110))] ?_ ?_ rfl ?_)
            · as_aux_lemma => kernel_rfl
            · as_aux_lemma => kernel_rfl
            refine HEND ?_ ?_
            · as_aux_lemma => kernel_rfl
            refine IMPORT (L0 := [(62, [vi pa.id, vi pa.cabin, vi pa.from', vi pa.size, vi pa.tier, vi pa.since, vi pa.turn, vi pa.state, vi pa.until', vi pa.asked])]) (L1 := []) [b18] rfl [0] _ rfl [(0, .v (.slice list_a list.length list_c)), (5, I (k : Int)), (6, .v (.slice a109 (((([]) ++ (list.take k)) ++ ([pa])).length) c110))] ?_ ?_ ?_
            · as_aux_lemma => kernel_rfl
            · as_aux_lemma => kernel_rfl
            refine NEXT (SEQ (REGION [0, 1, 2, 3, 4, 5] rfl (RUN0 3 [3, 4, 5] [(45, .v (.slice a109 (((([]) ++ (list.take k)) ++ ([pa])).length) c110)), (46, .v (.slice list_a list.length list_c)), (47, I (k : Int))] ?_ rfl ?_)))
            · as_aux_lemma => kernel_rfl
            refine OPC (CUTL 42 (.tmp 46) (.tmp 47) 48 42 ?_ (Nat.le_of_ble_eq_true rfl) list_a list.length list_c .i64 (k : Int) ?_ ?_ 62 partyL list ?_ ?_ (by omega) (by first | omega | (simp only [List.length_append, List.length_cons, List.length_nil, List.length_take, List.length_drop] at *; omega)) rfl (by omega) (fun a112 hsh113 => ?_))
            · as_aux_lemma => kernel_rfl
            · as_aux_lemma => kernel_rfl
            · as_aux_lemma => kernel_rfl
            · as_aux_lemma => kernel_rfl
            · as_aux_lemma => kernel_rfl
            have hsh113 : ∀ w, Rd partyL w list_a list → Rd partyL w a112 (list.drop k) := hsh113
            have hln114 : (list.drop k).length = list.length - k := by first | (simp; done) | (simp; omega)
            refine CAST (d := 48) (.slice a112 (list.length - k) (list_c - k)) (.slice a112 ((list.drop k).length) (list_c - k)) ?_ (by rw [hln114]) ?_
            · as_aux_lemma => kernel_rfl
            refine OPC (APPENDR 42 (.tmp 45) (.tmp 48) 49 42 ?_ (Nat.le_of_ble_eq_true rfl) (.slice a109 (((([]) ++ (list.take k)) ++ ([pa])).length) c110) a112 ((list.drop k).length) (list_c - k) ?_ ?_ 62 ?_ (.agg #[vi 0, vi 0, vi 0, vi 0, vi 0, vi 0, vi 0, vi 0, vi 0, vi 0]) 80 ?_ rfl (by decide) 1 ((([]) ++ (list.take k)) ++ ([pa])) (list.drop k) _ rfl rfl (fun w hw => (hsh113 _ (hlist.fr hw.fr))) (by first | omega | (simp only [List.length_append, List.length_cons, List.length_nil, List.length_take, List.length_drop] at *; omega)) (by simp only [maxLen]; first | omega | (simp only [List.length_append, List.length_cons, List.length_nil, List.length_take, List.length_drop] at *; omega)) (fun a115 c116 hn117 => ?_))
            · as_aux_lemma => kernel_rfl
            · as_aux_lemma => kernel_rfl
            · as_aux_lemma => kernel_rfl
            · as_aux_lemma => kernel_rfl
            · as_aux_lemma => kernel_rfl
            refine RUN0 1 [] [(4, .v (.slice a115 ((((([]) ++ (list.take k)) ++ ([pa])) ++ (list.drop k)).length) c116))] ?_ rfl ?_
            · as_aux_lemma => kernel_rfl
            refine ENDOPS (NEXT (RET (FIN (.slice a115 ((((([]) ++ (list.take k)) ++ ([pa])) ++ (list.drop k)).length) c116) ?_ ⟨((a115, c116), ((([]) ++ (list.take k)) ++ ([pa])) ++ (list.drop k)), (by first | omega | (dsimp only; omega) | (simp only [List.length_append, List.length_cons, List.length_nil, List.length_take, List.length_drop, List.length_set]; omega))⟩ ?_ [1] ?_)))
            · as_aux_lemma => kernel_rfl
            · rfl
            · rfl
        · -- operation 6 next
          refine BUILDS 42 1 #[(0, .tmp 42)] 43 42 ?_ (Nat.le_of_ble_eq_true rfl) 62 [vi pa.id, vi pa.cabin, vi pa.from', vi pa.size, vi pa.tier, vi pa.since, vi pa.turn, vi pa.state, vi pa.until', vi pa.asked] ?_ partyL [pa] rfl (by simp only [maxLen]; omega) [] [] _ rfl (flatRep rfl) (fun a118 ha119 => ?_)
          · as_aux_lemma => kernel_rfl
          · as_aux_lemma => kernel_rfl
          refine HKEEP (js := [0, 0]) rfl (HALL [0, 3] ?_ (by decide) ⟨?_, ?_⟩)
          · as_aux_lemma => kernel_rfl
          · -- operation 0 next
            refine BUILDS 42 0 #[] 37 42 ?_ (Nat.le_of_ble_eq_true rfl) 62 [] ?_ partyL [] rfl (by simp only [maxLen]; omega) [] [] _ rfl (flatRep rfl) (fun a120 ha121 => ?_)
            · as_aux_lemma => kernel_rfl
            · as_aux_lemma => kernel_rfl
            refine HKEEP (js := [0, 0]) rfl (HALL [3] ?_ (by decide) ?_)
            · as_aux_lemma => kernel_rfl
            refine CUTH 42 (.tmp 38) (.tmp 39) 40 42 ?_ (Nat.le_of_ble_eq_true rfl) list_a list.length list_c .i64 (k : Int) ?_ ?_ 62 partyL list ?_ ?_ (by omega) (by first | omega | (simp only [List.length_append, List.length_cons, List.length_nil, List.length_take, List.length_drop] at *; omega)) rfl (by omega) (fun a122 hsh123 => ?_)
            · as_aux_lemma => kernel_rfl
            · as_aux_lemma => kernel_rfl
            · as_aux_lemma => kernel_rfl
            · as_aux_lemma => kernel_rfl
            · as_aux_lemma => kernel_rfl
            have hsh123 : ∀ w, Rd partyL w list_a list → Rd partyL w a122 (list.take k) := hsh123
            have hln124 : (list.take k).length = k := by first | (simp; done) | (simp; omega)
            refine CAST (d := 40) (.slice a122 k list_c) (.slice a122 ((list.take k).length) list_c) ?_ (by rw [hln124]) ?_
            · as_aux_lemma => kernel_rfl
            refine HKEEP (js := [0, 0]) rfl (HALL [4] ?_ (by decide) ?_)
            · as_aux_lemma => kernel_rfl
            refine APPENDR 42 (.tmp 37) (.tmp 40) 41 42 ?_ (Nat.le_of_ble_eq_true rfl) (.slice a120 0 0) a122 ((list.take k).length) list_c ?_ ?_ 62 ?_ (.agg #[vi 0, vi 0, vi 0, vi 0, vi 0, vi 0, vi 0, vi 0, vi 0, vi 0]) 80 ?_ rfl (by decide) 3 ([]) (list.take k) _ rfl rfl (fun w hw => (hsh123 _ (hlist.fr hw.fr))) (by first | omega | (simp only [List.length_append, List.length_cons, List.length_nil, List.length_take, List.length_drop] at *; omega)) (by simp only [maxLen]; first | omega | (simp only [List.length_append, List.length_cons, List.length_nil, List.length_take, List.length_drop] at *; omega)) (fun a125 c126 hn127 => ?_)
            · as_aux_lemma => kernel_rfl
            · as_aux_lemma => kernel_rfl
            · as_aux_lemma => kernel_rfl
            · as_aux_lemma => kernel_rfl
            · as_aux_lemma => kernel_rfl
            refine HKEEP (js := [0, 0]) rfl (HALL [7] ?_ (by decide) ?_)
            · as_aux_lemma => kernel_rfl
            refine APPENDO 42 (.tmp 41) (.tmp 43) 44 42 ?_ (Nat.le_of_ble_eq_true rfl) (.slice a125 ((([]) ++ (list.take k)).length) c126) a118 1 1 ?_ ?_ ha119 62 ?_ partyL (.agg #[vi 0, vi 0, vi 0, vi 0, vi 0, vi 0, vi 0, vi 0, vi 0, vi 0]) 80 ?_ rfl (by decide) 3 2 (([]) ++ (list.take k)) ([pa]) _ rfl rfl (by first | omega | (simp only [List.length_append, List.length_cons, List.length_nil, List.length_take, List.length_drop] at *; omega)) (by simp only [maxLen]; first | omega | (simp only [List.length_append, List.length_cons, List.length_nil, List.length_take, List.length_drop] at *; omega)) (fun a128 c129 hn130 => ?_)
            · as_aux_lemma => kernel_rfl
            · as_aux_lemma => kernel_rfl
            · as_aux_lemma => kernel_rfl
            · as_aux_lemma => kernel_rfl
            · as_aux_lemma => kernel_rfl
            refine HKEEP (js := [0, 0]) rfl (HPURE (js := [0, 0]) 8 [(0, .v (.slice list_a list.length list_c)), (5, I (k : Int)), (6, .v (.slice a128 (((([]) ++ (list.take k)) ++ ([pa])).length) c129))] ?_ ?_ rfl ?_)
            · as_aux_lemma => kernel_rfl
            · as_aux_lemma => kernel_rfl
            refine HEND ?_ ?_
            · as_aux_lemma => kernel_rfl
            refine IMPORT (L0 := [(62, [vi pa.id, vi pa.cabin, vi pa.from', vi pa.size, vi pa.tier, vi pa.since, vi pa.turn, vi pa.state, vi pa.until', vi pa.asked])]) (L1 := []) [b18] rfl [0] _ rfl [(0, .v (.slice list_a list.length list_c)), (5, I (k : Int)), (6, .v (.slice a128 (((([]) ++ (list.take k)) ++ ([pa])).length) c129))] ?_ ?_ ?_
            · as_aux_lemma => kernel_rfl
            · as_aux_lemma => kernel_rfl
            refine NEXT (SEQ (REGION [0, 1, 2, 3, 4, 5] rfl (RUN0 3 [3, 4, 5] [(45, .v (.slice a128 (((([]) ++ (list.take k)) ++ ([pa])).length) c129)), (46, .v (.slice list_a list.length list_c)), (47, I (k : Int))] ?_ rfl ?_)))
            · as_aux_lemma => kernel_rfl
            refine OPC (CUTL 42 (.tmp 46) (.tmp 47) 48 42 ?_ (Nat.le_of_ble_eq_true rfl) list_a list.length list_c .i64 (k : Int) ?_ ?_ 62 partyL list ?_ ?_ (by omega) (by first | omega | (simp only [List.length_append, List.length_cons, List.length_nil, List.length_take, List.length_drop] at *; omega)) rfl (by omega) (fun a131 hsh132 => ?_))
            · as_aux_lemma => kernel_rfl
            · as_aux_lemma => kernel_rfl
            · as_aux_lemma => kernel_rfl
            · as_aux_lemma => kernel_rfl
            · as_aux_lemma => kernel_rfl
            have hsh132 : ∀ w, Rd partyL w list_a list → Rd partyL w a131 (list.drop k) := hsh132
            have hln133 : (list.drop k).length = list.length - k := by first | (simp; done) | (simp; omega)
            refine CAST (d := 48) (.slice a131 (list.length - k) (list_c - k)) (.slice a131 ((list.drop k).length) (list_c - k)) ?_ (by rw [hln133]) ?_
            · as_aux_lemma => kernel_rfl
            refine OPC (APPENDR 42 (.tmp 45) (.tmp 48) 49 42 ?_ (Nat.le_of_ble_eq_true rfl) (.slice a128 (((([]) ++ (list.take k)) ++ ([pa])).length) c129) a131 ((list.drop k).length) (list_c - k) ?_ ?_ 62 ?_ (.agg #[vi 0, vi 0, vi 0, vi 0, vi 0, vi 0, vi 0, vi 0, vi 0, vi 0]) 80 ?_ rfl (by decide) 1 ((([]) ++ (list.take k)) ++ ([pa])) (list.drop k) _ rfl rfl (fun w hw => (hsh132 _ (hlist.fr hw.fr))) (by first | omega | (simp only [List.length_append, List.length_cons, List.length_nil, List.length_take, List.length_drop] at *; omega)) (by simp only [maxLen]; first | omega | (simp only [List.length_append, List.length_cons, List.length_nil, List.length_take, List.length_drop] at *; omega)) (fun a134 c135 hn136 => ?_))
            · as_aux_lemma => kernel_rfl
            · as_aux_lemma => kernel_rfl
            · as_aux_lemma => kernel_rfl
            · as_aux_lemma => kernel_rfl
            · as_aux_lemma => kernel_rfl
            refine RUN0 1 [] [(4, .v (.slice a134 ((((([]) ++ (list.take k)) ++ ([pa])) ++ (list.drop k)).length) c135))] ?_ rfl ?_
            · as_aux_lemma => kernel_rfl
            refine ENDOPS (NEXT (RET (FIN (.slice a134 ((((([]) ++ (list.take k)) ++ ([pa])) ++ (list.drop k)).length) c135) ?_ ⟨((a134, c135), ((([]) ++ (list.take k)) ++ ([pa])) ++ (list.drop k)), (by first | omega | (dsimp only; omega) | (simp only [List.length_append, List.length_cons, List.length_nil, List.length_take, List.length_drop, List.length_set]; omega))⟩ ?_ [1] ?_)))
            · as_aux_lemma => kernel_rfl
            · rfl
            · rfl
          · -- operation 3 next
            refine CUTH 42 (.tmp 38) (.tmp 39) 40 42 ?_ (Nat.le_of_ble_eq_true rfl) list_a list.length list_c .i64 (k : Int) ?_ ?_ 62 partyL list ?_ ?_ (by omega) (by first | omega | (simp only [List.length_append, List.length_cons, List.length_nil, List.length_take, List.length_drop] at *; omega)) rfl (by omega) (fun a137 hsh138 => ?_)
            · as_aux_lemma => kernel_rfl
            · as_aux_lemma => kernel_rfl
            · as_aux_lemma => kernel_rfl
            · as_aux_lemma => kernel_rfl
            · as_aux_lemma => kernel_rfl
            have hsh138 : ∀ w, Rd partyL w list_a list → Rd partyL w a137 (list.take k) := hsh138
            have hln139 : (list.take k).length = k := by first | (simp; done) | (simp; omega)
            refine CAST (d := 40) (.slice a137 k list_c) (.slice a137 ((list.take k).length) list_c) ?_ (by rw [hln139]) ?_
            · as_aux_lemma => kernel_rfl
            refine HKEEP (js := [0, 0]) rfl (HALL [0] ?_ (by decide) ?_)
            · as_aux_lemma => kernel_rfl
            refine BUILDS 42 0 #[] 37 42 ?_ (Nat.le_of_ble_eq_true rfl) 62 [] ?_ partyL [] rfl (by simp only [maxLen]; omega) [] [] _ rfl (flatRep rfl) (fun a140 ha141 => ?_)
            · as_aux_lemma => kernel_rfl
            · as_aux_lemma => kernel_rfl
            refine HKEEP (js := [0, 0]) rfl (HALL [4] ?_ (by decide) ?_)
            · as_aux_lemma => kernel_rfl
            refine APPENDR 42 (.tmp 37) (.tmp 40) 41 42 ?_ (Nat.le_of_ble_eq_true rfl) (.slice a140 0 0) a137 ((list.take k).length) list_c ?_ ?_ 62 ?_ (.agg #[vi 0, vi 0, vi 0, vi 0, vi 0, vi 0, vi 0, vi 0, vi 0, vi 0]) 80 ?_ rfl (by decide) 3 ([]) (list.take k) _ rfl rfl (fun w hw => (hsh138 _ (hlist.fr hw.fr))) (by first | omega | (simp only [List.length_append, List.length_cons, List.length_nil, List.length_take, List.length_drop] at *; omega)) (by simp only [maxLen]; first | omega | (simp only [List.length_append, List.length_cons, List.length_nil, List.length_take, List.length_drop] at *; omega)) (fun a142 c143 hn144 => ?_)
            · as_aux_lemma => kernel_rfl
            · as_aux_lemma => kernel_rfl
            · as_aux_lemma => kernel_rfl
            · as_aux_lemma => kernel_rfl
            · as_aux_lemma => kernel_rfl
            refine HKEEP (js := [0, 0]) rfl (HALL [7] ?_ (by decide) ?_)
            · as_aux_lemma => kernel_rfl
            refine APPENDO 42 (.tmp 41) (.tmp 43) 44 42 ?_ (Nat.le_of_ble_eq_true rfl) (.slice a142 ((([]) ++ (list.take k)).length) c143) a118 1 1 ?_ ?_ ha119 62 ?_ partyL (.agg #[vi 0, vi 0, vi 0, vi 0, vi 0, vi 0, vi 0, vi 0, vi 0, vi 0]) 80 ?_ rfl (by decide) 3 2 (([]) ++ (list.take k)) ([pa]) _ rfl rfl (by first | omega | (simp only [List.length_append, List.length_cons, List.length_nil, List.length_take, List.length_drop] at *; omega)) (by simp only [maxLen]; first | omega | (simp only [List.length_append, List.length_cons, List.length_nil, List.length_take, List.length_drop] at *; omega)) (fun a145 c146 hn147 => ?_)
            · as_aux_lemma => kernel_rfl
            · as_aux_lemma => kernel_rfl
            · as_aux_lemma => kernel_rfl
            · as_aux_lemma => kernel_rfl
            · as_aux_lemma => kernel_rfl
            refine HKEEP (js := [0, 0]) rfl (HPURE (js := [0, 0]) 8 [(0, .v (.slice list_a list.length list_c)), (5, I (k : Int)), (6, .v (.slice a145 (((([]) ++ (list.take k)) ++ ([pa])).length) c146))] ?_ ?_ rfl ?_)
            · as_aux_lemma => kernel_rfl
            · as_aux_lemma => kernel_rfl
            refine HEND ?_ ?_
            · as_aux_lemma => kernel_rfl
            refine IMPORT (L0 := [(62, [vi pa.id, vi pa.cabin, vi pa.from', vi pa.size, vi pa.tier, vi pa.since, vi pa.turn, vi pa.state, vi pa.until', vi pa.asked])]) (L1 := []) [b18] rfl [0] _ rfl [(0, .v (.slice list_a list.length list_c)), (5, I (k : Int)), (6, .v (.slice a145 (((([]) ++ (list.take k)) ++ ([pa])).length) c146))] ?_ ?_ ?_
            · as_aux_lemma => kernel_rfl
            · as_aux_lemma => kernel_rfl
            refine NEXT (SEQ (REGION [0, 1, 2, 3, 4, 5] rfl (RUN0 3 [3, 4, 5] [(45, .v (.slice a145 (((([]) ++ (list.take k)) ++ ([pa])).length) c146)), (46, .v (.slice list_a list.length list_c)), (47, I (k : Int))] ?_ rfl ?_)))
            · as_aux_lemma => kernel_rfl
            refine OPC (CUTL 42 (.tmp 46) (.tmp 47) 48 42 ?_ (Nat.le_of_ble_eq_true rfl) list_a list.length list_c .i64 (k : Int) ?_ ?_ 62 partyL list ?_ ?_ (by omega) (by first | omega | (simp only [List.length_append, List.length_cons, List.length_nil, List.length_take, List.length_drop] at *; omega)) rfl (by omega) (fun a148 hsh149 => ?_))
            · as_aux_lemma => kernel_rfl
            · as_aux_lemma => kernel_rfl
            · as_aux_lemma => kernel_rfl
            · as_aux_lemma => kernel_rfl
            · as_aux_lemma => kernel_rfl
            have hsh149 : ∀ w, Rd partyL w list_a list → Rd partyL w a148 (list.drop k) := hsh149
            have hln150 : (list.drop k).length = list.length - k := by first | (simp; done) | (simp; omega)
            refine CAST (d := 48) (.slice a148 (list.length - k) (list_c - k)) (.slice a148 ((list.drop k).length) (list_c - k)) ?_ (by rw [hln150]) ?_
            · as_aux_lemma => kernel_rfl
            refine OPC (APPENDR 42 (.tmp 45) (.tmp 48) 49 42 ?_ (Nat.le_of_ble_eq_true rfl) (.slice a145 (((([]) ++ (list.take k)) ++ ([pa])).length) c146) a148 ((list.drop k).length) (list_c - k) ?_ ?_ 62 ?_ (.agg #[vi 0, vi 0, vi 0, vi 0, vi 0, vi 0, vi 0, vi 0, vi 0, vi 0]) 80 ?_ rfl (by decide) 1 ((([]) ++ (list.take k)) ++ ([pa])) (list.drop k) _ rfl rfl (fun w hw => (hsh149 _ (hlist.fr hw.fr))) (by first | omega | (simp only [List.length_append, List.length_cons, List.length_nil, List.length_take, List.length_drop] at *; omega)) (by simp only [maxLen]; first | omega | (simp only [List.length_append, List.length_cons, List.length_nil, List.length_take, List.length_drop] at *; omega)) (fun a151 c152 hn153 => ?_))
            · as_aux_lemma => kernel_rfl
            · as_aux_lemma => kernel_rfl
            · as_aux_lemma => kernel_rfl
            · as_aux_lemma => kernel_rfl
            · as_aux_lemma => kernel_rfl
            refine RUN0 1 [] [(4, .v (.slice a151 ((((([]) ++ (list.take k)) ++ ([pa])) ++ (list.drop k)).length) c152))] ?_ rfl ?_
            · as_aux_lemma => kernel_rfl
            refine ENDOPS (NEXT (RET (FIN (.slice a151 ((((([]) ++ (list.take k)) ++ ([pa])) ++ (list.drop k)).length) c152) ?_ ⟨((a151, c152), ((([]) ++ (list.take k)) ++ ([pa])) ++ (list.drop k)), (by first | omega | (dsimp only; omega) | (simp only [List.length_append, List.length_cons, List.length_nil, List.length_take, List.length_drop, List.length_set]; omega))⟩ ?_ [1] ?_)))
            · as_aux_lemma => kernel_rfl
            · rfl
            · rfl
    · -- decide ((k : Int) < (list.length : Int)) = false
      have h14 := bh14
      have h14 := of_decide_eq_false h14
      refine QRUN 9 5 14 [(0, .v (.slice list_a list.length list_c)), (3, .p 0 0), (5, I (k : Int)), (34, B false)] ?_ rfl ?_
      · as_aux_lemma => kernel_rfl
      refine QEND rfl (NEXT (IFF ?_ ?_))
      · as_aux_lemma => kernel_rfl
      refine EXIT (PASS trivial (PASS trivial (OUT (NEXT (SEQ (EXPORT (fun bs hbs => ?_)))))))
      obtain ⟨b154, rfl⟩ := len1 hbs
      refine REGIONH ?_ 9 rfl [ptC b154 62 [vi pa.id, vi pa.cabin, vi pa.from', vi pa.size, vi pa.tier, vi pa.since, vi pa.turn, vi pa.state, vi pa.until', vi pa.asked], slA 62 partyL (.slice a5 (([]) ++ list).length c6) (([]) ++ list)] ?_
      · as_aux_lemma => kernel_rfl
      refine HPURE (js := [0, 0]) 1 [(0, .v (.slice list_a list.length list_c)), (3, .e (some ⟨b154, 0, none⟩) 0 0), (5, I (k : Int)), (38, .v (.slice list_a list.length list_c))] ?_ ?_ rfl ?_
      · as_aux_lemma => kernel_rfl
      · as_aux_lemma => kernel_rfl
      refine HPURE (js := [0, 0]) 2 [(0, .v (.slice list_a list.length list_c)), (3, .e (some ⟨b154, 0, none⟩) 0 0), (5, I (k : Int)), (38, .v (.slice list_a list.length list_c)), (39, I (k : Int))] ?_ ?_ rfl ?_
      · as_aux_lemma => kernel_rfl
      · as_aux_lemma => kernel_rfl
      refine HLOADE (i := 5) (js := [0, 0])  62 (.tmp 3) 42 62 ?_ (Nat.le_of_ble_eq_true rfl) (some ⟨b154, 0, none⟩) 0 0 [vi pa.id, vi pa.cabin, vi pa.from', vi pa.size, vi pa.tier, vi pa.since, vi pa.turn, vi pa.state, vi pa.until', vi pa.asked] (.agg #[vi pa.id, vi pa.cabin, vi pa.from', vi pa.size, vi pa.tier, vi pa.since, vi pa.turn, vi pa.state, vi pa.until', vi pa.asked]) ?_ (fun w hw => ptC_elem (hw.own 0 rfl)) ?_ ?_ rfl ?_
      · as_aux_lemma => kernel_rfl
      · as_aux_lemma => kernel_rfl
      · as_aux_lemma => kernel_rfl
      · as_aux_lemma => kernel_rfl
      refine HALL [0, 3, 6] ?_ (by decide) ⟨?_, ?_, ?_⟩
      · as_aux_lemma => kernel_rfl
      · -- operation 0 next
        refine BUILDS 42 0 #[] 37 42 ?_ (Nat.le_of_ble_eq_true rfl) 62 [] ?_ partyL [] rfl (by simp only [maxLen]; omega) [] [] _ rfl (flatRep rfl) (fun a155 ha156 => ?_)
        · as_aux_lemma => kernel_rfl
        · as_aux_lemma => kernel_rfl
        refine HKEEP (js := [0, 0]) rfl (HALL [3, 6] ?_ (by decide) ⟨?_, ?_⟩)
        · as_aux_lemma => kernel_rfl
        · -- operation 3 next
          refine CUTH 42 (.tmp 38) (.tmp 39) 40 42 ?_ (Nat.le_of_ble_eq_true rfl) list_a list.length list_c .i64 (k : Int) ?_ ?_ 62 partyL list ?_ ?_ (by omega) (by first | omega | (simp only [List.length_append, List.length_cons, List.length_nil, List.length_take, List.length_drop] at *; omega)) rfl (by omega) (fun a157 hsh158 => ?_)
          · as_aux_lemma => kernel_rfl
          · as_aux_lemma => kernel_rfl
          · as_aux_lemma => kernel_rfl
          · as_aux_lemma => kernel_rfl
          · as_aux_lemma => kernel_rfl
          have hsh158 : ∀ w, Rd partyL w list_a list → Rd partyL w a157 (list.take k) := hsh158
          have hln159 : (list.take k).length = k := by first | (simp; done) | (simp; omega)
          refine CAST (d := 40) (.slice a157 k list_c) (.slice a157 ((list.take k).length) list_c) ?_ (by rw [hln159]) ?_
          · as_aux_lemma => kernel_rfl
          refine HKEEP (js := [0, 0]) rfl (HALL [4, 6] ?_ (by decide) ⟨?_, ?_⟩)
          · as_aux_lemma => kernel_rfl
          · -- operation 4 next
            refine APPENDR 42 (.tmp 37) (.tmp 40) 41 42 ?_ (Nat.le_of_ble_eq_true rfl) (.slice a155 0 0) a157 ((list.take k).length) list_c ?_ ?_ 62 ?_ (.agg #[vi 0, vi 0, vi 0, vi 0, vi 0, vi 0, vi 0, vi 0, vi 0, vi 0]) 80 ?_ rfl (by decide) 2 ([]) (list.take k) _ rfl rfl (fun w hw => (hsh158 _ (hlist.fr hw.fr))) (by first | omega | (simp only [List.length_append, List.length_cons, List.length_nil, List.length_take, List.length_drop] at *; omega)) (by simp only [maxLen]; first | omega | (simp only [List.length_append, List.length_cons, List.length_nil, List.length_take, List.length_drop] at *; omega)) (fun a160 c161 hn162 => ?_)
            · as_aux_lemma => kernel_rfl
            · as_aux_lemma => kernel_rfl
            · as_aux_lemma => kernel_rfl
            · as_aux_lemma => kernel_rfl
            · as_aux_lemma => kernel_rfl
            refine HKEEP (js := [0, 0]) rfl (HALL [6] ?_ (by decide) ?_)
            · as_aux_lemma => kernel_rfl
            refine BUILDS 42 1 #[(0, .tmp 42)] 43 42 ?_ (Nat.le_of_ble_eq_true rfl) 62 [vi pa.id, vi pa.cabin, vi pa.from', vi pa.size, vi pa.tier, vi pa.since, vi pa.turn, vi pa.state, vi pa.until', vi pa.asked] ?_ partyL [pa] rfl (by simp only [maxLen]; omega) [] [] _ rfl (flatRep rfl) (fun a163 ha164 => ?_)
            · as_aux_lemma => kernel_rfl
            · as_aux_lemma => kernel_rfl
            refine HKEEP (js := [0, 0]) rfl (HALL [7] ?_ (by decide) ?_)
            · as_aux_lemma => kernel_rfl
            refine APPENDO 42 (.tmp 41) (.tmp 43) 44 42 ?_ (Nat.le_of_ble_eq_true rfl) (.slice a160 ((([]) ++ (list.take k)).length) c161) a163 1 1 ?_ ?_ ha164 62 ?_ partyL (.agg #[vi 0, vi 0, vi 0, vi 0, vi 0, vi 0, vi 0, vi 0, vi 0, vi 0]) 80 ?_ rfl (by decide) 2 2 (([]) ++ (list.take k)) ([pa]) _ rfl rfl (by first | omega | (simp only [List.length_append, List.length_cons, List.length_nil, List.length_take, List.length_drop] at *; omega)) (by simp only [maxLen]; first | omega | (simp only [List.length_append, List.length_cons, List.length_nil, List.length_take, List.length_drop] at *; omega)) (fun a165 c166 hn167 => ?_)
            · as_aux_lemma => kernel_rfl
            · as_aux_lemma => kernel_rfl
            · as_aux_lemma => kernel_rfl
            · as_aux_lemma => kernel_rfl
            · as_aux_lemma => kernel_rfl
            refine HKEEP (js := [0, 0]) rfl (HPURE (js := [0, 0]) 8 [(0, .v (.slice list_a list.length list_c)), (5, I (k : Int)), (6, .v (.slice a165 (((([]) ++ (list.take k)) ++ ([pa])).length) c166))] ?_ ?_ rfl ?_)
            · as_aux_lemma => kernel_rfl
            · as_aux_lemma => kernel_rfl
            refine HEND ?_ ?_
            · as_aux_lemma => kernel_rfl
            refine IMPORT (L0 := [(62, [vi pa.id, vi pa.cabin, vi pa.from', vi pa.size, vi pa.tier, vi pa.since, vi pa.turn, vi pa.state, vi pa.until', vi pa.asked])]) (L1 := []) [b154] rfl [0] _ rfl [(0, .v (.slice list_a list.length list_c)), (5, I (k : Int)), (6, .v (.slice a165 (((([]) ++ (list.take k)) ++ ([pa])).length) c166))] ?_ ?_ ?_
            · as_aux_lemma => kernel_rfl
            · as_aux_lemma => kernel_rfl
            refine NEXT (SEQ (REGION [0, 1, 2, 3, 4, 5] rfl (RUN0 3 [3, 4, 5] [(45, .v (.slice a165 (((([]) ++ (list.take k)) ++ ([pa])).length) c166)), (46, .v (.slice list_a list.length list_c)), (47, I (k : Int))] ?_ rfl ?_)))
            · as_aux_lemma => kernel_rfl
            refine OPC (CUTL 42 (.tmp 46) (.tmp 47) 48 42 ?_ (Nat.le_of_ble_eq_true rfl) list_a list.length list_c .i64 (k : Int) ?_ ?_ 62 partyL list ?_ ?_ (by omega) (by first | omega | (simp only [List.length_append, List.length_cons, List.length_nil, List.length_take, List.length_drop] at *; omega)) rfl (by omega) (fun a168 hsh169 => ?_))
            · as_aux_lemma => kernel_rfl
            · as_aux_lemma => kernel_rfl
            · as_aux_lemma => kernel_rfl
            · as_aux_lemma => kernel_rfl
            · as_aux_lemma => kernel_rfl
            have hsh169 : ∀ w, Rd partyL w list_a list → Rd partyL w a168 (list.drop k) := hsh169
            have hln170 : (list.drop k).length = list.length - k := by first | (simp; done) | (simp; omega)
            refine CAST (d := 48) (.slice a168 (list.length - k) (list_c - k)) (.slice a168 ((list.drop k).length) (list_c - k)) ?_ (by rw [hln170]) ?_
            · as_aux_lemma => kernel_rfl
            refine OPC (APPENDR 42 (.tmp 45) (.tmp 48) 49 42 ?_ (Nat.le_of_ble_eq_true rfl) (.slice a165 (((([]) ++ (list.take k)) ++ ([pa])).length) c166) a168 ((list.drop k).length) (list_c - k) ?_ ?_ 62 ?_ (.agg #[vi 0, vi 0, vi 0, vi 0, vi 0, vi 0, vi 0, vi 0, vi 0, vi 0]) 80 ?_ rfl (by decide) 1 ((([]) ++ (list.take k)) ++ ([pa])) (list.drop k) _ rfl rfl (fun w hw => (hsh169 _ (hlist.fr hw.fr))) (by first | omega | (simp only [List.length_append, List.length_cons, List.length_nil, List.length_take, List.length_drop] at *; omega)) (by simp only [maxLen]; first | omega | (simp only [List.length_append, List.length_cons, List.length_nil, List.length_take, List.length_drop] at *; omega)) (fun a171 c172 hn173 => ?_))
            · as_aux_lemma => kernel_rfl
            · as_aux_lemma => kernel_rfl
            · as_aux_lemma => kernel_rfl
            · as_aux_lemma => kernel_rfl
            · as_aux_lemma => kernel_rfl
            refine RUN0 1 [] [(4, .v (.slice a171 ((((([]) ++ (list.take k)) ++ ([pa])) ++ (list.drop k)).length) c172))] ?_ rfl ?_
            · as_aux_lemma => kernel_rfl
            refine ENDOPS (NEXT (RET (FIN (.slice a171 ((((([]) ++ (list.take k)) ++ ([pa])) ++ (list.drop k)).length) c172) ?_ ⟨((a171, c172), ((([]) ++ (list.take k)) ++ ([pa])) ++ (list.drop k)), (by first | omega | (dsimp only; omega) | (simp only [List.length_append, List.length_cons, List.length_nil, List.length_take, List.length_drop, List.length_set]; omega))⟩ ?_ [1] ?_)))
            · as_aux_lemma => kernel_rfl
            · rfl
            · rfl
          · -- operation 6 next
            refine BUILDS 42 1 #[(0, .tmp 42)] 43 42 ?_ (Nat.le_of_ble_eq_true rfl) 62 [vi pa.id, vi pa.cabin, vi pa.from', vi pa.size, vi pa.tier, vi pa.since, vi pa.turn, vi pa.state, vi pa.until', vi pa.asked] ?_ partyL [pa] rfl (by simp only [maxLen]; omega) [] [] _ rfl (flatRep rfl) (fun a174 ha175 => ?_)
            · as_aux_lemma => kernel_rfl
            · as_aux_lemma => kernel_rfl
            refine HKEEP (js := [0, 0]) rfl (HALL [4] ?_ (by decide) ?_)
            · as_aux_lemma => kernel_rfl
            refine APPENDR 42 (.tmp 37) (.tmp 40) 41 42 ?_ (Nat.le_of_ble_eq_true rfl) (.slice a155 0 0) a157 ((list.take k).length) list_c ?_ ?_ 62 ?_ (.agg #[vi 0, vi 0, vi 0, vi 0, vi 0, vi 0, vi 0, vi 0, vi 0, vi 0]) 80 ?_ rfl (by decide) 2 ([]) (list.take k) _ rfl rfl (fun w hw => (hsh158 _ (hlist.fr hw.fr))) (by first | omega | (simp only [List.length_append, List.length_cons, List.length_nil, List.length_take, List.length_drop] at *; omega)) (by simp only [maxLen]; first | omega | (simp only [List.length_append, List.length_cons, List.length_nil, List.length_take, List.length_drop] at *; omega)) (fun a176 c177 hn178 => ?_)
            · as_aux_lemma => kernel_rfl
            · as_aux_lemma => kernel_rfl
            · as_aux_lemma => kernel_rfl
            · as_aux_lemma => kernel_rfl
            · as_aux_lemma => kernel_rfl
            refine HKEEP (js := [0, 0]) rfl (HALL [7] ?_ (by decide) ?_)
            · as_aux_lemma => kernel_rfl
            refine APPENDO 42 (.tmp 41) (.tmp 43) 44 42 ?_ (Nat.le_of_ble_eq_true rfl) (.slice a176 ((([]) ++ (list.take k)).length) c177) a174 1 1 ?_ ?_ ha175 62 ?_ partyL (.agg #[vi 0, vi 0, vi 0, vi 0, vi 0, vi 0, vi 0, vi 0, vi 0, vi 0]) 80 ?_ rfl (by decide) 3 2 (([]) ++ (list.take k)) ([pa]) _ rfl rfl (by first | omega | (simp only [List.length_append, List.length_cons, List.length_nil, List.length_take, List.length_drop] at *; omega)) (by simp only [maxLen]; first | omega | (simp only [List.length_append, List.length_cons, List.length_nil, List.length_take, List.length_drop] at *; omega)) (fun a179 c180 hn181 => ?_)
            · as_aux_lemma => kernel_rfl
            · as_aux_lemma => kernel_rfl
            · as_aux_lemma => kernel_rfl
            · as_aux_lemma => kernel_rfl
            · as_aux_lemma => kernel_rfl
            refine HKEEP (js := [0, 0]) rfl (HPURE (js := [0, 0]) 8 [(0, .v (.slice list_a list.length list_c)), (5, I (k : Int)), (6, .v (.slice a179 (((([]) ++ (list.take k)) ++ ([pa])).length) c180))] ?_ ?_ rfl ?_)
            · as_aux_lemma => kernel_rfl
            · as_aux_lemma => kernel_rfl
            refine HEND ?_ ?_
            · as_aux_lemma => kernel_rfl
            refine IMPORT (L0 := [(62, [vi pa.id, vi pa.cabin, vi pa.from', vi pa.size, vi pa.tier, vi pa.since, vi pa.turn, vi pa.state, vi pa.until', vi pa.asked])]) (L1 := []) [b154] rfl [0] _ rfl [(0, .v (.slice list_a list.length list_c)), (5, I (k : Int)), (6, .v (.slice a179 (((([]) ++ (list.take k)) ++ ([pa])).length) c180))] ?_ ?_ ?_
            · as_aux_lemma => kernel_rfl
            · as_aux_lemma => kernel_rfl
            refine NEXT (SEQ (REGION [0, 1, 2, 3, 4, 5] rfl (RUN0 3 [3, 4, 5] [(45, .v (.slice a179 (((([]) ++ (list.take k)) ++ ([pa])).length) c180)), (46, .v (.slice list_a list.length list_c)), (47, I (k : Int))] ?_ rfl ?_)))
            · as_aux_lemma => kernel_rfl
            refine OPC (CUTL 42 (.tmp 46) (.tmp 47) 48 42 ?_ (Nat.le_of_ble_eq_true rfl) list_a list.length list_c .i64 (k : Int) ?_ ?_ 62 partyL list ?_ ?_ (by omega) (by first | omega | (simp only [List.length_append, List.length_cons, List.length_nil, List.length_take, List.length_drop] at *; omega)) rfl (by omega) (fun a182 hsh183 => ?_))
            · as_aux_lemma => kernel_rfl
            · as_aux_lemma => kernel_rfl
            · as_aux_lemma => kernel_rfl
            · as_aux_lemma => kernel_rfl
            · as_aux_lemma => kernel_rfl
            have hsh183 : ∀ w, Rd partyL w list_a list → Rd partyL w a182 (list.drop k) := hsh183
            have hln184 : (list.drop k).length = list.length - k := by first | (simp; done) | (simp; omega)
            refine CAST (d := 48) (.slice a182 (list.length - k) (list_c - k)) (.slice a182 ((list.drop k).length) (list_c - k)) ?_ (by rw [hln184]) ?_
            · as_aux_lemma => kernel_rfl
            refine OPC (APPENDR 42 (.tmp 45) (.tmp 48) 49 42 ?_ (Nat.le_of_ble_eq_true rfl) (.slice a179 (((([]) ++ (list.take k)) ++ ([pa])).length) c180) a182 ((list.drop k).length) (list_c - k) ?_ ?_ 62 ?_ (.agg #[vi 0, vi 0, vi 0, vi 0, vi 0, vi 0, vi 0, vi 0, vi 0, vi 0]) 80 ?_ rfl (by decide) 1 ((([]) ++ (list.take k)) ++ ([pa])) (list.drop k) _ rfl rfl (fun w hw => (hsh183 _ (hlist.fr hw.fr))) (by first | omega | (simp only [List.length_append, List.length_cons, List.length_nil, List.length_take, List.length_drop] at *; omega)) (by simp only [maxLen]; first | omega | (simp only [List.length_append, List.length_cons, List.length_nil, List.length_take, List.length_drop] at *; omega)) (fun a185 c186 hn187 => ?_))
            · as_aux_lemma => kernel_rfl
            · as_aux_lemma => kernel_rfl
            · as_aux_lemma => kernel_rfl
            · as_aux_lemma => kernel_rfl
            · as_aux_lemma => kernel_rfl
            refine RUN0 1 [] [(4, .v (.slice a185 ((((([]) ++ (list.take k)) ++ ([pa])) ++ (list.drop k)).length) c186))] ?_ rfl ?_
            · as_aux_lemma => kernel_rfl
            refine ENDOPS (NEXT (RET (FIN (.slice a185 ((((([]) ++ (list.take k)) ++ ([pa])) ++ (list.drop k)).length) c186) ?_ ⟨((a185, c186), ((([]) ++ (list.take k)) ++ ([pa])) ++ (list.drop k)), (by first | omega | (dsimp only; omega) | (simp only [List.length_append, List.length_cons, List.length_nil, List.length_take, List.length_drop, List.length_set]; omega))⟩ ?_ [1] ?_)))
            · as_aux_lemma => kernel_rfl
            · rfl
            · rfl
        · -- operation 6 next
          refine BUILDS 42 1 #[(0, .tmp 42)] 43 42 ?_ (Nat.le_of_ble_eq_true rfl) 62 [vi pa.id, vi pa.cabin, vi pa.from', vi pa.size, vi pa.tier, vi pa.since, vi pa.turn, vi pa.state, vi pa.until', vi pa.asked] ?_ partyL [pa] rfl (by simp only [maxLen]; omega) [] [] _ rfl (flatRep rfl) (fun a188 ha189 => ?_)
          · as_aux_lemma => kernel_rfl
          · as_aux_lemma => kernel_rfl
          refine HKEEP (js := [0, 0]) rfl (HALL [3] ?_ (by decide) ?_)
          · as_aux_lemma => kernel_rfl
          refine CUTH 42 (.tmp 38) (.tmp 39) 40 42 ?_ (Nat.le_of_ble_eq_true rfl) list_a list.length list_c .i64 (k : Int) ?_ ?_ 62 partyL list ?_ ?_ (by omega) (by first | omega | (simp only [List.length_append, List.length_cons, List.length_nil, List.length_take, List.length_drop] at *; omega)) rfl (by omega) (fun a190 hsh191 => ?_)
          · as_aux_lemma => kernel_rfl
          · as_aux_lemma => kernel_rfl
          · as_aux_lemma => kernel_rfl
          · as_aux_lemma => kernel_rfl
          · as_aux_lemma => kernel_rfl
          have hsh191 : ∀ w, Rd partyL w list_a list → Rd partyL w a190 (list.take k) := hsh191
          have hln192 : (list.take k).length = k := by first | (simp; done) | (simp; omega)
          refine CAST (d := 40) (.slice a190 k list_c) (.slice a190 ((list.take k).length) list_c) ?_ (by rw [hln192]) ?_
          · as_aux_lemma => kernel_rfl
          refine HKEEP (js := [0, 0]) rfl (HALL [4] ?_ (by decide) ?_)
          · as_aux_lemma => kernel_rfl
          refine APPENDR 42 (.tmp 37) (.tmp 40) 41 42 ?_ (Nat.le_of_ble_eq_true rfl) (.slice a155 0 0) a190 ((list.take k).length) list_c ?_ ?_ 62 ?_ (.agg #[vi 0, vi 0, vi 0, vi 0, vi 0, vi 0, vi 0, vi 0, vi 0, vi 0]) 80 ?_ rfl (by decide) 2 ([]) (list.take k) _ rfl rfl (fun w hw => (hsh191 _ (hlist.fr hw.fr))) (by first | omega | (simp only [List.length_append, List.length_cons, List.length_nil, List.length_take, List.length_drop] at *; omega)) (by simp only [maxLen]; first | omega | (simp only [List.length_append, List.length_cons, List.length_nil, List.length_take, List.length_drop] at *; omega)) (fun a193 c194 hn195 => ?_)
          · as_aux_lemma => kernel_rfl
          · as_aux_lemma => kernel_rfl
          · as_aux_lemma => kernel_rfl
          · as_aux_lemma => kernel_rfl
          · as_aux_lemma => kernel_rfl
          refine HKEEP (js := [0, 0]) rfl (HALL [7] ?_ (by decide) ?_)
          · as_aux_lemma => kernel_rfl
          refine APPENDO 42 (.tmp 41) (.tmp 43) 44 42 ?_ (Nat.le_of_ble_eq_true rfl) (.slice a193 ((([]) ++ (list.take k)).length) c194) a188 1 1 ?_ ?_ ha189 62 ?_ partyL (.agg #[vi 0, vi 0, vi 0, vi 0, vi 0, vi 0, vi 0, vi 0, vi 0, vi 0]) 80 ?_ rfl (by decide) 3 2 (([]) ++ (list.take k)) ([pa]) _ rfl rfl (by first | omega | (simp only [List.length_append, List.length_cons, List.length_nil, List.length_take, List.length_drop] at *; omega)) (by simp only [maxLen]; first | omega | (simp only [List.length_append, List.length_cons, List.length_nil, List.length_take, List.length_drop] at *; omega)) (fun a196 c197 hn198 => ?_)
          · as_aux_lemma => kernel_rfl
          · as_aux_lemma => kernel_rfl
          · as_aux_lemma => kernel_rfl
          · as_aux_lemma => kernel_rfl
          · as_aux_lemma => kernel_rfl
          refine HKEEP (js := [0, 0]) rfl (HPURE (js := [0, 0]) 8 [(0, .v (.slice list_a list.length list_c)), (5, I (k : Int)), (6, .v (.slice a196 (((([]) ++ (list.take k)) ++ ([pa])).length) c197))] ?_ ?_ rfl ?_)
          · as_aux_lemma => kernel_rfl
          · as_aux_lemma => kernel_rfl
          refine HEND ?_ ?_
          · as_aux_lemma => kernel_rfl
          refine IMPORT (L0 := [(62, [vi pa.id, vi pa.cabin, vi pa.from', vi pa.size, vi pa.tier, vi pa.since, vi pa.turn, vi pa.state, vi pa.until', vi pa.asked])]) (L1 := []) [b154] rfl [0] _ rfl [(0, .v (.slice list_a list.length list_c)), (5, I (k : Int)), (6, .v (.slice a196 (((([]) ++ (list.take k)) ++ ([pa])).length) c197))] ?_ ?_ ?_
          · as_aux_lemma => kernel_rfl
          · as_aux_lemma => kernel_rfl
          refine NEXT (SEQ (REGION [0, 1, 2, 3, 4, 5] rfl (RUN0 3 [3, 4, 5] [(45, .v (.slice a196 (((([]) ++ (list.take k)) ++ ([pa])).length) c197)), (46, .v (.slice list_a list.length list_c)), (47, I (k : Int))] ?_ rfl ?_)))
          · as_aux_lemma => kernel_rfl
          refine OPC (CUTL 42 (.tmp 46) (.tmp 47) 48 42 ?_ (Nat.le_of_ble_eq_true rfl) list_a list.length list_c .i64 (k : Int) ?_ ?_ 62 partyL list ?_ ?_ (by omega) (by first | omega | (simp only [List.length_append, List.length_cons, List.length_nil, List.length_take, List.length_drop] at *; omega)) rfl (by omega) (fun a199 hsh200 => ?_))
          · as_aux_lemma => kernel_rfl
          · as_aux_lemma => kernel_rfl
          · as_aux_lemma => kernel_rfl
          · as_aux_lemma => kernel_rfl
          · as_aux_lemma => kernel_rfl
          have hsh200 : ∀ w, Rd partyL w list_a list → Rd partyL w a199 (list.drop k) := hsh200
          have hln201 : (list.drop k).length = list.length - k := by first | (simp; done) | (simp; omega)
          refine CAST (d := 48) (.slice a199 (list.length - k) (list_c - k)) (.slice a199 ((list.drop k).length) (list_c - k)) ?_ (by rw [hln201]) ?_
          · as_aux_lemma => kernel_rfl
          refine OPC (APPENDR 42 (.tmp 45) (.tmp 48) 49 42 ?_ (Nat.le_of_ble_eq_true rfl) (.slice a196 (((([]) ++ (list.take k)) ++ ([pa])).length) c197) a199 ((list.drop k).length) (list_c - k) ?_ ?_ 62 ?_ (.agg #[vi 0, vi 0, vi 0, vi 0, vi 0, vi 0, vi 0, vi 0, vi 0, vi 0]) 80 ?_ rfl (by decide) 1 ((([]) ++ (list.take k)) ++ ([pa])) (list.drop k) _ rfl rfl (fun w hw => (hsh200 _ (hlist.fr hw.fr))) (by first | omega | (simp only [List.length_append, List.length_cons, List.length_nil, List.length_take, List.length_drop] at *; omega)) (by simp only [maxLen]; first | omega | (simp only [List.length_append, List.length_cons, List.length_nil, List.length_take, List.length_drop] at *; omega)) (fun a202 c203 hn204 => ?_))
          · as_aux_lemma => kernel_rfl
          · as_aux_lemma => kernel_rfl
          · as_aux_lemma => kernel_rfl
          · as_aux_lemma => kernel_rfl
          · as_aux_lemma => kernel_rfl
          refine RUN0 1 [] [(4, .v (.slice a202 ((((([]) ++ (list.take k)) ++ ([pa])) ++ (list.drop k)).length) c203))] ?_ rfl ?_
          · as_aux_lemma => kernel_rfl
          refine ENDOPS (NEXT (RET (FIN (.slice a202 ((((([]) ++ (list.take k)) ++ ([pa])) ++ (list.drop k)).length) c203) ?_ ⟨((a202, c203), ((([]) ++ (list.take k)) ++ ([pa])) ++ (list.drop k)), (by first | omega | (dsimp only; omega) | (simp only [List.length_append, List.length_cons, List.length_nil, List.length_take, List.length_drop, List.length_set]; omega))⟩ ?_ [1] ?_)))
          · as_aux_lemma => kernel_rfl
          · rfl
          · rfl
      · -- operation 3 next
        refine CUTH 42 (.tmp 38) (.tmp 39) 40 42 ?_ (Nat.le_of_ble_eq_true rfl) list_a list.length list_c .i64 (k : Int) ?_ ?_ 62 partyL list ?_ ?_ (by omega) (by first | omega | (simp only [List.length_append, List.length_cons, List.length_nil, List.length_take, List.length_drop] at *; omega)) rfl (by omega) (fun a205 hsh206 => ?_)
        · as_aux_lemma => kernel_rfl
        · as_aux_lemma => kernel_rfl
        · as_aux_lemma => kernel_rfl
        · as_aux_lemma => kernel_rfl
        · as_aux_lemma => kernel_rfl
        have hsh206 : ∀ w, Rd partyL w list_a list → Rd partyL w a205 (list.take k) := hsh206
        have hln207 : (list.take k).length = k := by first | (simp; done) | (simp; omega)
        refine CAST (d := 40) (.slice a205 k list_c) (.slice a205 ((list.take k).length) list_c) ?_ (by rw [hln207]) ?_
        · as_aux_lemma => kernel_rfl
        refine HKEEP (js := [0, 0]) rfl (HALL [0, 6] ?_ (by decide) ⟨?_, ?_⟩)
        · as_aux_lemma => kernel_rfl
        · -- operation 0 next
          refine BUILDS 42 0 #[] 37 42 ?_ (Nat.le_of_ble_eq_true rfl) 62 [] ?_ partyL [] rfl (by simp only [maxLen]; omega) [] [] _ rfl (flatRep rfl) (fun a208 ha209 => ?_)
          · as_aux_lemma => kernel_rfl
          · as_aux_lemma => kernel_rfl
          refine HKEEP (js := [0, 0]) rfl (HALL [4, 6] ?_ (by decide) ⟨?_, ?_⟩)
          · as_aux_lemma => kernel_rfl
          · -- operation 4 next
            refine APPENDR 42 (.tmp 37) (.tmp 40) 41 42 ?_ (Nat.le_of_ble_eq_true rfl) (.slice a208 0 0) a205 ((list.take k).length) list_c ?_ ?_ 62 ?_ (.agg #[vi 0, vi 0, vi 0, vi 0, vi 0, vi 0, vi 0, vi 0, vi 0, vi 0]) 80 ?_ rfl (by decide) 2 ([]) (list.take k) _ rfl rfl (fun w hw => (hsh206 _ (hlist.fr hw.fr))) (by first | omega | (simp only [List.length_append, List.length_cons, List.length_nil, List.length_take, List.length_drop] at *; omega)) (by simp only [maxLen]; first | omega | (simp only [List.length_append, List.length_cons, List.length_nil, List.length_take, List.length_drop] at *; omega)) (fun a210 c211 hn212 => ?_)
            · as_aux_lemma => kernel_rfl
            · as_aux_lemma => kernel_rfl
            · as_aux_lemma => kernel_rfl
            · as_aux_lemma => kernel_rfl
            · as_aux_lemma => kernel_rfl
            refine HKEEP (js := [0, 0]) rfl (HALL [6] ?_ (by decide) ?_)
            · as_aux_lemma => kernel_rfl
            refine BUILDS 42 1 #[(0, .tmp 42)] 43 42 ?_ (Nat.le_of_ble_eq_true rfl) 62 [vi pa.id, vi pa.cabin, vi pa.from', vi pa.size, vi pa.tier, vi pa.since, vi pa.turn, vi pa.state, vi pa.until', vi pa.asked] ?_ partyL [pa] rfl (by simp only [maxLen]; omega) [] [] _ rfl (flatRep rfl) (fun a213 ha214 => ?_)
            · as_aux_lemma => kernel_rfl
            · as_aux_lemma => kernel_rfl
            refine HKEEP (js := [0, 0]) rfl (HALL [7] ?_ (by decide) ?_)
            · as_aux_lemma => kernel_rfl
            refine APPENDO 42 (.tmp 41) (.tmp 43) 44 42 ?_ (Nat.le_of_ble_eq_true rfl) (.slice a210 ((([]) ++ (list.take k)).length) c211) a213 1 1 ?_ ?_ ha214 62 ?_ partyL (.agg #[vi 0, vi 0, vi 0, vi 0, vi 0, vi 0, vi 0, vi 0, vi 0, vi 0]) 80 ?_ rfl (by decide) 2 2 (([]) ++ (list.take k)) ([pa]) _ rfl rfl (by first | omega | (simp only [List.length_append, List.length_cons, List.length_nil, List.length_take, List.length_drop] at *; omega)) (by simp only [maxLen]; first | omega | (simp only [List.length_append, List.length_cons, List.length_nil, List.length_take, List.length_drop] at *; omega)) (fun a215 c216 hn217 => ?_)
            · as_aux_lemma => kernel_rfl
            · as_aux_lemma => kernel_rfl
            · as_aux_lemma => kernel_rfl
            · as_aux_lemma => kernel_rfl
            · as_aux_lemma => kernel_rfl
            refine HKEEP (js := [0, 0]) rfl (HPURE (js := [0, 0]) 8 [(0, .v (.slice list_a list.length list_c)), (5, I (k : Int)), (6, .v (.slice a215 (((([]) ++ (list.take k)) ++ ([pa])).length) c216))] ?_ ?_ rfl ?_)
            · as_aux_lemma => kernel_rfl
            · as_aux_lemma => kernel_rfl
            refine HEND ?_ ?_
            · as_aux_lemma => kernel_rfl
            refine IMPORT (L0 := [(62, [vi pa.id, vi pa.cabin, vi pa.from', vi pa.size, vi pa.tier, vi pa.since, vi pa.turn, vi pa.state, vi pa.until', vi pa.asked])]) (L1 := []) [b154] rfl [0] _ rfl [(0, .v (.slice list_a list.length list_c)), (5, I (k : Int)), (6, .v (.slice a215 (((([]) ++ (list.take k)) ++ ([pa])).length) c216))] ?_ ?_ ?_
            · as_aux_lemma => kernel_rfl
            · as_aux_lemma => kernel_rfl
            refine NEXT (SEQ (REGION [0, 1, 2, 3, 4, 5] rfl (RUN0 3 [3, 4, 5] [(45, .v (.slice a215 (((([]) ++ (list.take k)) ++ ([pa])).length) c216)), (46, .v (.slice list_a list.length list_c)), (47, I (k : Int))] ?_ rfl ?_)))
            · as_aux_lemma => kernel_rfl
            refine OPC (CUTL 42 (.tmp 46) (.tmp 47) 48 42 ?_ (Nat.le_of_ble_eq_true rfl) list_a list.length list_c .i64 (k : Int) ?_ ?_ 62 partyL list ?_ ?_ (by omega) (by first | omega | (simp only [List.length_append, List.length_cons, List.length_nil, List.length_take, List.length_drop] at *; omega)) rfl (by omega) (fun a218 hsh219 => ?_))
            · as_aux_lemma => kernel_rfl
            · as_aux_lemma => kernel_rfl
            · as_aux_lemma => kernel_rfl
            · as_aux_lemma => kernel_rfl
            · as_aux_lemma => kernel_rfl
            have hsh219 : ∀ w, Rd partyL w list_a list → Rd partyL w a218 (list.drop k) := hsh219
            have hln220 : (list.drop k).length = list.length - k := by first | (simp; done) | (simp; omega)
            refine CAST (d := 48) (.slice a218 (list.length - k) (list_c - k)) (.slice a218 ((list.drop k).length) (list_c - k)) ?_ (by rw [hln220]) ?_
            · as_aux_lemma => kernel_rfl
            refine OPC (APPENDR 42 (.tmp 45) (.tmp 48) 49 42 ?_ (Nat.le_of_ble_eq_true rfl) (.slice a215 (((([]) ++ (list.take k)) ++ ([pa])).length) c216) a218 ((list.drop k).length) (list_c - k) ?_ ?_ 62 ?_ (.agg #[vi 0, vi 0, vi 0, vi 0, vi 0, vi 0, vi 0, vi 0, vi 0, vi 0]) 80 ?_ rfl (by decide) 1 ((([]) ++ (list.take k)) ++ ([pa])) (list.drop k) _ rfl rfl (fun w hw => (hsh219 _ (hlist.fr hw.fr))) (by first | omega | (simp only [List.length_append, List.length_cons, List.length_nil, List.length_take, List.length_drop] at *; omega)) (by simp only [maxLen]; first | omega | (simp only [List.length_append, List.length_cons, List.length_nil, List.length_take, List.length_drop] at *; omega)) (fun a221 c222 hn223 => ?_))
            · as_aux_lemma => kernel_rfl
            · as_aux_lemma => kernel_rfl
            · as_aux_lemma => kernel_rfl
            · as_aux_lemma => kernel_rfl
            · as_aux_lemma => kernel_rfl
            refine RUN0 1 [] [(4, .v (.slice a221 ((((([]) ++ (list.take k)) ++ ([pa])) ++ (list.drop k)).length) c222))] ?_ rfl ?_
            · as_aux_lemma => kernel_rfl
            refine ENDOPS (NEXT (RET (FIN (.slice a221 ((((([]) ++ (list.take k)) ++ ([pa])) ++ (list.drop k)).length) c222) ?_ ⟨((a221, c222), ((([]) ++ (list.take k)) ++ ([pa])) ++ (list.drop k)), (by first | omega | (dsimp only; omega) | (simp only [List.length_append, List.length_cons, List.length_nil, List.length_take, List.length_drop, List.length_set]; omega))⟩ ?_ [1] ?_)))
            · as_aux_lemma => kernel_rfl
            · rfl
            · rfl
          · -- operation 6 next
            refine BUILDS 42 1 #[(0, .tmp 42)] 43 42 ?_ (Nat.le_of_ble_eq_true rfl) 62 [vi pa.id, vi pa.cabin, vi pa.from', vi pa.size, vi pa.tier, vi pa.since, vi pa.turn, vi pa.state, vi pa.until', vi pa.asked] ?_ partyL [pa] rfl (by simp only [maxLen]; omega) [] [] _ rfl (flatRep rfl) (fun a224 ha225 => ?_)
            · as_aux_lemma => kernel_rfl
            · as_aux_lemma => kernel_rfl
            refine HKEEP (js := [0, 0]) rfl (HALL [4] ?_ (by decide) ?_)
            · as_aux_lemma => kernel_rfl
            refine APPENDR 42 (.tmp 37) (.tmp 40) 41 42 ?_ (Nat.le_of_ble_eq_true rfl) (.slice a208 0 0) a205 ((list.take k).length) list_c ?_ ?_ 62 ?_ (.agg #[vi 0, vi 0, vi 0, vi 0, vi 0, vi 0, vi 0, vi 0, vi 0, vi 0]) 80 ?_ rfl (by decide) 2 ([]) (list.take k) _ rfl rfl (fun w hw => (hsh206 _ (hlist.fr hw.fr))) (by first | omega | (simp only [List.length_append, List.length_cons, List.length_nil, List.length_take, List.length_drop] at *; omega)) (by simp only [maxLen]; first | omega | (simp only [List.length_append, List.length_cons, List.length_nil, List.length_take, List.length_drop] at *; omega)) (fun a226 c227 hn228 => ?_)
            · as_aux_lemma => kernel_rfl
            · as_aux_lemma => kernel_rfl
            · as_aux_lemma => kernel_rfl
            · as_aux_lemma => kernel_rfl
            · as_aux_lemma => kernel_rfl
            refine HKEEP (js := [0, 0]) rfl (HALL [7] ?_ (by decide) ?_)
            · as_aux_lemma => kernel_rfl
            refine APPENDO 42 (.tmp 41) (.tmp 43) 44 42 ?_ (Nat.le_of_ble_eq_true rfl) (.slice a226 ((([]) ++ (list.take k)).length) c227) a224 1 1 ?_ ?_ ha225 62 ?_ partyL (.agg #[vi 0, vi 0, vi 0, vi 0, vi 0, vi 0, vi 0, vi 0, vi 0, vi 0]) 80 ?_ rfl (by decide) 3 2 (([]) ++ (list.take k)) ([pa]) _ rfl rfl (by first | omega | (simp only [List.length_append, List.length_cons, List.length_nil, List.length_take, List.length_drop] at *; omega)) (by simp only [maxLen]; first | omega | (simp only [List.length_append, List.length_cons, List.length_nil, List.length_take, List.length_drop] at *; omega)) (fun a229 c230 hn231 => ?_)
            · as_aux_lemma => kernel_rfl
            · as_aux_lemma => kernel_rfl
            · as_aux_lemma => kernel_rfl
            · as_aux_lemma => kernel_rfl
            · as_aux_lemma => kernel_rfl
            refine HKEEP (js := [0, 0]) rfl (HPURE (js := [0, 0]) 8 [(0, .v (.slice list_a list.length list_c)), (5, I (k : Int)), (6, .v (.slice a229 (((([]) ++ (list.take k)) ++ ([pa])).length) c230))] ?_ ?_ rfl ?_)
            · as_aux_lemma => kernel_rfl
            · as_aux_lemma => kernel_rfl
            refine HEND ?_ ?_
            · as_aux_lemma => kernel_rfl
            refine IMPORT (L0 := [(62, [vi pa.id, vi pa.cabin, vi pa.from', vi pa.size, vi pa.tier, vi pa.since, vi pa.turn, vi pa.state, vi pa.until', vi pa.asked])]) (L1 := []) [b154] rfl [0] _ rfl [(0, .v (.slice list_a list.length list_c)), (5, I (k : Int)), (6, .v (.slice a229 (((([]) ++ (list.take k)) ++ ([pa])).length) c230))] ?_ ?_ ?_
            · as_aux_lemma => kernel_rfl
            · as_aux_lemma => kernel_rfl
            refine NEXT (SEQ (REGION [0, 1, 2, 3, 4, 5] rfl (RUN0 3 [3, 4, 5] [(45, .v (.slice a229 (((([]) ++ (list.take k)) ++ ([pa])).length) c230)), (46, .v (.slice list_a list.length list_c)), (47, I (k : Int))] ?_ rfl ?_)))
            · as_aux_lemma => kernel_rfl
            refine OPC (CUTL 42 (.tmp 46) (.tmp 47) 48 42 ?_ (Nat.le_of_ble_eq_true rfl) list_a list.length list_c .i64 (k : Int) ?_ ?_ 62 partyL list ?_ ?_ (by omega) (by first | omega | (simp only [List.length_append, List.length_cons, List.length_nil, List.length_take, List.length_drop] at *; omega)) rfl (by omega) (fun a232 hsh233 => ?_))
            · as_aux_lemma => kernel_rfl
            · as_aux_lemma => kernel_rfl
            · as_aux_lemma => kernel_rfl
            · as_aux_lemma => kernel_rfl
            · as_aux_lemma => kernel_rfl
            have hsh233 : ∀ w, Rd partyL w list_a list → Rd partyL w a232 (list.drop k) := hsh233
            have hln234 : (list.drop k).length = list.length - k := by first | (simp; done) | (simp; omega)
            refine CAST (d := 48) (.slice a232 (list.length - k) (list_c - k)) (.slice a232 ((list.drop k).length) (list_c - k)) ?_ (by rw [hln234]) ?_
            · as_aux_lemma => kernel_rfl
            refine OPC (APPENDR 42 (.tmp 45) (.tmp 48) 49 42 ?_ (Nat.le_of_ble_eq_true rfl) (.slice a229 (((([]) ++ (list.take k)) ++ ([pa])).length) c230) a232 ((list.drop k).length) (list_c - k) ?_ ?_ 62 ?_ (.agg #[vi 0, vi 0, vi 0, vi 0, vi 0, vi 0, vi 0, vi 0, vi 0, vi 0]) 80 ?_ rfl (by decide) 1 ((([]) ++ (list.take k)) ++ ([pa])) (list.drop k) _ rfl rfl (fun w hw => (hsh233 _ (hlist.fr hw.fr))) (by first | omega | (simp only [List.length_append, List.length_cons, List.length_nil, List.length_take, List.length_drop] at *; omega)) (by simp only [maxLen]; first | omega | (simp only [List.length_append, List.length_cons, List.length_nil, List.length_take, List.length_drop] at *; omega)) (fun a235 c236 hn237 => ?_))
            · as_aux_lemma => kernel_rfl
            · as_aux_lemma => kernel_rfl
            · as_aux_lemma => kernel_rfl
            · as_aux_lemma => kernel_rfl
            · as_aux_lemma => kernel_rfl
            refine RUN0 1 [] [(4, .v (.slice a235 ((((([]) ++ (list.take k)) ++ ([pa])) ++ (list.drop k)).length) c236))] ?_ rfl ?_
            · as_aux_lemma => kernel_rfl
            refine ENDOPS (NEXT (RET (FIN (.slice a235 ((((([]) ++ (list.take k)) ++ ([pa])) ++ (list.drop k)).length) c236) ?_ ⟨((a235, c236), ((([]) ++ (list.take k)) ++ ([pa])) ++ (list.drop k)), (by first | omega | (dsimp only; omega) | (simp only [List.length_append, List.length_cons, List.length_nil, List.length_take, List.length_drop, List.length_set]; omega))⟩ ?_ [1] ?_)))
            · as_aux_lemma => kernel_rfl
            · rfl
            · rfl
        · -- operation 6 next
          refine BUILDS 42 1 #[(0, .tmp 42)] 43 42 ?_ (Nat.le_of_ble_eq_true rfl) 62 [vi pa.id, vi pa.cabin, vi pa.from', vi pa.size, vi pa.tier, vi pa.since, vi pa.turn, vi pa.state, vi pa.until', vi pa.asked] ?_ partyL [pa] rfl (by simp only [maxLen]; omega) [] [] _ rfl (flatRep rfl) (fun a238 ha239 => ?_)
          · as_aux_lemma => kernel_rfl
          · as_aux_lemma => kernel_rfl
          refine HKEEP (js := [0, 0]) rfl (HALL [0] ?_ (by decide) ?_)
          · as_aux_lemma => kernel_rfl
          refine BUILDS 42 0 #[] 37 42 ?_ (Nat.le_of_ble_eq_true rfl) 62 [] ?_ partyL [] rfl (by simp only [maxLen]; omega) [] [] _ rfl (flatRep rfl) (fun a240 ha241 => ?_)
          · as_aux_lemma => kernel_rfl
          · as_aux_lemma => kernel_rfl
          refine HKEEP (js := [0, 0]) rfl (HALL [4] ?_ (by decide) ?_)
          · as_aux_lemma => kernel_rfl
          refine APPENDR 42 (.tmp 37) (.tmp 40) 41 42 ?_ (Nat.le_of_ble_eq_true rfl) (.slice a240 0 0) a205 ((list.take k).length) list_c ?_ ?_ 62 ?_ (.agg #[vi 0, vi 0, vi 0, vi 0, vi 0, vi 0, vi 0, vi 0, vi 0, vi 0]) 80 ?_ rfl (by decide) 3 ([]) (list.take k) _ rfl rfl (fun w hw => (hsh206 _ (hlist.fr hw.fr))) (by first | omega | (simp only [List.length_append, List.length_cons, List.length_nil, List.length_take, List.length_drop] at *; omega)) (by simp only [maxLen]; first | omega | (simp only [List.length_append, List.length_cons, List.length_nil, List.length_take, List.length_drop] at *; omega)) (fun a242 c243 hn244 => ?_)
          · as_aux_lemma => kernel_rfl
          · as_aux_lemma => kernel_rfl
          · as_aux_lemma => kernel_rfl
          · as_aux_lemma => kernel_rfl
          · as_aux_lemma => kernel_rfl
          refine HKEEP (js := [0, 0]) rfl (HALL [7] ?_ (by decide) ?_)
          · as_aux_lemma => kernel_rfl
          refine APPENDO 42 (.tmp 41) (.tmp 43) 44 42 ?_ (Nat.le_of_ble_eq_true rfl) (.slice a242 ((([]) ++ (list.take k)).length) c243) a238 1 1 ?_ ?_ ha239 62 ?_ partyL (.agg #[vi 0, vi 0, vi 0, vi 0, vi 0, vi 0, vi 0, vi 0, vi 0, vi 0]) 80 ?_ rfl (by decide) 3 2 (([]) ++ (list.take k)) ([pa]) _ rfl rfl (by first | omega | (simp only [List.length_append, List.length_cons, List.length_nil, List.length_take, List.length_drop] at *; omega)) (by simp only [maxLen]; first | omega | (simp only [List.length_append, List.length_cons, List.length_nil, List.length_take, List.length_drop] at *; omega)) (fun a245 c246 hn247 => ?_)
          · as_aux_lemma => kernel_rfl
          · as_aux_lemma => kernel_rfl
          · as_aux_lemma => kernel_rfl
          · as_aux_lemma => kernel_rfl
          · as_aux_lemma => kernel_rfl
          refine HKEEP (js := [0, 0]) rfl (HPURE (js := [0, 0]) 8 [(0, .v (.slice list_a list.length list_c)), (5, I (k : Int)), (6, .v (.slice a245 (((([]) ++ (list.take k)) ++ ([pa])).length) c246))] ?_ ?_ rfl ?_)
          · as_aux_lemma => kernel_rfl
          · as_aux_lemma => kernel_rfl
          refine HEND ?_ ?_
          · as_aux_lemma => kernel_rfl
          refine IMPORT (L0 := [(62, [vi pa.id, vi pa.cabin, vi pa.from', vi pa.size, vi pa.tier, vi pa.since, vi pa.turn, vi pa.state, vi pa.until', vi pa.asked])]) (L1 := []) [b154] rfl [0] _ rfl [(0, .v (.slice list_a list.length list_c)), (5, I (k : Int)), (6, .v (.slice a245 (((([]) ++ (list.take k)) ++ ([pa])).length) c246))] ?_ ?_ ?_
          · as_aux_lemma => kernel_rfl
          · as_aux_lemma => kernel_rfl
          refine NEXT (SEQ (REGION [0, 1, 2, 3, 4, 5] rfl (RUN0 3 [3, 4, 5] [(45, .v (.slice a245 (((([]) ++ (list.take k)) ++ ([pa])).length) c246)), (46, .v (.slice list_a list.length list_c)), (47, I (k : Int))] ?_ rfl ?_)))
          · as_aux_lemma => kernel_rfl
          refine OPC (CUTL 42 (.tmp 46) (.tmp 47) 48 42 ?_ (Nat.le_of_ble_eq_true rfl) list_a list.length list_c .i64 (k : Int) ?_ ?_ 62 partyL list ?_ ?_ (by omega) (by first | omega | (simp only [List.length_append, List.length_cons, List.length_nil, List.length_take, List.length_drop] at *; omega)) rfl (by omega) (fun a248 hsh249 => ?_))
          · as_aux_lemma => kernel_rfl
          · as_aux_lemma => kernel_rfl
          · as_aux_lemma => kernel_rfl
          · as_aux_lemma => kernel_rfl
          · as_aux_lemma => kernel_rfl
          have hsh249 : ∀ w, Rd partyL w list_a list → Rd partyL w a248 (list.drop k) := hsh249
          have hln250 : (list.drop k).length = list.length - k := by first | (simp; done) | (simp; omega)
          refine CAST (d := 48) (.slice a248 (list.length - k) (list_c - k)) (.slice a248 ((list.drop k).length) (list_c - k)) ?_ (by rw [hln250]) ?_
          · as_aux_lemma => kernel_rfl
          refine OPC (APPENDR 42 (.tmp 45) (.tmp 48) 49 42 ?_ (Nat.le_of_ble_eq_true rfl) (.slice a245 (((([]) ++ (list.take k)) ++ ([pa])).length) c246) a248 ((list.drop k).length) (list_c - k) ?_ ?_ 62 ?_ (.agg #[vi 0, vi 0, vi 0, vi 0, vi 0, vi 0, vi 0, vi 0, vi 0, vi 0]) 80 ?_ rfl (by decide) 1 ((([]) ++ (list.take k)) ++ ([pa])) (list.drop k) _ rfl rfl (fun w hw => (hsh249 _ (hlist.fr hw.fr))) (by first | omega | (simp only [List.length_append, List.length_cons, List.length_nil, List.length_take, List.length_drop] at *; omega)) (by simp only [maxLen]; first | omega | (simp only [List.length_append, List.length_cons, List.length_nil, List.length_take, List.length_drop] at *; omega)) (fun a251 c252 hn253 => ?_))
          · as_aux_lemma => kernel_rfl
          · as_aux_lemma => kernel_rfl
          · as_aux_lemma => kernel_rfl
          · as_aux_lemma => kernel_rfl
          · as_aux_lemma => kernel_rfl
          refine RUN0 1 [] [(4, .v (.slice a251 ((((([]) ++ (list.take k)) ++ ([pa])) ++ (list.drop k)).length) c252))] ?_ rfl ?_
          · as_aux_lemma => kernel_rfl
          refine ENDOPS (NEXT (RET (FIN (.slice a251 ((((([]) ++ (list.take k)) ++ ([pa])) ++ (list.drop k)).length) c252) ?_ ⟨((a251, c252), ((([]) ++ (list.take k)) ++ ([pa])) ++ (list.drop k)), (by first | omega | (dsimp only; omega) | (simp only [List.length_append, List.length_cons, List.length_nil, List.length_take, List.length_drop, List.length_set]; omega))⟩ ?_ [1] ?_)))
          · as_aux_lemma => kernel_rfl
          · rfl
          · rfl
      · -- operation 6 next
        refine BUILDS 42 1 #[(0, .tmp 42)] 43 42 ?_ (Nat.le_of_ble_eq_true rfl) 62 [vi pa.id, vi pa.cabin, vi pa.from', vi pa.size, vi pa.tier, vi pa.since, vi pa.turn, vi pa.state, vi pa.until', vi pa.asked] ?_ partyL [pa] rfl (by simp only [maxLen]; omega) [] [] _ rfl (flatRep rfl) (fun a254 ha255 => ?_)
        · as_aux_lemma => kernel_rfl
        · as_aux_lemma => kernel_rfl
        refine HKEEP (js := [0, 0]) rfl (HALL [0, 3] ?_ (by decide) ⟨?_, ?_⟩)
        · as_aux_lemma => kernel_rfl
        · -- operation 0 next
          refine BUILDS 42 0 #[] 37 42 ?_ (Nat.le_of_ble_eq_true rfl) 62 [] ?_ partyL [] rfl (by simp only [maxLen]; omega) [] [] _ rfl (flatRep rfl) (fun a256 ha257 => ?_)
          · as_aux_lemma => kernel_rfl
          · as_aux_lemma => kernel_rfl
          refine HKEEP (js := [0, 0]) rfl (HALL [3] ?_ (by decide) ?_)
          · as_aux_lemma => kernel_rfl
          refine CUTH 42 (.tmp 38) (.tmp 39) 40 42 ?_ (Nat.le_of_ble_eq_true rfl) list_a list.length list_c .i64 (k : Int) ?_ ?_ 62 partyL list ?_ ?_ (by omega) (by first | omega | (simp only [List.length_append, List.length_cons, List.length_nil, List.length_take, List.length_drop] at *; omega)) rfl (by omega) (fun a258 hsh259 => ?_)
          · as_aux_lemma => kernel_rfl
          · as_aux_lemma => kernel_rfl
          · as_aux_lemma => kernel_rfl
          · as_aux_lemma => kernel_rfl
          · as_aux_lemma => kernel_rfl
          have hsh259 : ∀ w, Rd partyL w list_a list → Rd partyL w a258 (list.take k) := hsh259
          have hln260 : (list.take k).length = k := by first | (simp; done) | (simp; omega)
          refine CAST (d := 40) (.slice a258 k list_c) (.slice a258 ((list.take k).length) list_c) ?_ (by rw [hln260]) ?_
          · as_aux_lemma => kernel_rfl
          refine HKEEP (js := [0, 0]) rfl (HALL [4] ?_ (by decide) ?_)
          · as_aux_lemma => kernel_rfl
          refine APPENDR 42 (.tmp 37) (.tmp 40) 41 42 ?_ (Nat.le_of_ble_eq_true rfl) (.slice a256 0 0) a258 ((list.take k).length) list_c ?_ ?_ 62 ?_ (.agg #[vi 0, vi 0, vi 0, vi 0, vi 0, vi 0, vi 0, vi 0, vi 0, vi 0]) 80 ?_ rfl (by decide) 3 ([]) (list.take k) _ rfl rfl (fun w hw => (hsh259 _ (hlist.fr hw.fr))) (by first | omega | (simp only [List.length_append, List.length_cons, List.length_nil, List.length_take, List.length_drop] at *; omega)) (by simp only [maxLen]; first | omega | (simp only [List.length_append, List.length_cons, List.length_nil, List.length_take, List.length_drop] at *; omega)) (fun a261 c262 hn263 => ?_)
          · as_aux_lemma => kernel_rfl
          · as_aux_lemma => kernel_rfl
          · as_aux_lemma => kernel_rfl
          · as_aux_lemma => kernel_rfl
          · as_aux_lemma => kernel_rfl
          refine HKEEP (js := [0, 0]) rfl (HALL [7] ?_ (by decide) ?_)
          · as_aux_lemma => kernel_rfl
          refine APPENDO 42 (.tmp 41) (.tmp 43) 44 42 ?_ (Nat.le_of_ble_eq_true rfl) (.slice a261 ((([]) ++ (list.take k)).length) c262) a254 1 1 ?_ ?_ ha255 62 ?_ partyL (.agg #[vi 0, vi 0, vi 0, vi 0, vi 0, vi 0, vi 0, vi 0, vi 0, vi 0]) 80 ?_ rfl (by decide) 3 2 (([]) ++ (list.take k)) ([pa]) _ rfl rfl (by first | omega | (simp only [List.length_append, List.length_cons, List.length_nil, List.length_take, List.length_drop] at *; omega)) (by simp only [maxLen]; first | omega | (simp only [List.length_append, List.length_cons, List.length_nil, List.length_take, List.length_drop] at *; omega)) (fun a264 c265 hn266 => ?_)
          · as_aux_lemma => kernel_rfl
          · as_aux_lemma => kernel_rfl
          · as_aux_lemma => kernel_rfl
          · as_aux_lemma => kernel_rfl
          · as_aux_lemma => kernel_rfl
          refine HKEEP (js := [0, 0]) rfl (HPURE (js := [0, 0]) 8 [(0, .v (.slice list_a list.length list_c)), (5, I (k : Int)), (6, .v (.slice a264 (((([]) ++ (list.take k)) ++ ([pa])).length) c265))] ?_ ?_ rfl ?_)
          · as_aux_lemma => kernel_rfl
          · as_aux_lemma => kernel_rfl
          refine HEND ?_ ?_
          · as_aux_lemma => kernel_rfl
          refine IMPORT (L0 := [(62, [vi pa.id, vi pa.cabin, vi pa.from', vi pa.size, vi pa.tier, vi pa.since, vi pa.turn, vi pa.state, vi pa.until', vi pa.asked])]) (L1 := []) [b154] rfl [0] _ rfl [(0, .v (.slice list_a list.length list_c)), (5, I (k : Int)), (6, .v (.slice a264 (((([]) ++ (list.take k)) ++ ([pa])).length) c265))] ?_ ?_ ?_
          · as_aux_lemma => kernel_rfl
          · as_aux_lemma => kernel_rfl
          refine NEXT (SEQ (REGION [0, 1, 2, 3, 4, 5] rfl (RUN0 3 [3, 4, 5] [(45, .v (.slice a264 (((([]) ++ (list.take k)) ++ ([pa])).length) c265)), (46, .v (.slice list_a list.length list_c)), (47, I (k : Int))] ?_ rfl ?_)))
          · as_aux_lemma => kernel_rfl
          refine OPC (CUTL 42 (.tmp 46) (.tmp 47) 48 42 ?_ (Nat.le_of_ble_eq_true rfl) list_a list.length list_c .i64 (k : Int) ?_ ?_ 62 partyL list ?_ ?_ (by omega) (by first | omega | (simp only [List.length_append, List.length_cons, List.length_nil, List.length_take, List.length_drop] at *; omega)) rfl (by omega) (fun a267 hsh268 => ?_))
          · as_aux_lemma => kernel_rfl
          · as_aux_lemma => kernel_rfl
          · as_aux_lemma => kernel_rfl
          · as_aux_lemma => kernel_rfl
          · as_aux_lemma => kernel_rfl
          have hsh268 : ∀ w, Rd partyL w list_a list → Rd partyL w a267 (list.drop k) := hsh268
          have hln269 : (list.drop k).length = list.length - k := by first | (simp; done) | (simp; omega)
          refine CAST (d := 48) (.slice a267 (list.length - k) (list_c - k)) (.slice a267 ((list.drop k).length) (list_c - k)) ?_ (by rw [hln269]) ?_
          · as_aux_lemma => kernel_rfl
          refine OPC (APPENDR 42 (.tmp 45) (.tmp 48) 49 42 ?_ (Nat.le_of_ble_eq_true rfl) (.slice a264 (((([]) ++ (list.take k)) ++ ([pa])).length) c265) a267 ((list.drop k).length) (list_c - k) ?_ ?_ 62 ?_ (.agg #[vi 0, vi 0, vi 0, vi 0, vi 0, vi 0, vi 0, vi 0, vi 0, vi 0]) 80 ?_ rfl (by decide) 1 ((([]) ++ (list.take k)) ++ ([pa])) (list.drop k) _ rfl rfl (fun w hw => (hsh268 _ (hlist.fr hw.fr))) (by first | omega | (simp only [List.length_append, List.length_cons, List.length_nil, List.length_take, List.length_drop] at *; omega)) (by simp only [maxLen]; first | omega | (simp only [List.length_append, List.length_cons, List.length_nil, List.length_take, List.length_drop] at *; omega)) (fun a270 c271 hn272 => ?_))
          · as_aux_lemma => kernel_rfl
          · as_aux_lemma => kernel_rfl
          · as_aux_lemma => kernel_rfl
          · as_aux_lemma => kernel_rfl
          · as_aux_lemma => kernel_rfl
          refine RUN0 1 [] [(4, .v (.slice a270 ((((([]) ++ (list.take k)) ++ ([pa])) ++ (list.drop k)).length) c271))] ?_ rfl ?_
          · as_aux_lemma => kernel_rfl
          refine ENDOPS (NEXT (RET (FIN (.slice a270 ((((([]) ++ (list.take k)) ++ ([pa])) ++ (list.drop k)).length) c271) ?_ ⟨((a270, c271), ((([]) ++ (list.take k)) ++ ([pa])) ++ (list.drop k)), (by first | omega | (dsimp only; omega) | (simp only [List.length_append, List.length_cons, List.length_nil, List.length_take, List.length_drop, List.length_set]; omega))⟩ ?_ [1] ?_)))
          · as_aux_lemma => kernel_rfl
          · rfl
          · rfl
        · -- operation 3 next
          refine CUTH 42 (.tmp 38) (.tmp 39) 40 42 ?_ (Nat.le_of_ble_eq_true rfl) list_a list.length list_c .i64 (k : Int) ?_ ?_ 62 partyL list ?_ ?_ (by omega) (by first | omega | (simp only [List.length_append, List.length_cons, List.length_nil, List.length_take, List.length_drop] at *; omega)) rfl (by omega) (fun a273 hsh274 => ?_)
          · as_aux_lemma => kernel_rfl
          · as_aux_lemma => kernel_rfl
          · as_aux_lemma => kernel_rfl
          · as_aux_lemma => kernel_rfl
          · as_aux_lemma => kernel_rfl
          have hsh274 : ∀ w, Rd partyL w list_a list → Rd partyL w a273 (list.take k) := hsh274
          have hln275 : (list.take k).length = k := by first | (simp; done) | (simp; omega)
          refine CAST (d := 40) (.slice a273 k list_c) (.slice a273 ((list.take k).length) list_c) ?_ (by rw [hln275]) ?_
          · as_aux_lemma => kernel_rfl
          refine HKEEP (js := [0, 0]) rfl (HALL [0] ?_ (by decide) ?_)
          · as_aux_lemma => kernel_rfl
          refine BUILDS 42 0 #[] 37 42 ?_ (Nat.le_of_ble_eq_true rfl) 62 [] ?_ partyL [] rfl (by simp only [maxLen]; omega) [] [] _ rfl (flatRep rfl) (fun a276 ha277 => ?_)
          · as_aux_lemma => kernel_rfl
          · as_aux_lemma => kernel_rfl
          refine HKEEP (js := [0, 0]) rfl (HALL [4] ?_ (by decide) ?_)
          · as_aux_lemma => kernel_rfl
          refine APPENDR 42 (.tmp 37) (.tmp 40) 41 42 ?_ (Nat.le_of_ble_eq_true rfl) (.slice a276 0 0) a273 ((list.take k).length) list_c ?_ ?_ 62 ?_ (.agg #[vi 0, vi 0, vi 0, vi 0, vi 0, vi 0, vi 0, vi 0, vi 0, vi 0]) 80 ?_ rfl (by decide) 3 ([]) (list.take k) _ rfl rfl (fun w hw => (hsh274 _ (hlist.fr hw.fr))) (by first | omega | (simp only [List.length_append, List.length_cons, List.length_nil, List.length_take, List.length_drop] at *; omega)) (by simp only [maxLen]; first | omega | (simp only [List.length_append, List.length_cons, List.length_nil, List.length_take, List.length_drop] at *; omega)) (fun a278 c279 hn280 => ?_)
          · as_aux_lemma => kernel_rfl
          · as_aux_lemma => kernel_rfl
          · as_aux_lemma => kernel_rfl
          · as_aux_lemma => kernel_rfl
          · as_aux_lemma => kernel_rfl
          refine HKEEP (js := [0, 0]) rfl (HALL [7] ?_ (by decide) ?_)
          · as_aux_lemma => kernel_rfl
          refine APPENDO 42 (.tmp 41) (.tmp 43) 44 42 ?_ (Nat.le_of_ble_eq_true rfl) (.slice a278 ((([]) ++ (list.take k)).length) c279) a254 1 1 ?_ ?_ ha255 62 ?_ partyL (.agg #[vi 0, vi 0, vi 0, vi 0, vi 0, vi 0, vi 0, vi 0, vi 0, vi 0]) 80 ?_ rfl (by decide) 3 2 (([]) ++ (list.take k)) ([pa]) _ rfl rfl (by first | omega | (simp only [List.length_append, List.length_cons, List.length_nil, List.length_take, List.length_drop] at *; omega)) (by simp only [maxLen]; first | omega | (simp only [List.length_append, List.length_cons, List.length_nil, List.length_take, List.length_drop] at *; omega)) (fun a281 c282 hn283 => ?_)
          · as_aux_lemma => kernel_rfl
          · as_aux_lemma => kernel_rfl
          · as_aux_lemma => kernel_rfl
          · as_aux_lemma => kernel_rfl
          · as_aux_lemma => kernel_rfl
          refine HKEEP (js := [0, 0]) rfl (HPURE (js := [0, 0]) 8 [(0, .v (.slice list_a list.length list_c)), (5, I (k : Int)), (6, .v (.slice a281 (((([]) ++ (list.take k)) ++ ([pa])).length) c282))] ?_ ?_ rfl ?_)
          · as_aux_lemma => kernel_rfl
          · as_aux_lemma => kernel_rfl
          refine HEND ?_ ?_
          · as_aux_lemma => kernel_rfl
          refine IMPORT (L0 := [(62, [vi pa.id, vi pa.cabin, vi pa.from', vi pa.size, vi pa.tier, vi pa.since, vi pa.turn, vi pa.state, vi pa.until', vi pa.asked])]) (L1 := []) [b154] rfl [0] _ rfl [(0, .v (.slice list_a list.length list_c)), (5, I (k : Int)), (6, .v (.slice a281 (((([]) ++ (list.take k)) ++ ([pa])).length) c282))] ?_ ?_ ?_
          · as_aux_lemma => kernel_rfl
          · as_aux_lemma => kernel_rfl
          refine NEXT (SEQ (REGION [0, 1, 2, 3, 4, 5] rfl (RUN0 3 [3, 4, 5] [(45, .v (.slice a281 (((([]) ++ (list.take k)) ++ ([pa])).length) c282)), (46, .v (.slice list_a list.length list_c)), (47, I (k : Int))] ?_ rfl ?_)))
          · as_aux_lemma => kernel_rfl
          refine OPC (CUTL 42 (.tmp 46) (.tmp 47) 48 42 ?_ (Nat.le_of_ble_eq_true rfl) list_a list.length list_c .i64 (k : Int) ?_ ?_ 62 partyL list ?_ ?_ (by omega) (by first | omega | (simp only [List.length_append, List.length_cons, List.length_nil, List.length_take, List.length_drop] at *; omega)) rfl (by omega) (fun a284 hsh285 => ?_))
          · as_aux_lemma => kernel_rfl
          · as_aux_lemma => kernel_rfl
          · as_aux_lemma => kernel_rfl
          · as_aux_lemma => kernel_rfl
          · as_aux_lemma => kernel_rfl
          have hsh285 : ∀ w, Rd partyL w list_a list → Rd partyL w a284 (list.drop k) := hsh285
          have hln286 : (list.drop k).length = list.length - k := by first | (simp; done) | (simp; omega)
          refine CAST (d := 48) (.slice a284 (list.length - k) (list_c - k)) (.slice a284 ((list.drop k).length) (list_c - k)) ?_ (by rw [hln286]) ?_
          · as_aux_lemma => kernel_rfl
          refine OPC (APPENDR 42 (.tmp 45) (.tmp 48) 49 42 ?_ (Nat.le_of_ble_eq_true rfl) (.slice a281 (((([]) ++ (list.take k)) ++ ([pa])).length) c282) a284 ((list.drop k).length) (list_c - k) ?_ ?_ 62 ?_ (.agg #[vi 0, vi 0, vi 0, vi 0, vi 0, vi 0, vi 0, vi 0, vi 0, vi 0]) 80 ?_ rfl (by decide) 1 ((([]) ++ (list.take k)) ++ ([pa])) (list.drop k) _ rfl rfl (fun w hw => (hsh285 _ (hlist.fr hw.fr))) (by first | omega | (simp only [List.length_append, List.length_cons, List.length_nil, List.length_take, List.length_drop] at *; omega)) (by simp only [maxLen]; first | omega | (simp only [List.length_append, List.length_cons, List.length_nil, List.length_take, List.length_drop] at *; omega)) (fun a287 c288 hn289 => ?_))
          · as_aux_lemma => kernel_rfl
          · as_aux_lemma => kernel_rfl
          · as_aux_lemma => kernel_rfl
          · as_aux_lemma => kernel_rfl
          · as_aux_lemma => kernel_rfl
          refine RUN0 1 [] [(4, .v (.slice a287 ((((([]) ++ (list.take k)) ++ ([pa])) ++ (list.drop k)).length) c288))] ?_ rfl ?_
          · as_aux_lemma => kernel_rfl
          refine ENDOPS (NEXT (RET (FIN (.slice a287 ((((([]) ++ (list.take k)) ++ ([pa])) ++ (list.drop k)).length) c288) ?_ ⟨((a287, c288), ((([]) ++ (list.take k)) ++ ([pa])) ++ (list.drop k)), (by first | omega | (dsimp only; omega) | (simp only [List.length_append, List.length_cons, List.length_nil, List.length_take, List.length_drop, List.length_set]; omega))⟩ ?_ [1] ?_)))
          · as_aux_lemma => kernel_rfl
          · rfl
          · rfl

theorem todoPut_c (W : World) (list : List Int) (list_a : Option Addr) (list_c : Nat) (hlist : Rd intL W list_a list) (cabin : Int) (hb : list.length ≤ 1048576) : Spec Try.prog W [] 39 #[.slice list_a list.length list_c, vi cabin] (⟨{q : (HH) × (List Int) // (fun x : List Int => x.length ≤ list.length + 1) q.2}, fun q => .slice q.1.1.1 q.1.2.length q.1.1.2, fun q => [slA 3 intL (.slice q.1.1.1 q.1.2.length q.1.1.2) q.1.2]⟩) := by
  refine ENTER0 (N := 17) (vs := [.slice list_a list.length list_c, vi cabin]) Try.func39 rfl rfl (Nat.le_of_ble_eq_true rfl) ?_
  have hlist_len := hlist.len
  refine SEQ (REGION [0] rfl (RUN0 1 [] [(0, .v (.slice list_a list.length list_c)), (1, I cabin)] ?_ rfl ?_))
  · as_aux_lemma => kernel_rfl
  refine ENDOPS (NEXT (SEQ (REGION [0, 1, 2, 3] rfl (OPC (BUILDS 39 0 #[] 6 39 ?_ (Nat.le_of_ble_eq_true rfl) 3 [] ?_ intL [] rfl (by simp only [maxLen]; omega) [] [] _ rfl (flatRep rfl) (fun a1 ha2 => ?_))))))
  · as_aux_lemma => kernel_rfl
  · as_aux_lemma => kernel_rfl
  refine RUN0 1 [2, 3] [(0, .v (.slice list_a list.length list_c)), (1, I cabin), (6, .v (.slice a1 0 0)), (7, .v (.slice list_a list.length list_c))] ?_ rfl ?_
  · as_aux_lemma => kernel_rfl
  refine OPC (APPENDR 39 (.tmp 6) (.tmp 7) 8 39 ?_ (Nat.le_of_ble_eq_true rfl) (.slice a1 0 0) list_a list.length list_c ?_ ?_ 3 ?_ (vi 0) 8 ?_ rfl (by decide) 0 ([]) list _ rfl rfl (fun w hw => (hlist.fr hw.fr)) (by first | omega | (simp only [List.length_append, List.length_cons, List.length_nil, List.length_take, List.length_drop] at *; omega)) (by simp only [maxLen]; first | omega | (simp only [List.length_append, List.length_cons, List.length_nil, List.length_take, List.length_drop] at *; omega)) (fun a3 c4 hn5 => ?_))
  · as_aux_lemma => kernel_rfl
  · as_aux_lemma => kernel_rfl
  · as_aux_lemma => kernel_rfl
  · as_aux_lemma => kernel_rfl
  · as_aux_lemma => kernel_rfl
  refine RUN0 1 [] [(0, .v (.slice list_a list.length list_c)), (1, I cabin), (5, .v (.slice a3 ((([]) ++ list).length) c4))] ?_ rfl ?_
  · as_aux_lemma => kernel_rfl
  refine ENDOPS (NEXT (SEQ (SEQ (REGION [0, 1, 2] rfl (RUN0 2 [2] [(1, I cabin), (5, .v (.slice a3 ((([]) ++ list).length) c4)), (9, .v (.slice list_a list.length list_c)), (10, I cabin)] ?_ rfl ?_)))))
  · as_aux_lemma => kernel_rfl
  refine OPC (CALL 58 #[.slice list_a list.length list_c, vi cabin] (some 11) ?_ [] [] _ rfl (⟨{x : Bool // True}, fun q => .bool q.1, fun q => []⟩) (fun w hw => l1Has_c w list list_a list_c (hlist.fr hw.fr) cabin) (by rintro _ ⟨⟩; exact Nat.le_of_ble_eq_true rfl) ?_)
  · as_aux_lemma => kernel_rfl
  rintro ⟨m6, hm7⟩
  try dsimp only at hm7
  refine ENDOPS (NEXT (IF (m6) ?_ (fun bh8 => ?_) (fun bh8 => ?_)))
  · as_aux_lemma => kernel_rfl
  · -- m6 = true
    have h8 := bh8
    refine SEQ (REGION [0, 1] rfl (RUN0 2 [] [(4, .v (.slice a3 ((([]) ++ list).length) c4))] ?_ rfl ?_))
    · as_aux_lemma => kernel_rfl
    refine ENDOPS (NEXT (RET (PASS trivial (FIN (.slice a3 ((([]) ++ list).length) c4) ?_ ⟨((a3, c4), ([]) ++ list), (by first | omega | (dsimp only; omega) | (simp only [List.length_append, List.length_cons, List.length_nil]; omega))⟩ ?_ [0] ?_))))
    · as_aux_lemma => kernel_rfl
    · rfl
    · rfl
  · -- m6 = false
    have h8 := bh8
    refine SKIP (NEXT (SEQ (REGION [0, 1, 2, 3, 4] rfl (RUN0 2 [2, 3, 4] [(13, .v (.slice a3 ((([]) ++ list).length) c4)), (14, I cabin)] ?_ rfl ?_))))
    · as_aux_lemma => kernel_rfl
    refine OPC (BUILDS 39 1 #[(0, .tmp 14)] 15 39 ?_ (Nat.le_of_ble_eq_true rfl) 3 [vi cabin] ?_ intL [cabin] rfl (by simp only [maxLen]; omega) [] [] _ rfl (flatRep rfl) (fun a9 ha10 => ?_))
    · as_aux_lemma => kernel_rfl
    · as_aux_lemma => kernel_rfl
    refine OPC (APPENDO 39 (.tmp 13) (.tmp 15) 16 39 ?_ (Nat.le_of_ble_eq_true rfl) (.slice a3 ((([]) ++ list).length) c4) a9 1 1 ?_ ?_ ha10 3 ?_ intL (vi 0) 8 ?_ rfl (by decide) 0 0 (([]) ++ list) ([cabin]) _ rfl rfl (by first | omega | (simp only [List.length_append, List.length_cons, List.length_nil, List.length_take, List.length_drop] at *; omega)) (by simp only [maxLen]; first | omega | (simp only [List.length_append, List.length_cons, List.length_nil, List.length_take, List.length_drop] at *; omega)) (fun a11 c12 hn13 => ?_))
    · as_aux_lemma => kernel_rfl
    · as_aux_lemma => kernel_rfl
    · as_aux_lemma => kernel_rfl
    · as_aux_lemma => kernel_rfl
    · as_aux_lemma => kernel_rfl
    refine RUN0 1 [] [(4, .v (.slice a11 (((([]) ++ list) ++ ([cabin])).length) c12))] ?_ rfl ?_
    · as_aux_lemma => kernel_rfl
    refine ENDOPS (NEXT (RET (FIN (.slice a11 (((([]) ++ list) ++ ([cabin])).length) c12) ?_ ⟨((a11, c12), (([]) ++ list) ++ ([cabin])), (by first | omega | (dsimp only; omega) | (simp only [List.length_append, List.length_cons, List.length_nil]; omega))⟩ ?_ [0] ?_)))
    · as_aux_lemma => kernel_rfl
    · rfl
    · rfl

end SX
end Go.Proofs.Ytpdijcbgdalphaa
