/- Walks, printed by program. -/
import Derived.Test.YtpdijcbgdalphabGreatDoorE4
namespace Go.Proofs.YtpdijcbgdalphabGreatDoor
namespace SX
open Go Go.RowKit
set_option linter.unusedVariables false
set_option linter.unusedSimpArgs false
set_option maxRecDepth 10000
set_option maxHeartbeats 400000
theorem l6Right_c (W : World) (d : Cd) (hd : CodeOk W d) (p : Value) (r : Rules) (r_seats_a : Option Addr) (r_seats_c : Nat) (hr_seats : RdP W p intL r_seats_a r.seats) (now : Int) : Spec Tryz.prog W [curA d p] 46 #[p, .agg #[.slice r_seats_a r.seats.length r_seats_c, vi r.tiers, vi r.room, vi r.size, vi r.period, vi r.window, vi r.rest, vi r.tries, vi r.crew], vi now] (⟨{x : Party // True}, fun q => .agg #[vi q.1.id, vi q.1.cabin, vi q.1.from', vi q.1.size, vi q.1.tier, vi q.1.since, vi q.1.turn, vi q.1.state, vi q.1.until', vi q.1.asked], fun q => [curA (d) p]⟩) := by
 refine ENTERC (N := 70) (vs := [p, .agg #[.slice r_seats_a r.seats.length r_seats_c, vi r.tiers, vi r.room, vi r.size, vi r.period, vi r.window, vi r.rest, vi r.tries, vi r.crew], vi now]) Tryz.func46 rfl rfl (NL rfl) (fun S0 hS hP => ?_)
 have hr_seats_len := hr_seats.len
 refine SEQ (REGION [0, 1] rfl (RUN 2 [] [(0, .v (p)), (2, I now), (4, .p 0 0), (6, .p 1 0)] [(51, [.slice r_seats_a r.seats.length r_seats_c, vi r.tiers, vi r.room, vi r.size, vi r.period, vi r.window, vi r.rest, vi r.tries, vi r.crew]), (80, [vi 0, vi 0, vi 0, vi 0, vi 0, vi 0, vi 0, vi 0, vi 0, vi 0])] ?_ rfl ?_))
 · as_aux_lemma => kernel_rfl
 refine ENDOPS (NEXT (SEQJ (ι := Int × Int × Int × Int × Int × Int) (fun j => [(0, .v (p)), (2, I now), (4, .p 0 0), (6, .p 1 0), (7, .p 2 0)]) (fun j => [(51, [.slice r_seats_a r.seats.length r_seats_c, vi r.tiers, vi r.room, vi r.size, vi r.period, vi r.window, vi r.rest, vi r.tries, vi r.crew]), (80, [vi 0, vi 0, vi 0, vi 0, vi 0, vi 0, vi 0, vi 0, vi 0, vi 0]), (80, [vi j.1, vi j.2.1, vi (-1), vi j.2.2.1, vi j.2.2.2.1, vi 0, vi j.2.2.2.2.1, vi 1, vi 0, vi j.2.2.2.2.2])]) (fun j => [curA d p]) (fun j => True) ?_ ?_))
 ·
  refine EXPORT (fun bs hbs => ?_)
  obtain ⟨b1, b2, rfl⟩ := len2 hbs
  refine REGIONH ?_ 27 rfl [ptC b1 51 [.slice r_seats_a r.seats.length r_seats_c, vi r.tiers, vi r.room, vi r.size, vi r.period, vi r.window, vi r.rest, vi r.tries, vi r.crew], ptC b2 80 [vi 0, vi 0, vi 0, vi 0, vi 0, vi 0, vi 0, vi 0, vi 0, vi 0]] ?_
  · as_aux_lemma => kernel_rfl
  refine HPURE (js := [0, 0]) 0 [(0, .v (p)), (2, I now), (4, .e (some ⟨b1, 0, none⟩) 0 0), (6, .e (some ⟨b2, 0, none⟩) 0 0), (8, .v (p))] ?_ ?_ rfl ?_
  iterate 2 (as_aux_lemma => kernel_rfl)
  refine HPURE (js := [0, 0]) 3 [(0, .v (p)), (2, I now), (4, .e (some ⟨b1, 0, none⟩) 0 0), (6, .e (some ⟨b2, 0, none⟩) 0 0), (8, .v (p)), (11, .v (p))] ?_ ?_ rfl ?_
  iterate 2 (as_aux_lemma => kernel_rfl)
  refine HPURE (js := [0, 0]) 4 [(0, .v (p)), (2, I now), (4, .e (some ⟨b1, 0, none⟩) 0 0), (6, .e (some ⟨b2, 0, none⟩) 0 0), (8, .v (p)), (11, .v (p)), (12, .e (some ⟨b1, 0, none⟩) 0 0)] ?_ ?_ rfl ?_
  iterate 2 (as_aux_lemma => kernel_rfl)
  refine HLOADE (i := 5) (js := [0, 0])  42 (.tmp 12) 13 42 ?_ (NL rfl) (some ⟨b1, 0, none⟩) 0 0 [.slice r_seats_a r.seats.length r_seats_c, vi r.tiers, vi r.room, vi r.size, vi r.period, vi r.window, vi r.rest, vi r.tries, vi r.crew] (.slice r_seats_a r.seats.length r_seats_c) ?_ (fun w hw => ptC_elem (hw.own 0 rfl)) ?_ ?_ rfl ?_
  iterate 4 (as_aux_lemma => kernel_rfl)
  refine HPURE (js := [0, 0]) 6 [(0, .v (p)), (2, I now), (4, .e (some ⟨b1, 0, none⟩) 0 0), (6, .e (some ⟨b2, 0, none⟩) 0 0), (8, .v (p)), (11, .v (p)), (14, I (r.seats.length : Int))] ?_ ?_ rfl ?_
  iterate 2 (as_aux_lemma => kernel_rfl)
  refine HPURE (js := [0, 0]) 8 [(0, .v (p)), (2, I now), (4, .e (some ⟨b1, 0, none⟩) 0 0), (6, .e (some ⟨b2, 0, none⟩) 0 0), (8, .v (p)), (11, .v (p)), (14, I (r.seats.length : Int)), (16, .v (p))] ?_ ?_ rfl ?_
  iterate 2 (as_aux_lemma => kernel_rfl)
  refine HPURE (js := [0, 0]) 9 [(0, .v (p)), (2, I now), (4, .e (some ⟨b1, 0, none⟩) 0 0), (6, .e (some ⟨b2, 0, none⟩) 0 0), (8, .v (p)), (11, .v (p)), (14, I (r.seats.length : Int)), (16, .v (p)), (17, .e (some ⟨b1, 0, none⟩) 0 3)] ?_ ?_ rfl ?_
  iterate 2 (as_aux_lemma => kernel_rfl)
  refine HLOADE (i := 10) (js := [0, 0])  3 (.tmp 17) 18 3 ?_ (NL rfl) (some ⟨b1, 0, none⟩) 0 3 [.slice r_seats_a r.seats.length r_seats_c, vi r.tiers, vi r.room, vi r.size, vi r.period, vi r.window, vi r.rest, vi r.tries, vi r.crew] (vi r.size) ?_ (fun w hw => ptC_elem (hw.own 0 rfl)) ?_ ?_ rfl ?_
  iterate 4 (as_aux_lemma => kernel_rfl)
  refine HPURE (js := [0, 0]) 13 [(0, .v (p)), (2, I now), (4, .e (some ⟨b1, 0, none⟩) 0 0), (6, .e (some ⟨b2, 0, none⟩) 0 0), (8, .v (p)), (11, .v (p)), (14, I (r.seats.length : Int)), (16, .v (p)), (18, I r.size), (21, .v (p))] ?_ ?_ rfl ?_
  iterate 2 (as_aux_lemma => kernel_rfl)
  refine HPURE (js := [0, 0]) 14 [(0, .v (p)), (2, I now), (4, .e (some ⟨b1, 0, none⟩) 0 0), (6, .e (some ⟨b2, 0, none⟩) 0 0), (8, .v (p)), (11, .v (p)), (14, I (r.seats.length : Int)), (16, .v (p)), (18, I r.size), (21, .v (p)), (22, .e (some ⟨b1, 0, none⟩) 0 1)] ?_ ?_ rfl ?_
  iterate 2 (as_aux_lemma => kernel_rfl)
  refine HLOADE (i := 15) (js := [0, 0])  3 (.tmp 22) 23 3 ?_ (NL rfl) (some ⟨b1, 0, none⟩) 0 1 [.slice r_seats_a r.seats.length r_seats_c, vi r.tiers, vi r.room, vi r.size, vi r.period, vi r.window, vi r.rest, vi r.tries, vi r.crew] (vi r.tiers) ?_ (fun w hw => ptC_elem (hw.own 0 rfl)) ?_ ?_ rfl ?_
  iterate 4 (as_aux_lemma => kernel_rfl)
  refine HPURE (js := [0, 0]) 17 [(0, .v (p)), (2, I now), (4, .e (some ⟨b1, 0, none⟩) 0 0), (6, .e (some ⟨b2, 0, none⟩) 0 0), (8, .v (p)), (11, .v (p)), (14, I (r.seats.length : Int)), (16, .v (p)), (18, I r.size), (21, .v (p)), (23, I r.tiers), (25, .v (p))] ?_ ?_ rfl ?_
  iterate 2 (as_aux_lemma => kernel_rfl)
  refine HPURE (js := [0, 0]) 20 [(0, .v (p)), (2, I now), (4, .e (some ⟨b1, 0, none⟩) 0 0), (6, .e (some ⟨b2, 0, none⟩) 0 0), (8, .v (p)), (11, .v (p)), (14, I (r.seats.length : Int)), (16, .v (p)), (18, I r.size), (21, .v (p)), (23, I r.tiers), (25, .v (p)), (28, .v (p))] ?_ ?_ rfl ?_
  iterate 2 (as_aux_lemma => kernel_rfl)
  refine HPURE (js := [0, 0]) 21 [(0, .v (p)), (2, I now), (4, .e (some ⟨b1, 0, none⟩) 0 0), (6, .e (some ⟨b2, 0, none⟩) 0 0), (8, .v (p)), (11, .v (p)), (14, I (r.seats.length : Int)), (16, .v (p)), (18, I r.size), (21, .v (p)), (23, I r.tiers), (25, .v (p)), (28, .v (p)), (29, .e (some ⟨b1, 0, none⟩) 0 7)] ?_ ?_ rfl ?_
  iterate 2 (as_aux_lemma => kernel_rfl)
  refine HLOADE (i := 22) (js := [0, 0])  3 (.tmp 29) 30 3 ?_ (NL rfl) (some ⟨b1, 0, none⟩) 0 7 [.slice r_seats_a r.seats.length r_seats_c, vi r.tiers, vi r.room, vi r.size, vi r.period, vi r.window, vi r.rest, vi r.tries, vi r.crew] (vi r.tries) ?_ (fun w hw => ptC_elem (hw.own 0 rfl)) ?_ ?_ rfl ?_
  iterate 4 (as_aux_lemma => kernel_rfl)
  refine HALL [1, 25] ?_ (by decide) ⟨?_, ?_⟩
  · as_aux_lemma => kernel_rfl
  ·
   refine CALL 29 #[p, vi 12] (some 9) ?_ [2] [curA (d) p] _ rfl (⟨{x : Int // 0 ≤ x ∧ (12 ≤ 0 → x = 0) ∧ (0 < 12 → x < 12)}, fun q => vi q.1, fun q => [curA (d) p]⟩) (fun w hw => l1Below_c w (d) (hd.fr hw.fr hS) p 12) (NO rfl) ?_
   · as_aux_lemma => kernel_rfl
   rintro ⟨m3, hm4⟩
   try dsimp only at hm4
   refine HKEEP (js := [0, 0]) rfl (HPURE (js := [0, 0]) 2 [(0, .v (p)), (2, I now), (4, .e (some ⟨b1, 0, none⟩) 0 0), (6, .e (some ⟨b2, 0, none⟩) 0 0), (10, I (wr (1 + m3))), (11, .v (p)), (14, I (r.seats.length : Int)), (16, .v (p)), (18, I r.size), (21, .v (p)), (23, I r.tiers), (25, .v (p)), (28, .v (p)), (30, I r.tries)] ?_ ?_ rfl ?_)
   iterate 2 (as_aux_lemma => kernel_rfl)
   refine HALL [7, 25] ?_ (by decide) ⟨?_, ?_⟩
   · as_aux_lemma => kernel_rfl
   ·
    refine CALL 29 #[p, vi (r.seats.length : Int)] (some 15) ?_ [2] [curA (d) p] _ rfl (⟨{x : Int // 0 ≤ x ∧ ((r.seats.length : Int) ≤ 0 → x = 0) ∧ (0 < (r.seats.length : Int) → x < (r.seats.length : Int))}, fun q => vi q.1, fun q => [curA (d) p]⟩) (fun w hw => l1Below_c w (d) (hd.fr hw.fr hS) p (r.seats.length : Int)) (NO rfl) ?_
    · as_aux_lemma => kernel_rfl
    rintro ⟨m5, hm6⟩
    try dsimp only at hm6
    refine HKEEP (js := [0, 0]) rfl (HALL [11, 25] ?_ (by decide) ⟨?_, ?_⟩)
    · as_aux_lemma => kernel_rfl
    ·
     refine CALL 29 #[p, vi r.size] (some 19) ?_ [2] [curA (d) p] _ rfl (⟨{x : Int // 0 ≤ x ∧ (r.size ≤ 0 → x = 0) ∧ (0 < r.size → x < r.size)}, fun q => vi q.1, fun q => [curA (d) p]⟩) (fun w hw => l1Below_c w (d) (hd.fr hw.fr hS) p r.size) (NO rfl) ?_
     · as_aux_lemma => kernel_rfl
     rintro ⟨m7, hm8⟩
     try dsimp only at hm8
     refine HKEEP (js := [0, 0]) rfl (HPURE (js := [0, 0]) 12 [(0, .v (p)), (2, I now), (4, .e (some ⟨b1, 0, none⟩) 0 0), (6, .e (some ⟨b2, 0, none⟩) 0 0), (10, I (wr (1 + m3))), (15, I m5), (20, I (wr (1 + m7))), (21, .v (p)), (23, I r.tiers), (25, .v (p)), (28, .v (p)), (30, I r.tries)] ?_ ?_ rfl ?_)
     iterate 2 (as_aux_lemma => kernel_rfl)
     refine HALL [16, 25] ?_ (by decide) ⟨?_, ?_⟩
     · as_aux_lemma => kernel_rfl
     ·
      refine CALL 29 #[p, vi r.tiers] (some 24) ?_ [2] [curA (d) p] _ rfl (⟨{x : Int // 0 ≤ x ∧ (r.tiers ≤ 0 → x = 0) ∧ (0 < r.tiers → x < r.tiers)}, fun q => vi q.1, fun q => [curA (d) p]⟩) (fun w hw => l1Below_c w (d) (hd.fr hw.fr hS) p r.tiers) (NO rfl) ?_
      · as_aux_lemma => kernel_rfl
      rintro ⟨m9, hm10⟩
      try dsimp only at hm10
      refine HKEEP (js := [0, 0]) rfl (HALL [18, 25] ?_ (by decide) ⟨?_, ?_⟩)
      · as_aux_lemma => kernel_rfl
      ·
       refine CALL 29 #[p, vi 40] (some 26) ?_ [2] [curA (d) p] _ rfl (⟨{x : Int // 0 ≤ x ∧ (40 ≤ 0 → x = 0) ∧ (0 < 40 → x < 40)}, fun q => vi q.1, fun q => [curA (d) p]⟩) (fun w hw => l1Below_c w (d) (hd.fr hw.fr hS) p 40) (NO rfl) ?_
       · as_aux_lemma => kernel_rfl
       rintro ⟨m11, hm12⟩
       try dsimp only at hm12
       refine HKEEP (js := [0, 0]) rfl (HPURE (js := [0, 0]) 19 [(0, .v (p)), (2, I now), (4, .e (some ⟨b1, 0, none⟩) 0 0), (6, .e (some ⟨b2, 0, none⟩) 0 0), (10, I (wr (1 + m3))), (15, I m5), (20, I (wr (1 + m7))), (24, I m9), (27, I (wr (1 + m11))), (28, .v (p)), (30, I r.tries)] ?_ ?_ rfl ?_)
       iterate 2 (as_aux_lemma => kernel_rfl)
       refine HALL [23, 25] ?_ (by decide) ⟨?_, ?_⟩
       · as_aux_lemma => kernel_rfl
       ·
        refine CALL 29 #[p, vi r.tries] (some 31) ?_ [2] [curA (d) p] _ rfl (⟨{x : Int // 0 ≤ x ∧ (r.tries ≤ 0 → x = 0) ∧ (0 < r.tries → x < r.tries)}, fun q => vi q.1, fun q => [curA (d) p]⟩) (fun w hw => l1Below_c w (d) (hd.fr hw.fr hS) p r.tries) (NO rfl) ?_
        · as_aux_lemma => kernel_rfl
        rintro ⟨m13, hm14⟩
        try dsimp only at hm14
        refine HKEEP (js := [0, 0]) rfl (HPURE (js := [0, 0]) 24 [(0, .v (p)), (2, I now), (4, .e (some ⟨b1, 0, none⟩) 0 0), (6, .e (some ⟨b2, 0, none⟩) 0 0), (32, .v (.agg #[vi (wr (1 + m3)), vi m5, vi (-1), vi (wr (1 + m7)), vi m9, vi 0, vi (wr (1 + m11)), vi 1, vi 0, vi m13]))] ?_ ?_ rfl ?_)
        iterate 2 (as_aux_lemma => kernel_rfl)
        refine HALL [25] ?_ (by decide) ?_
        · as_aux_lemma => kernel_rfl
        refine RUNO [(0, .v (p)), (2, I now), (4, .e (some ⟨b1, 0, none⟩) 0 0), (6, .e (some ⟨b2, 0, none⟩) 0 0), (7, .p 0 0), (32, .v (.agg #[vi (wr (1 + m3)), vi m5, vi (-1), vi (wr (1 + m7)), vi m9, vi 0, vi (wr (1 + m11)), vi 1, vi 0, vi m13]))] [(80, [vi 0, vi 0, vi 0, vi 0, vi 0, vi 0, vi 0, vi 0, vi 0, vi 0])] ?_ ?_
        · as_aux_lemma => kernel_rfl
        refine HKEEP (js := [0, 0]) rfl (HALL [26] ?_ (by decide) ?_)
        · as_aux_lemma => kernel_rfl
        refine RUNO [(0, .v (p)), (2, I now), (4, .e (some ⟨b1, 0, none⟩) 0 0), (6, .e (some ⟨b2, 0, none⟩) 0 0), (7, .p 0 0)] [(80, [vi (wr (1 + m3)), vi m5, vi (-1), vi (wr (1 + m7)), vi m9, vi 0, vi (wr (1 + m11)), vi 1, vi 0, vi m13])] ?_ ?_
        · as_aux_lemma => kernel_rfl
        refine HKEEP (js := [0, 0]) rfl (HEND ?_ ?_)
        · as_aux_lemma => kernel_rfl
        refine IMPORT (L0 := [(51, [.slice r_seats_a r.seats.length r_seats_c, vi r.tiers, vi r.room, vi r.size, vi r.period, vi r.window, vi r.rest, vi r.tries, vi r.crew]), (80, [vi 0, vi 0, vi 0, vi 0, vi 0, vi 0, vi 0, vi 0, vi 0, vi 0])]) (L1 := [(80, [vi (wr (1 + m3)), vi m5, vi (-1), vi (wr (1 + m7)), vi m9, vi 0, vi (wr (1 + m11)), vi 1, vi 0, vi m13])]) [b1, b2] rfl [0, 0] _ rfl [(0, .v (p)), (2, I now), (4, .p 0 0), (6, .p 1 0), (7, .p 2 0)] ?_ ?_ ?_
        iterate 2 (as_aux_lemma => kernel_rfl)
        refine JBACK (wr (1 + m3), m5, wr (1 + m7), m9, wr (1 + m11), m13) [0, 2, 4, 6, 7] 3 [0] _ trivial ?_ rfl rfl rfl
        · as_aux_lemma => kernel_rfl
       ·
        refine RUNO [(0, .v (p)), (2, I now), (4, .e (some ⟨b1, 0, none⟩) 0 0), (6, .e (some ⟨b2, 0, none⟩) 0 0), (7, .p 0 0), (10, I (wr (1 + m3))), (15, I m5), (20, I (wr (1 + m7))), (24, I m9), (27, I (wr (1 + m11))), (28, .v (p)), (30, I r.tries)] [(80, [vi 0, vi 0, vi 0, vi 0, vi 0, vi 0, vi 0, vi 0, vi 0, vi 0])] ?_ ?_
        · as_aux_lemma => kernel_rfl
        refine HKEEP (js := [0, 0]) rfl (HALL [23] ?_ (by decide) ?_)
        · as_aux_lemma => kernel_rfl
        refine CALL 29 #[p, vi r.tries] (some 31) ?_ [2] [curA (d) p] _ rfl (⟨{x : Int // 0 ≤ x ∧ (r.tries ≤ 0 → x = 0) ∧ (0 < r.tries → x < r.tries)}, fun q => vi q.1, fun q => [curA (d) p]⟩) (fun w hw => l1Below_c w (d) (hd.fr hw.fr hS) p r.tries) (NO rfl) ?_
        · as_aux_lemma => kernel_rfl
        rintro ⟨m15, hm16⟩
        try dsimp only at hm16
        refine HKEEP (js := [0, 0]) rfl (HPURE (js := [0, 0]) 24 [(0, .v (p)), (2, I now), (4, .e (some ⟨b1, 0, none⟩) 0 0), (6, .e (some ⟨b2, 0, none⟩) 0 0), (7, .p 0 0), (32, .v (.agg #[vi (wr (1 + m3)), vi m5, vi (-1), vi (wr (1 + m7)), vi m9, vi 0, vi (wr (1 + m11)), vi 1, vi 0, vi m15]))] ?_ ?_ rfl ?_)
        iterate 2 (as_aux_lemma => kernel_rfl)
        refine HALL [26] ?_ (by decide) ?_
        · as_aux_lemma => kernel_rfl
        refine RUNO [(0, .v (p)), (2, I now), (4, .e (some ⟨b1, 0, none⟩) 0 0), (6, .e (some ⟨b2, 0, none⟩) 0 0), (7, .p 0 0)] [(80, [vi (wr (1 + m3)), vi m5, vi (-1), vi (wr (1 + m7)), vi m9, vi 0, vi (wr (1 + m11)), vi 1, vi 0, vi m15])] ?_ ?_
        · as_aux_lemma => kernel_rfl
        refine HKEEP (js := [0, 0]) rfl (HEND ?_ ?_)
        · as_aux_lemma => kernel_rfl
        refine IMPORT (L0 := [(51, [.slice r_seats_a r.seats.length r_seats_c, vi r.tiers, vi r.room, vi r.size, vi r.period, vi r.window, vi r.rest, vi r.tries, vi r.crew]), (80, [vi 0, vi 0, vi 0, vi 0, vi 0, vi 0, vi 0, vi 0, vi 0, vi 0])]) (L1 := [(80, [vi (wr (1 + m3)), vi m5, vi (-1), vi (wr (1 + m7)), vi m9, vi 0, vi (wr (1 + m11)), vi 1, vi 0, vi m15])]) [b1, b2] rfl [0, 0] _ rfl [(0, .v (p)), (2, I now), (4, .p 0 0), (6, .p 1 0), (7, .p 2 0)] ?_ ?_ ?_
        iterate 2 (as_aux_lemma => kernel_rfl)
        refine JBACK (wr (1 + m3), m5, wr (1 + m7), m9, wr (1 + m11), m15) [0, 2, 4, 6, 7] 3 [0] _ trivial ?_ rfl rfl rfl
        · as_aux_lemma => kernel_rfl
      ·
       refine RUNO [(0, .v (p)), (2, I now), (4, .e (some ⟨b1, 0, none⟩) 0 0), (6, .e (some ⟨b2, 0, none⟩) 0 0), (7, .p 0 0), (10, I (wr (1 + m3))), (15, I m5), (20, I (wr (1 + m7))), (24, I m9), (25, .v (p)), (28, .v (p)), (30, I r.tries)] [(80, [vi 0, vi 0, vi 0, vi 0, vi 0, vi 0, vi 0, vi 0, vi 0, vi 0])] ?_ ?_
       · as_aux_lemma => kernel_rfl
       refine HKEEP (js := [0, 0]) rfl (HALL [18] ?_ (by decide) ?_)
       · as_aux_lemma => kernel_rfl
       refine CALL 29 #[p, vi 40] (some 26) ?_ [2] [curA (d) p] _ rfl (⟨{x : Int // 0 ≤ x ∧ (40 ≤ 0 → x = 0) ∧ (0 < 40 → x < 40)}, fun q => vi q.1, fun q => [curA (d) p]⟩) (fun w hw => l1Below_c w (d) (hd.fr hw.fr hS) p 40) (NO rfl) ?_
       · as_aux_lemma => kernel_rfl
       rintro ⟨m17, hm18⟩
       try dsimp only at hm18
       refine HKEEP (js := [0, 0]) rfl (HPURE (js := [0, 0]) 19 [(0, .v (p)), (2, I now), (4, .e (some ⟨b1, 0, none⟩) 0 0), (6, .e (some ⟨b2, 0, none⟩) 0 0), (7, .p 0 0), (10, I (wr (1 + m3))), (15, I m5), (20, I (wr (1 + m7))), (24, I m9), (27, I (wr (1 + m17))), (28, .v (p)), (30, I r.tries)] ?_ ?_ rfl ?_)
       iterate 2 (as_aux_lemma => kernel_rfl)
       refine HALL [23] ?_ (by decide) ?_
       · as_aux_lemma => kernel_rfl
       refine CALL 29 #[p, vi r.tries] (some 31) ?_ [2] [curA (d) p] _ rfl (⟨{x : Int // 0 ≤ x ∧ (r.tries ≤ 0 → x = 0) ∧ (0 < r.tries → x < r.tries)}, fun q => vi q.1, fun q => [curA (d) p]⟩) (fun w hw => l1Below_c w (d) (hd.fr hw.fr hS) p r.tries) (NO rfl) ?_
       · as_aux_lemma => kernel_rfl
       rintro ⟨m19, hm20⟩
       try dsimp only at hm20
       refine HKEEP (js := [0, 0]) rfl (HPURE (js := [0, 0]) 24 [(0, .v (p)), (2, I now), (4, .e (some ⟨b1, 0, none⟩) 0 0), (6, .e (some ⟨b2, 0, none⟩) 0 0), (7, .p 0 0), (32, .v (.agg #[vi (wr (1 + m3)), vi m5, vi (-1), vi (wr (1 + m7)), vi m9, vi 0, vi (wr (1 + m17)), vi 1, vi 0, vi m19]))] ?_ ?_ rfl ?_)
       iterate 2 (as_aux_lemma => kernel_rfl)
       refine HALL [26] ?_ (by decide) ?_
       · as_aux_lemma => kernel_rfl
       refine RUNO [(0, .v (p)), (2, I now), (4, .e (some ⟨b1, 0, none⟩) 0 0), (6, .e (some ⟨b2, 0, none⟩) 0 0), (7, .p 0 0)] [(80, [vi (wr (1 + m3)), vi m5, vi (-1), vi (wr (1 + m7)), vi m9, vi 0, vi (wr (1 + m17)), vi 1, vi 0, vi m19])] ?_ ?_
       · as_aux_lemma => kernel_rfl
       refine HKEEP (js := [0, 0]) rfl (HEND ?_ ?_)
       · as_aux_lemma => kernel_rfl
       refine IMPORT (L0 := [(51, [.slice r_seats_a r.seats.length r_seats_c, vi r.tiers, vi r.room, vi r.size, vi r.period, vi r.window, vi r.rest, vi r.tries, vi r.crew]), (80, [vi 0, vi 0, vi 0, vi 0, vi 0, vi 0, vi 0, vi 0, vi 0, vi 0])]) (L1 := [(80, [vi (wr (1 + m3)), vi m5, vi (-1), vi (wr (1 + m7)), vi m9, vi 0, vi (wr (1 + m17)), vi 1, vi 0, vi m19])]) [b1, b2] rfl [0, 0] _ rfl [(0, .v (p)), (2, I now), (4, .p 0 0), (6, .p 1 0), (7, .p 2 0)] ?_ ?_ ?_
       iterate 2 (as_aux_lemma => kernel_rfl)
       refine JBACK (wr (1 + m3), m5, wr (1 + m7), m9, wr (1 + m17), m19) [0, 2, 4, 6, 7] 3 [0] _ trivial ?_ rfl rfl rfl
       · as_aux_lemma => kernel_rfl
     ·
      refine RUNO [(0, .v (p)), (2, I now), (4, .e (some ⟨b1, 0, none⟩) 0 0), (6, .e (some ⟨b2, 0, none⟩) 0 0), (7, .p 0 0), (10, I (wr (1 + m3))), (15, I m5), (20, I (wr (1 + m7))), (21, .v (p)), (23, I r.tiers), (25, .v (p)), (28, .v (p)), (30, I r.tries)] [(80, [vi 0, vi 0, vi 0, vi 0, vi 0, vi 0, vi 0, vi 0, vi 0, vi 0])] ?_ ?_
      · as_aux_lemma => kernel_rfl
      refine HKEEP (js := [0, 0]) rfl (HALL [16] ?_ (by decide) ?_)
      · as_aux_lemma => kernel_rfl
      refine CALL 29 #[p, vi r.tiers] (some 24) ?_ [2] [curA (d) p] _ rfl (⟨{x : Int // 0 ≤ x ∧ (r.tiers ≤ 0 → x = 0) ∧ (0 < r.tiers → x < r.tiers)}, fun q => vi q.1, fun q => [curA (d) p]⟩) (fun w hw => l1Below_c w (d) (hd.fr hw.fr hS) p r.tiers) (NO rfl) ?_
      · as_aux_lemma => kernel_rfl
      rintro ⟨m21, hm22⟩
      try dsimp only at hm22
      refine HKEEP (js := [0, 0]) rfl (HALL [18] ?_ (by decide) ?_)
      · as_aux_lemma => kernel_rfl
      refine CALL 29 #[p, vi 40] (some 26) ?_ [2] [curA (d) p] _ rfl (⟨{x : Int // 0 ≤ x ∧ (40 ≤ 0 → x = 0) ∧ (0 < 40 → x < 40)}, fun q => vi q.1, fun q => [curA (d) p]⟩) (fun w hw => l1Below_c w (d) (hd.fr hw.fr hS) p 40) (NO rfl) ?_
      · as_aux_lemma => kernel_rfl
      rintro ⟨m23, hm24⟩
      try dsimp only at hm24
      refine HKEEP (js := [0, 0]) rfl (HPURE (js := [0, 0]) 19 [(0, .v (p)), (2, I now), (4, .e (some ⟨b1, 0, none⟩) 0 0), (6, .e (some ⟨b2, 0, none⟩) 0 0), (7, .p 0 0), (10, I (wr (1 + m3))), (15, I m5), (20, I (wr (1 + m7))), (24, I m21), (27, I (wr (1 + m23))), (28, .v (p)), (30, I r.tries)] ?_ ?_ rfl ?_)
      iterate 2 (as_aux_lemma => kernel_rfl)
      refine HALL [23] ?_ (by decide) ?_
      · as_aux_lemma => kernel_rfl
      refine CALL 29 #[p, vi r.tries] (some 31) ?_ [2] [curA (d) p] _ rfl (⟨{x : Int // 0 ≤ x ∧ (r.tries ≤ 0 → x = 0) ∧ (0 < r.tries → x < r.tries)}, fun q => vi q.1, fun q => [curA (d) p]⟩) (fun w hw => l1Below_c w (d) (hd.fr hw.fr hS) p r.tries) (NO rfl) ?_
      · as_aux_lemma => kernel_rfl
      rintro ⟨m25, hm26⟩
      try dsimp only at hm26
      refine HKEEP (js := [0, 0]) rfl (HPURE (js := [0, 0]) 24 [(0, .v (p)), (2, I now), (4, .e (some ⟨b1, 0, none⟩) 0 0), (6, .e (some ⟨b2, 0, none⟩) 0 0), (7, .p 0 0), (32, .v (.agg #[vi (wr (1 + m3)), vi m5, vi (-1), vi (wr (1 + m7)), vi m21, vi 0, vi (wr (1 + m23)), vi 1, vi 0, vi m25]))] ?_ ?_ rfl ?_)
      iterate 2 (as_aux_lemma => kernel_rfl)
      refine HALL [26] ?_ (by decide) ?_
      · as_aux_lemma => kernel_rfl
      refine RUNO [(0, .v (p)), (2, I now), (4, .e (some ⟨b1, 0, none⟩) 0 0), (6, .e (some ⟨b2, 0, none⟩) 0 0), (7, .p 0 0)] [(80, [vi (wr (1 + m3)), vi m5, vi (-1), vi (wr (1 + m7)), vi m21, vi 0, vi (wr (1 + m23)), vi 1, vi 0, vi m25])] ?_ ?_
      · as_aux_lemma => kernel_rfl
      refine HKEEP (js := [0, 0]) rfl (HEND ?_ ?_)
      · as_aux_lemma => kernel_rfl
      refine IMPORT (L0 := [(51, [.slice r_seats_a r.seats.length r_seats_c, vi r.tiers, vi r.room, vi r.size, vi r.period, vi r.window, vi r.rest, vi r.tries, vi r.crew]), (80, [vi 0, vi 0, vi 0, vi 0, vi 0, vi 0, vi 0, vi 0, vi 0, vi 0])]) (L1 := [(80, [vi (wr (1 + m3)), vi m5, vi (-1), vi (wr (1 + m7)), vi m21, vi 0, vi (wr (1 + m23)), vi 1, vi 0, vi m25])]) [b1, b2] rfl [0, 0] _ rfl [(0, .v (p)), (2, I now), (4, .p 0 0), (6, .p 1 0), (7, .p 2 0)] ?_ ?_ ?_
      iterate 2 (as_aux_lemma => kernel_rfl)
      refine JBACK (wr (1 + m3), m5, wr (1 + m7), m21, wr (1 + m23), m25) [0, 2, 4, 6, 7] 3 [0] _ trivial ?_ rfl rfl rfl
      · as_aux_lemma => kernel_rfl
    ·
     refine RUNO [(0, .v (p)), (2, I now), (4, .e (some ⟨b1, 0, none⟩) 0 0), (6, .e (some ⟨b2, 0, none⟩) 0 0), (7, .p 0 0), (10, I (wr (1 + m3))), (15, I m5), (16, .v (p)), (18, I r.size), (21, .v (p)), (23, I r.tiers), (25, .v (p)), (28, .v (p)), (30, I r.tries)] [(80, [vi 0, vi 0, vi 0, vi 0, vi 0, vi 0, vi 0, vi 0, vi 0, vi 0])] ?_ ?_
     · as_aux_lemma => kernel_rfl
     refine HKEEP (js := [0, 0]) rfl (HALL [11] ?_ (by decide) ?_)
     · as_aux_lemma => kernel_rfl
     refine CALL 29 #[p, vi r.size] (some 19) ?_ [2] [curA (d) p] _ rfl (⟨{x : Int // 0 ≤ x ∧ (r.size ≤ 0 → x = 0) ∧ (0 < r.size → x < r.size)}, fun q => vi q.1, fun q => [curA (d) p]⟩) (fun w hw => l1Below_c w (d) (hd.fr hw.fr hS) p r.size) (NO rfl) ?_
     · as_aux_lemma => kernel_rfl
     rintro ⟨m27, hm28⟩
     try dsimp only at hm28
     refine HKEEP (js := [0, 0]) rfl (HPURE (js := [0, 0]) 12 [(0, .v (p)), (2, I now), (4, .e (some ⟨b1, 0, none⟩) 0 0), (6, .e (some ⟨b2, 0, none⟩) 0 0), (7, .p 0 0), (10, I (wr (1 + m3))), (15, I m5), (20, I (wr (1 + m27))), (21, .v (p)), (23, I r.tiers), (25, .v (p)), (28, .v (p)), (30, I r.tries)] ?_ ?_ rfl ?_)
     iterate 2 (as_aux_lemma => kernel_rfl)
     refine HALL [16] ?_ (by decide) ?_
     · as_aux_lemma => kernel_rfl
     refine CALL 29 #[p, vi r.tiers] (some 24) ?_ [2] [curA (d) p] _ rfl (⟨{x : Int // 0 ≤ x ∧ (r.tiers ≤ 0 → x = 0) ∧ (0 < r.tiers → x < r.tiers)}, fun q => vi q.1, fun q => [curA (d) p]⟩) (fun w hw => l1Below_c w (d) (hd.fr hw.fr hS) p r.tiers) (NO rfl) ?_
     · as_aux_lemma => kernel_rfl
     rintro ⟨m29, hm30⟩
     try dsimp only at hm30
     refine HKEEP (js := [0, 0]) rfl (HALL [18] ?_ (by decide) ?_)
     · as_aux_lemma => kernel_rfl
     refine CALL 29 #[p, vi 40] (some 26) ?_ [2] [curA (d) p] _ rfl (⟨{x : Int // 0 ≤ x ∧ (40 ≤ 0 → x = 0) ∧ (0 < 40 → x < 40)}, fun q => vi q.1, fun q => [curA (d) p]⟩) (fun w hw => l1Below_c w (d) (hd.fr hw.fr hS) p 40) (NO rfl) ?_
     · as_aux_lemma => kernel_rfl
     rintro ⟨m31, hm32⟩
     try dsimp only at hm32
     refine HKEEP (js := [0, 0]) rfl (HPURE (js := [0, 0]) 19 [(0, .v (p)), (2, I now), (4, .e (some ⟨b1, 0, none⟩) 0 0), (6, .e (some ⟨b2, 0, none⟩) 0 0), (7, .p 0 0), (10, I (wr (1 + m3))), (15, I m5), (20, I (wr (1 + m27))), (24, I m29), (27, I (wr (1 + m31))), (28, .v (p)), (30, I r.tries)] ?_ ?_ rfl ?_)
     iterate 2 (as_aux_lemma => kernel_rfl)
     refine HALL [23] ?_ (by decide) ?_
     · as_aux_lemma => kernel_rfl
     refine CALL 29 #[p, vi r.tries] (some 31) ?_ [2] [curA (d) p] _ rfl (⟨{x : Int // 0 ≤ x ∧ (r.tries ≤ 0 → x = 0) ∧ (0 < r.tries → x < r.tries)}, fun q => vi q.1, fun q => [curA (d) p]⟩) (fun w hw => l1Below_c w (d) (hd.fr hw.fr hS) p r.tries) (NO rfl) ?_
     · as_aux_lemma => kernel_rfl
     rintro ⟨m33, hm34⟩
     try dsimp only at hm34
     refine HKEEP (js := [0, 0]) rfl (HPURE (js := [0, 0]) 24 [(0, .v (p)), (2, I now), (4, .e (some ⟨b1, 0, none⟩) 0 0), (6, .e (some ⟨b2, 0, none⟩) 0 0), (7, .p 0 0), (32, .v (.agg #[vi (wr (1 + m3)), vi m5, vi (-1), vi (wr (1 + m27)), vi m29, vi 0, vi (wr (1 + m31)), vi 1, vi 0, vi m33]))] ?_ ?_ rfl ?_)
     iterate 2 (as_aux_lemma => kernel_rfl)
     refine HALL [26] ?_ (by decide) ?_
     · as_aux_lemma => kernel_rfl
     refine RUNO [(0, .v (p)), (2, I now), (4, .e (some ⟨b1, 0, none⟩) 0 0), (6, .e (some ⟨b2, 0, none⟩) 0 0), (7, .p 0 0)] [(80, [vi (wr (1 + m3)), vi m5, vi (-1), vi (wr (1 + m27)), vi m29, vi 0, vi (wr (1 + m31)), vi 1, vi 0, vi m33])] ?_ ?_
     · as_aux_lemma => kernel_rfl
     refine HKEEP (js := [0, 0]) rfl (HEND ?_ ?_)
     · as_aux_lemma => kernel_rfl
     refine IMPORT (L0 := [(51, [.slice r_seats_a r.seats.length r_seats_c, vi r.tiers, vi r.room, vi r.size, vi r.period, vi r.window, vi r.rest, vi r.tries, vi r.crew]), (80, [vi 0, vi 0, vi 0, vi 0, vi 0, vi 0, vi 0, vi 0, vi 0, vi 0])]) (L1 := [(80, [vi (wr (1 + m3)), vi m5, vi (-1), vi (wr (1 + m27)), vi m29, vi 0, vi (wr (1 + m31)), vi 1, vi 0, vi m33])]) [b1, b2] rfl [0, 0] _ rfl [(0, .v (p)), (2, I now), (4, .p 0 0), (6, .p 1 0), (7, .p 2 0)] ?_ ?_ ?_
     iterate 2 (as_aux_lemma => kernel_rfl)
     refine JBACK (wr (1 + m3), m5, wr (1 + m27), m29, wr (1 + m31), m33) [0, 2, 4, 6, 7] 3 [0] _ trivial ?_ rfl rfl rfl
     · as_aux_lemma => kernel_rfl
   ·
    refine RUNO [(0, .v (p)), (2, I now), (4, .e (some ⟨b1, 0, none⟩) 0 0), (6, .e (some ⟨b2, 0, none⟩) 0 0), (7, .p 0 0), (10, I (wr (1 + m3))), (11, .v (p)), (14, I (r.seats.length : Int)), (16, .v (p)), (18, I r.size), (21, .v (p)), (23, I r.tiers), (25, .v (p)), (28, .v (p)), (30, I r.tries)] [(80, [vi 0, vi 0, vi 0, vi 0, vi 0, vi 0, vi 0, vi 0, vi 0, vi 0])] ?_ ?_
    · as_aux_lemma => kernel_rfl
    refine HKEEP (js := [0, 0]) rfl (HALL [7] ?_ (by decide) ?_)
    · as_aux_lemma => kernel_rfl
    refine CALL 29 #[p, vi (r.seats.length : Int)] (some 15) ?_ [2] [curA (d) p] _ rfl (⟨{x : Int // 0 ≤ x ∧ ((r.seats.length : Int) ≤ 0 → x = 0) ∧ (0 < (r.seats.length : Int) → x < (r.seats.length : Int))}, fun q => vi q.1, fun q => [curA (d) p]⟩) (fun w hw => l1Below_c w (d) (hd.fr hw.fr hS) p (r.seats.length : Int)) (NO rfl) ?_
    · as_aux_lemma => kernel_rfl
    rintro ⟨m35, hm36⟩
    try dsimp only at hm36
    refine HKEEP (js := [0, 0]) rfl (HALL [11] ?_ (by decide) ?_)
    · as_aux_lemma => kernel_rfl
    refine CALL 29 #[p, vi r.size] (some 19) ?_ [2] [curA (d) p] _ rfl (⟨{x : Int // 0 ≤ x ∧ (r.size ≤ 0 → x = 0) ∧ (0 < r.size → x < r.size)}, fun q => vi q.1, fun q => [curA (d) p]⟩) (fun w hw => l1Below_c w (d) (hd.fr hw.fr hS) p r.size) (NO rfl) ?_
    · as_aux_lemma => kernel_rfl
    rintro ⟨m37, hm38⟩
    try dsimp only at hm38
    refine HKEEP (js := [0, 0]) rfl (HPURE (js := [0, 0]) 12 [(0, .v (p)), (2, I now), (4, .e (some ⟨b1, 0, none⟩) 0 0), (6, .e (some ⟨b2, 0, none⟩) 0 0), (7, .p 0 0), (10, I (wr (1 + m3))), (15, I m35), (20, I (wr (1 + m37))), (21, .v (p)), (23, I r.tiers), (25, .v (p)), (28, .v (p)), (30, I r.tries)] ?_ ?_ rfl ?_)
    iterate 2 (as_aux_lemma => kernel_rfl)
    refine HALL [16] ?_ (by decide) ?_
    · as_aux_lemma => kernel_rfl
    refine CALL 29 #[p, vi r.tiers] (some 24) ?_ [2] [curA (d) p] _ rfl (⟨{x : Int // 0 ≤ x ∧ (r.tiers ≤ 0 → x = 0) ∧ (0 < r.tiers → x < r.tiers)}, fun q => vi q.1, fun q => [curA (d) p]⟩) (fun w hw => l1Below_c w (d) (hd.fr hw.fr hS) p r.tiers) (NO rfl) ?_
    · as_aux_lemma => kernel_rfl
    rintro ⟨m39, hm40⟩
    try dsimp only at hm40
    refine HKEEP (js := [0, 0]) rfl (HALL [18] ?_ (by decide) ?_)
    · as_aux_lemma => kernel_rfl
    refine CALL 29 #[p, vi 40] (some 26) ?_ [2] [curA (d) p] _ rfl (⟨{x : Int // 0 ≤ x ∧ (40 ≤ 0 → x = 0) ∧ (0 < 40 → x < 40)}, fun q => vi q.1, fun q => [curA (d) p]⟩) (fun w hw => l1Below_c w (d) (hd.fr hw.fr hS) p 40) (NO rfl) ?_
    · as_aux_lemma => kernel_rfl
    rintro ⟨m41, hm42⟩
    try dsimp only at hm42
    refine HKEEP (js := [0, 0]) rfl (HPURE (js := [0, 0]) 19 [(0, .v (p)), (2, I now), (4, .e (some ⟨b1, 0, none⟩) 0 0), (6, .e (some ⟨b2, 0, none⟩) 0 0), (7, .p 0 0), (10, I (wr (1 + m3))), (15, I m35), (20, I (wr (1 + m37))), (24, I m39), (27, I (wr (1 + m41))), (28, .v (p)), (30, I r.tries)] ?_ ?_ rfl ?_)
    iterate 2 (as_aux_lemma => kernel_rfl)
    refine HALL [23] ?_ (by decide) ?_
    · as_aux_lemma => kernel_rfl
    refine CALL 29 #[p, vi r.tries] (some 31) ?_ [2] [curA (d) p] _ rfl (⟨{x : Int // 0 ≤ x ∧ (r.tries ≤ 0 → x = 0) ∧ (0 < r.tries → x < r.tries)}, fun q => vi q.1, fun q => [curA (d) p]⟩) (fun w hw => l1Below_c w (d) (hd.fr hw.fr hS) p r.tries) (NO rfl) ?_
    · as_aux_lemma => kernel_rfl
    rintro ⟨m43, hm44⟩
    try dsimp only at hm44
    refine HKEEP (js := [0, 0]) rfl (HPURE (js := [0, 0]) 24 [(0, .v (p)), (2, I now), (4, .e (some ⟨b1, 0, none⟩) 0 0), (6, .e (some ⟨b2, 0, none⟩) 0 0), (7, .p 0 0), (32, .v (.agg #[vi (wr (1 + m3)), vi m35, vi (-1), vi (wr (1 + m37)), vi m39, vi 0, vi (wr (1 + m41)), vi 1, vi 0, vi m43]))] ?_ ?_ rfl ?_)
    iterate 2 (as_aux_lemma => kernel_rfl)
    refine HALL [26] ?_ (by decide) ?_
    · as_aux_lemma => kernel_rfl
    refine RUNO [(0, .v (p)), (2, I now), (4, .e (some ⟨b1, 0, none⟩) 0 0), (6, .e (some ⟨b2, 0, none⟩) 0 0), (7, .p 0 0)] [(80, [vi (wr (1 + m3)), vi m35, vi (-1), vi (wr (1 + m37)), vi m39, vi 0, vi (wr (1 + m41)), vi 1, vi 0, vi m43])] ?_ ?_
    · as_aux_lemma => kernel_rfl
    refine HKEEP (js := [0, 0]) rfl (HEND ?_ ?_)
    · as_aux_lemma => kernel_rfl
    refine IMPORT (L0 := [(51, [.slice r_seats_a r.seats.length r_seats_c, vi r.tiers, vi r.room, vi r.size, vi r.period, vi r.window, vi r.rest, vi r.tries, vi r.crew]), (80, [vi 0, vi 0, vi 0, vi 0, vi 0, vi 0, vi 0, vi 0, vi 0, vi 0])]) (L1 := [(80, [vi (wr (1 + m3)), vi m35, vi (-1), vi (wr (1 + m37)), vi m39, vi 0, vi (wr (1 + m41)), vi 1, vi 0, vi m43])]) [b1, b2] rfl [0, 0] _ rfl [(0, .v (p)), (2, I now), (4, .p 0 0), (6, .p 1 0), (7, .p 2 0)] ?_ ?_ ?_
    iterate 2 (as_aux_lemma => kernel_rfl)
    refine JBACK (wr (1 + m3), m35, wr (1 + m37), m39, wr (1 + m41), m43) [0, 2, 4, 6, 7] 3 [0] _ trivial ?_ rfl rfl rfl
    · as_aux_lemma => kernel_rfl
  ·
   refine RUNO [(0, .v (p)), (2, I now), (4, .e (some ⟨b1, 0, none⟩) 0 0), (6, .e (some ⟨b2, 0, none⟩) 0 0), (7, .p 0 0), (8, .v (p)), (11, .v (p)), (14, I (r.seats.length : Int)), (16, .v (p)), (18, I r.size), (21, .v (p)), (23, I r.tiers), (25, .v (p)), (28, .v (p)), (30, I r.tries)] [(80, [vi 0, vi 0, vi 0, vi 0, vi 0, vi 0, vi 0, vi 0, vi 0, vi 0])] ?_ ?_
   · as_aux_lemma => kernel_rfl
   refine HKEEP (js := [0, 0]) rfl (HALL [1] ?_ (by decide) ?_)
   · as_aux_lemma => kernel_rfl
   refine CALL 29 #[p, vi 12] (some 9) ?_ [2] [curA (d) p] _ rfl (⟨{x : Int // 0 ≤ x ∧ (12 ≤ 0 → x = 0) ∧ (0 < 12 → x < 12)}, fun q => vi q.1, fun q => [curA (d) p]⟩) (fun w hw => l1Below_c w (d) (hd.fr hw.fr hS) p 12) (NO rfl) ?_
   · as_aux_lemma => kernel_rfl
   rintro ⟨m45, hm46⟩
   try dsimp only at hm46
   refine HKEEP (js := [0, 0]) rfl (HPURE (js := [0, 0]) 2 [(0, .v (p)), (2, I now), (4, .e (some ⟨b1, 0, none⟩) 0 0), (6, .e (some ⟨b2, 0, none⟩) 0 0), (7, .p 0 0), (10, I (wr (1 + m45))), (11, .v (p)), (14, I (r.seats.length : Int)), (16, .v (p)), (18, I r.size), (21, .v (p)), (23, I r.tiers), (25, .v (p)), (28, .v (p)), (30, I r.tries)] ?_ ?_ rfl ?_)
   iterate 2 (as_aux_lemma => kernel_rfl)
   refine HALL [7] ?_ (by decide) ?_
   · as_aux_lemma => kernel_rfl
   refine CALL 29 #[p, vi (r.seats.length : Int)] (some 15) ?_ [2] [curA (d) p] _ rfl (⟨{x : Int // 0 ≤ x ∧ ((r.seats.length : Int) ≤ 0 → x = 0) ∧ (0 < (r.seats.length : Int) → x < (r.seats.length : Int))}, fun q => vi q.1, fun q => [curA (d) p]⟩) (fun w hw => l1Below_c w (d) (hd.fr hw.fr hS) p (r.seats.length : Int)) (NO rfl) ?_
   · as_aux_lemma => kernel_rfl
   rintro ⟨m47, hm48⟩
   try dsimp only at hm48
   refine HKEEP (js := [0, 0]) rfl (HALL [11] ?_ (by decide) ?_)
   · as_aux_lemma => kernel_rfl
   refine CALL 29 #[p, vi r.size] (some 19) ?_ [2] [curA (d) p] _ rfl (⟨{x : Int // 0 ≤ x ∧ (r.size ≤ 0 → x = 0) ∧ (0 < r.size → x < r.size)}, fun q => vi q.1, fun q => [curA (d) p]⟩) (fun w hw => l1Below_c w (d) (hd.fr hw.fr hS) p r.size) (NO rfl) ?_
   · as_aux_lemma => kernel_rfl
   rintro ⟨m49, hm50⟩
   try dsimp only at hm50
   refine HKEEP (js := [0, 0]) rfl (HPURE (js := [0, 0]) 12 [(0, .v (p)), (2, I now), (4, .e (some ⟨b1, 0, none⟩) 0 0), (6, .e (some ⟨b2, 0, none⟩) 0 0), (7, .p 0 0), (10, I (wr (1 + m45))), (15, I m47), (20, I (wr (1 + m49))), (21, .v (p)), (23, I r.tiers), (25, .v (p)), (28, .v (p)), (30, I r.tries)] ?_ ?_ rfl ?_)
   iterate 2 (as_aux_lemma => kernel_rfl)
   refine HALL [16] ?_ (by decide) ?_
   · as_aux_lemma => kernel_rfl
   refine CALL 29 #[p, vi r.tiers] (some 24) ?_ [2] [curA (d) p] _ rfl (⟨{x : Int // 0 ≤ x ∧ (r.tiers ≤ 0 → x = 0) ∧ (0 < r.tiers → x < r.tiers)}, fun q => vi q.1, fun q => [curA (d) p]⟩) (fun w hw => l1Below_c w (d) (hd.fr hw.fr hS) p r.tiers) (NO rfl) ?_
   · as_aux_lemma => kernel_rfl
   rintro ⟨m51, hm52⟩
   try dsimp only at hm52
   refine HKEEP (js := [0, 0]) rfl (HALL [18] ?_ (by decide) ?_)
   · as_aux_lemma => kernel_rfl
   refine CALL 29 #[p, vi 40] (some 26) ?_ [2] [curA (d) p] _ rfl (⟨{x : Int // 0 ≤ x ∧ (40 ≤ 0 → x = 0) ∧ (0 < 40 → x < 40)}, fun q => vi q.1, fun q => [curA (d) p]⟩) (fun w hw => l1Below_c w (d) (hd.fr hw.fr hS) p 40) (NO rfl) ?_
   · as_aux_lemma => kernel_rfl
   rintro ⟨m53, hm54⟩
   try dsimp only at hm54
   refine HKEEP (js := [0, 0]) rfl (HPURE (js := [0, 0]) 19 [(0, .v (p)), (2, I now), (4, .e (some ⟨b1, 0, none⟩) 0 0), (6, .e (some ⟨b2, 0, none⟩) 0 0), (7, .p 0 0), (10, I (wr (1 + m45))), (15, I m47), (20, I (wr (1 + m49))), (24, I m51), (27, I (wr (1 + m53))), (28, .v (p)), (30, I r.tries)] ?_ ?_ rfl ?_)
   iterate 2 (as_aux_lemma => kernel_rfl)
   refine HALL [23] ?_ (by decide) ?_
   · as_aux_lemma => kernel_rfl
   refine CALL 29 #[p, vi r.tries] (some 31) ?_ [2] [curA (d) p] _ rfl (⟨{x : Int // 0 ≤ x ∧ (r.tries ≤ 0 → x = 0) ∧ (0 < r.tries → x < r.tries)}, fun q => vi q.1, fun q => [curA (d) p]⟩) (fun w hw => l1Below_c w (d) (hd.fr hw.fr hS) p r.tries) (NO rfl) ?_
   · as_aux_lemma => kernel_rfl
   rintro ⟨m55, hm56⟩
   try dsimp only at hm56
   refine HKEEP (js := [0, 0]) rfl (HPURE (js := [0, 0]) 24 [(0, .v (p)), (2, I now), (4, .e (some ⟨b1, 0, none⟩) 0 0), (6, .e (some ⟨b2, 0, none⟩) 0 0), (7, .p 0 0), (32, .v (.agg #[vi (wr (1 + m45)), vi m47, vi (-1), vi (wr (1 + m49)), vi m51, vi 0, vi (wr (1 + m53)), vi 1, vi 0, vi m55]))] ?_ ?_ rfl ?_)
   iterate 2 (as_aux_lemma => kernel_rfl)
   refine HALL [26] ?_ (by decide) ?_
   · as_aux_lemma => kernel_rfl
   refine RUNO [(0, .v (p)), (2, I now), (4, .e (some ⟨b1, 0, none⟩) 0 0), (6, .e (some ⟨b2, 0, none⟩) 0 0), (7, .p 0 0)] [(80, [vi (wr (1 + m45)), vi m47, vi (-1), vi (wr (1 + m49)), vi m51, vi 0, vi (wr (1 + m53)), vi 1, vi 0, vi m55])] ?_ ?_
   · as_aux_lemma => kernel_rfl
   refine HKEEP (js := [0, 0]) rfl (HEND ?_ ?_)
   · as_aux_lemma => kernel_rfl
   refine IMPORT (L0 := [(51, [.slice r_seats_a r.seats.length r_seats_c, vi r.tiers, vi r.room, vi r.size, vi r.period, vi r.window, vi r.rest, vi r.tries, vi r.crew]), (80, [vi 0, vi 0, vi 0, vi 0, vi 0, vi 0, vi 0, vi 0, vi 0, vi 0])]) (L1 := [(80, [vi (wr (1 + m45)), vi m47, vi (-1), vi (wr (1 + m49)), vi m51, vi 0, vi (wr (1 + m53)), vi 1, vi 0, vi m55])]) [b1, b2] rfl [0, 0] _ rfl [(0, .v (p)), (2, I now), (4, .p 0 0), (6, .p 1 0), (7, .p 2 0)] ?_ ?_ ?_
   iterate 2 (as_aux_lemma => kernel_rfl)
   refine JBACK (wr (1 + m45), m47, wr (1 + m49), m51, wr (1 + m53), m55) [0, 2, 4, 6, 7] 3 [0] _ trivial ?_ rfl rfl rfl
   · as_aux_lemma => kernel_rfl
 rintro ⟨u0, u1, u3, u4, u6, u9⟩ hi57
 try dsimp only at hi57
 refine SEQJ (ι := Int × Int × Int) (fun j => [(0, .v (p)), (4, .p 0 0), (6, .p 1 0), (7, .p 2 0)]) (fun j => [(51, [.slice r_seats_a r.seats.length r_seats_c, vi r.tiers, vi r.room, vi r.size, vi r.period, vi r.window, vi r.rest, vi r.tries, vi r.crew]), (80, [vi 0, vi 0, vi 0, vi 0, vi 0, vi 0, vi 0, vi 0, vi 0, vi 0]), (80, [vi u0, vi u1, vi (-1), vi u3, vi u4, vi j.1, vi u6, vi j.2.1, vi j.2.2, vi u9])]) (fun j => [curA d p]) (fun j => True) ?_ ?_
 ·
  refine SEQ (REGION [0, 1] rfl (RUN0 1 [1] [(0, .v (p)), (2, I now), (4, .p 0 0), (6, .p 1 0), (7, .p 2 0), (33, I now)] ?_ rfl ?_))
  · as_aux_lemma => kernel_rfl
  refine OPC (CALL 60 #[vi now, vi 0, vi 10000000] (some 34) ?_ [] [] _ rfl (RV (.bool (inB now 0 10000000))) (fun w hw => l1In_c w now 0 10000000) (NO rfl) ?_)
  · as_aux_lemma => kernel_rfl
  rintro ⟨⟩
  refine ENDOPS (NEXT (IF (inB now 0 10000000) ?_ (fun bh58 => ?_) (fun bh58 => ?_)))
  · as_aux_lemma => kernel_rfl
  ·
   have h58 := bh58
   refine SEQ (REGION [0, 1, 2, 3, 4, 5] rfl (RUN0 3 [3, 4, 5] [(0, .v (p)), (2, I now), (4, .p 0 0), (6, .p 1 0), (7, .p 2 0), (35, .v (p)), (37, I (wr (now + 1)))] ?_ rfl ?_))
   · as_aux_lemma => kernel_rfl
   refine OPC (CALL 29 #[p, vi (wr (now + 1))] (some 38) ?_ [0] [curA (d) p] _ rfl (⟨{x : Int // 0 ≤ x ∧ ((wr (now + 1)) ≤ 0 → x = 0) ∧ (0 < (wr (now + 1)) → x < (wr (now + 1)))}, fun q => vi q.1, fun q => [curA (d) p]⟩) (fun w hw => l1Below_c w (d) (hd.fr hw.fr hS) p (wr (now + 1))) (NO rfl) ?_)
   · as_aux_lemma => kernel_rfl
   rintro ⟨m59, hm60⟩
   try dsimp only at hm60
   refine RUN 2 [] [(0, .v (p)), (2, I now), (4, .p 0 0), (6, .p 1 0), (7, .p 2 0)] [(51, [.slice r_seats_a r.seats.length r_seats_c, vi r.tiers, vi r.room, vi r.size, vi r.period, vi r.window, vi r.rest, vi r.tries, vi r.crew]), (80, [vi 0, vi 0, vi 0, vi 0, vi 0, vi 0, vi 0, vi 0, vi 0, vi 0]), (80, [vi u0, vi u1, vi (-1), vi u3, vi u4, vi m59, vi u6, vi 1, vi 0, vi u9])] ?_ rfl ?_
   · as_aux_lemma => kernel_rfl
   refine ENDOPS (NEXT (SEQJ (ι := Int) (fun j => [(0, .v (p)), (2, I now), (4, .p 0 0), (6, .p 1 0), (7, .p 2 0)]) (fun j => [(51, [.slice r_seats_a r.seats.length r_seats_c, vi r.tiers, vi r.room, vi r.size, vi r.period, vi r.window, vi r.rest, vi r.tries, vi r.crew]), (80, [vi 0, vi 0, vi 0, vi 0, vi 0, vi 0, vi 0, vi 0, vi 0, vi 0]), (80, [vi u0, vi u1, vi (-1), vi u3, vi u4, vi m59, vi u6, vi 1, vi j, vi u9])]) (fun j => [curA (d) p]) (fun j => True) ?_ ?_))
   ·
    refine SEQ (REGION [0, 1] rfl (RUN0 1 [1] [(0, .v (p)), (2, I now), (4, .p 0 0), (6, .p 1 0), (7, .p 2 0), (40, .v (p))] ?_ rfl ?_))
    · as_aux_lemma => kernel_rfl
    refine OPC (CALL 23 #[p, vi 3] (some 41) ?_ [0] [curA (d) p] _ rfl (⟨{x : Bool // True}, fun q => .bool q.1, fun q => [curA (d) p]⟩) (fun w hw => l1Once_c w (d) (hd.fr hw.fr hS) p 3) (NO rfl) ?_)
    · as_aux_lemma => kernel_rfl
    rintro ⟨m61, hm62⟩
    try dsimp only at hm62
    refine ENDOPS (NEXT (IF (m61) ?_ (fun bh63 => ?_) (fun bh63 => ?_)))
    · as_aux_lemma => kernel_rfl
    ·
     have h63 := bh63
     refine REGION [0, 1, 2, 3, 4, 5, 6, 7, 8] rfl (RUN0 6 [6, 7, 8] [(0, .v (p)), (2, I now), (4, .p 0 0), (6, .p 1 0), (7, .p 2 0), (42, .v (p)), (47, I (wr ((wr (now + r.rest)) + 1)))] ?_ rfl ?_)
     · as_aux_lemma => kernel_rfl
     refine OPC (CALL 29 #[p, vi (wr ((wr (now + r.rest)) + 1))] (some 48) ?_ [0] [curA (d) p] _ rfl (⟨{x : Int // 0 ≤ x ∧ ((wr ((wr (now + r.rest)) + 1)) ≤ 0 → x = 0) ∧ (0 < (wr ((wr (now + r.rest)) + 1)) → x < (wr ((wr (now + r.rest)) + 1)))}, fun q => vi q.1, fun q => [curA (d) p]⟩) (fun w hw => l1Below_c w (d) (hd.fr hw.fr hS) p (wr ((wr (now + r.rest)) + 1))) (NO rfl) ?_)
     · as_aux_lemma => kernel_rfl
     rintro ⟨m64, hm65⟩
     try dsimp only at hm65
     refine RUN 2 [] [(0, .v (p)), (2, I now), (4, .p 0 0), (6, .p 1 0), (7, .p 2 0)] [(51, [.slice r_seats_a r.seats.length r_seats_c, vi r.tiers, vi r.room, vi r.size, vi r.period, vi r.window, vi r.rest, vi r.tries, vi r.crew]), (80, [vi 0, vi 0, vi 0, vi 0, vi 0, vi 0, vi 0, vi 0, vi 0, vi 0]), (80, [vi u0, vi u1, vi (-1), vi u3, vi u4, vi m59, vi u6, vi 1, vi m64, vi u9])] ?_ rfl ?_
     · as_aux_lemma => kernel_rfl
     refine ENDOPS (JBACK (m64) [0, 2, 4, 6, 7] 3 [0] _ trivial ?_ rfl rfl rfl)
     · as_aux_lemma => kernel_rfl
    ·
     have h63 := bh63
     refine SKIP (JBACK (0) [0, 2, 4, 6, 7] 3 [0] _ trivial ?_ rfl rfl rfl)
     · as_aux_lemma => kernel_rfl
   rintro uo hi66
   try dsimp only at hi66
   refine SEQ (REGION [0, 1] rfl (RUN0 1 [1] [(0, .v (p)), (2, I now), (4, .p 0 0), (6, .p 1 0), (7, .p 2 0), (50, .v (p))] ?_ rfl ?_))
   · as_aux_lemma => kernel_rfl
   refine OPC (CALL 23 #[p, vi 3] (some 51) ?_ [0] [curA (d) p] _ rfl (⟨{x : Bool // True}, fun q => .bool q.1, fun q => [curA (d) p]⟩) (fun w hw => l1Once_c w (d) (hd.fr hw.fr hS) p 3) (NO rfl) ?_)
   · as_aux_lemma => kernel_rfl
   rintro ⟨m67, hm68⟩
   try dsimp only at hm68
   refine ENDOPS (NEXT (IF (m67) ?_ (fun bh69 => ?_) (fun bh69 => ?_)))
   · as_aux_lemma => kernel_rfl
   ·
    have h69 := bh69
    refine SEQ (REGION [0, 1] rfl (RUN 2 [] [(0, .v (p)), (2, I now), (4, .p 0 0), (6, .p 1 0), (7, .p 2 0)] [(51, [.slice r_seats_a r.seats.length r_seats_c, vi r.tiers, vi r.room, vi r.size, vi r.period, vi r.window, vi r.rest, vi r.tries, vi r.crew]), (80, [vi 0, vi 0, vi 0, vi 0, vi 0, vi 0, vi 0, vi 0, vi 0, vi 0]), (80, [vi u0, vi u1, vi (-1), vi u3, vi u4, vi m59, vi u6, vi 2, vi uo, vi u9])] ?_ rfl ?_))
    · as_aux_lemma => kernel_rfl
    refine ENDOPS (NEXT (REGION [0, 1, 2, 3, 4, 5, 6, 7, 8] rfl (RUN0 5 [5, 6, 7, 8] [(0, .v (p)), (4, .p 0 0), (6, .p 1 0), (7, .p 2 0), (53, .v (p)), (57, I (wr (now + r.window)))] ?_ rfl ?_)))
    · as_aux_lemma => kernel_rfl
    refine OPC (CALL 29 #[p, vi (wr (now + r.window))] (some 58) ?_ [0] [curA (d) p] _ rfl (⟨{x : Int // 0 ≤ x ∧ ((wr (now + r.window)) ≤ 0 → x = 0) ∧ (0 < (wr (now + r.window)) → x < (wr (now + r.window)))}, fun q => vi q.1, fun q => [curA (d) p]⟩) (fun w hw => l1Below_c w (d) (hd.fr hw.fr hS) p (wr (now + r.window))) (NO rfl) ?_)
    · as_aux_lemma => kernel_rfl
    rintro ⟨m70, hm71⟩
    try dsimp only at hm71
    refine RUN 3 [] [(0, .v (p)), (4, .p 0 0), (6, .p 1 0), (7, .p 2 0)] [(51, [.slice r_seats_a r.seats.length r_seats_c, vi r.tiers, vi r.room, vi r.size, vi r.period, vi r.window, vi r.rest, vi r.tries, vi r.crew]), (80, [vi 0, vi 0, vi 0, vi 0, vi 0, vi 0, vi 0, vi 0, vi 0, vi 0]), (80, [vi u0, vi u1, vi (-1), vi u3, vi u4, vi m59, vi u6, vi 2, vi (wr (1 + m70)), vi u9])] ?_ rfl ?_
    · as_aux_lemma => kernel_rfl
    refine ENDOPS (JBACK (m59, 2, wr (1 + m70)) [0, 4, 6, 7] 3 [0] _ trivial ?_ rfl rfl rfl)
    · as_aux_lemma => kernel_rfl
   ·
    have h69 := bh69
    refine SKIP (JBACK (m59, 1, uo) [0, 4, 6, 7] 3 [0] _ trivial ?_ rfl rfl rfl)
    · as_aux_lemma => kernel_rfl
  ·
   have h58 := bh58
   refine SKIP (JBACK (0, 1, 0) [0, 4, 6, 7] 3 [0] _ trivial ?_ rfl rfl rfl)
   · as_aux_lemma => kernel_rfl
 rintro ⟨sc, stt, un⟩ hi72
 try dsimp only at hi72
 refine SEQ (SEQ (REGION [0, 1] rfl (RUN0 1 [1] [(0, .v (p)), (4, .p 0 0), (6, .p 1 0), (7, .p 2 0), (61, .v (p))] ?_ rfl ?_)))
 · as_aux_lemma => kernel_rfl
 refine OPC (CALL 23 #[p, vi 4] (some 62) ?_ [0] [curA (d) p] _ rfl (⟨{x : Bool // True}, fun q => .bool q.1, fun q => [curA (d) p]⟩) (fun w hw => l1Once_c w (d) (hd.fr hw.fr hS) p 4) (NO rfl) ?_)
 · as_aux_lemma => kernel_rfl
 rintro ⟨m73, hm74⟩
 try dsimp only at hm74
 refine ENDOPS (NEXT (IF (m73) ?_ (fun bh75 => ?_) (fun bh75 => ?_)))
 · as_aux_lemma => kernel_rfl
 ·
  have h75 := bh75
  refine REGION [0, 1, 2, 3, 4, 5, 6] rfl (RUN0 4 [4, 5, 6] [(6, .p 1 0), (7, .p 2 0), (63, .v (p)), (66, I (r.seats.length : Int))] ?_ rfl ?_)
  · as_aux_lemma => kernel_rfl
  refine OPC (CALL 29 #[p, vi (r.seats.length : Int)] (some 67) ?_ [0] [curA (d) p] _ rfl (⟨{x : Int // 0 ≤ x ∧ ((r.seats.length : Int) ≤ 0 → x = 0) ∧ (0 < (r.seats.length : Int) → x < (r.seats.length : Int))}, fun q => vi q.1, fun q => [curA (d) p]⟩) (fun w hw => l1Below_c w (d) (hd.fr hw.fr hS) p (r.seats.length : Int)) (NO rfl) ?_)
  · as_aux_lemma => kernel_rfl
  rintro ⟨m76, hm77⟩
  try dsimp only at hm77
  refine RUN 2 [] [(6, .p 1 0), (7, .p 2 0)] [(51, [.slice r_seats_a r.seats.length r_seats_c, vi r.tiers, vi r.room, vi r.size, vi r.period, vi r.window, vi r.rest, vi r.tries, vi r.crew]), (80, [vi 0, vi 0, vi 0, vi 0, vi 0, vi 0, vi 0, vi 0, vi 0, vi 0]), (80, [vi u0, vi u1, vi m76, vi u3, vi u4, vi sc, vi u6, vi stt, vi un, vi u9])] ?_ rfl ?_
  · as_aux_lemma => kernel_rfl
  refine ENDOPS (NEXT (SEQ (REGION [0, 1] rfl (RUN 2 [] [(6, .p 1 0)] [(51, [.slice r_seats_a r.seats.length r_seats_c, vi r.tiers, vi r.room, vi r.size, vi r.period, vi r.window, vi r.rest, vi r.tries, vi r.crew]), (80, [vi u0, vi u1, vi m76, vi u3, vi u4, vi sc, vi u6, vi stt, vi un, vi u9]), (80, [vi u0, vi u1, vi m76, vi u3, vi u4, vi sc, vi u6, vi stt, vi un, vi u9])] ?_ rfl ?_))))
  · as_aux_lemma => kernel_rfl
  refine ENDOPS (NEXT (RET (FIN (.agg #[vi u0, vi u1, vi m76, vi u3, vi u4, vi sc, vi u6, vi stt, vi un, vi u9]) ?_ ⟨(⟨u0, u1, m76, u3, u4, sc, u6, stt, un, u9⟩ : Party), trivial⟩ ?_ [0] ?_)))
  · as_aux_lemma => kernel_rfl
  · rfl
  · rfl
 ·
  have h75 := bh75
  refine SKIP (NEXT (SEQ (REGION [0, 1] rfl (RUN 2 [] [(6, .p 1 0)] [(51, [.slice r_seats_a r.seats.length r_seats_c, vi r.tiers, vi r.room, vi r.size, vi r.period, vi r.window, vi r.rest, vi r.tries, vi r.crew]), (80, [vi u0, vi u1, vi (-1), vi u3, vi u4, vi sc, vi u6, vi stt, vi un, vi u9]), (80, [vi u0, vi u1, vi (-1), vi u3, vi u4, vi sc, vi u6, vi stt, vi un, vi u9])] ?_ rfl ?_))))
  · as_aux_lemma => kernel_rfl
  refine ENDOPS (NEXT (RET (FIN (.agg #[vi u0, vi u1, vi (-1), vi u3, vi u4, vi sc, vi u6, vi stt, vi un, vi u9]) ?_ ⟨(⟨u0, u1, -1, u3, u4, sc, u6, stt, un, u9⟩ : Party), trivial⟩ ?_ [0] ?_)))
  · as_aux_lemma => kernel_rfl
  · rfl
  · rfl

theorem partyPut_c (W : World) (list : List Party) (list_a : Option Addr) (list_c : Nat) (hlist : Rd partyL W list_a list) (pa : Party) (hcap : list.length ≤ list_c) (hb : list.length ≤ 1048576) : Spec Tryz.prog W [] 51 #[.slice list_a list.length list_c, .agg #[vi pa.id, vi pa.cabin, vi pa.from', vi pa.size, vi pa.tier, vi pa.since, vi pa.turn, vi pa.state, vi pa.until', vi pa.asked]] (⟨{q : (HH) × (List Party) // (fun x : List Party => x.length ≤ list.length + 1) q.2}, fun q => .slice q.1.1.1 q.1.2.length q.1.1.2, fun q => [slA 80 partyL (.slice q.1.1.1 q.1.2.length q.1.1.2) q.1.2]⟩) := by
 refine ENTER0 (N := 50) (vs := [.slice list_a list.length list_c, .agg #[vi pa.id, vi pa.cabin, vi pa.from', vi pa.size, vi pa.tier, vi pa.since, vi pa.turn, vi pa.state, vi pa.until', vi pa.asked]]) Tryz.func51 rfl rfl (NL rfl) ?_
 have hlist_len := hlist.len
 refine SEQ (REGION [0, 1] rfl (RUN 2 [] [(0, .v (.slice list_a list.length list_c)), (3, .p 0 0)] [(80, [vi pa.id, vi pa.cabin, vi pa.from', vi pa.size, vi pa.tier, vi pa.since, vi pa.turn, vi pa.state, vi pa.until', vi pa.asked])] ?_ rfl ?_))
 · as_aux_lemma => kernel_rfl
 refine ENDOPS (NEXT (SEQ (REGION [0, 1, 2, 3, 4] rfl (RUN0 3 [3, 4] [(0, .v (.slice list_a list.length list_c)), (3, .p 0 0), (7, .v (.slice list_a list.length list_c)), (9, I pa.id)] ?_ rfl ?_))))
 · as_aux_lemma => kernel_rfl
 refine OPC (CALL 48 #[.slice list_a list.length list_c, vi pa.id] (some 10) ?_ [] [] _ rfl (⟨{x : Int // x < (list.length : Int)}, fun q => vi q.1, fun q => []⟩) (fun w hw => l11At_c w list list_a list_c (hlist.fr hw.fr) pa.id) (NO rfl) ?_)
 · as_aux_lemma => kernel_rfl
 rintro ⟨m1, hm2⟩
 try dsimp only at hm2
 refine RUN0 1 [] [(0, .v (.slice list_a list.length list_c)), (3, .p 0 0), (5, I m1)] ?_ rfl ?_
 · as_aux_lemma => kernel_rfl
 refine ENDOPS (NEXT (SEQ (REGION [0, 1, 2, 3] rfl (OPC (BUILDS 52 0 #[] 11 52 ?_ (NL rfl) 80 [] ?_ partyL [] rfl (by simp only [maxLen]; omega) [] [] _ rfl (flatRep rfl) (fun a3 ha4 => ?_))))))
 iterate 2 (as_aux_lemma => kernel_rfl)
 refine RUN0 1 [2, 3] [(0, .v (.slice list_a list.length list_c)), (3, .p 0 0), (5, I m1), (11, .v (.slice a3 0 0)), (12, .v (.slice list_a list.length list_c))] ?_ rfl ?_
 · as_aux_lemma => kernel_rfl
 refine OPC (APPENDR 52 (.tmp 11) (.tmp 12) 13 52 ?_ (NL rfl) (.slice a3 0 0) list_a list.length list_c ?_ ?_ 80 ?_ (.agg #[vi 0, vi 0, vi 0, vi 0, vi 0, vi 0, vi 0, vi 0, vi 0, vi 0]) 80 ?_ rfl (by decide) 0 ([]) list _ rfl rfl (fun w hw => (hlist.fr hw.fr)) (by first | omega | (simp only [List.length_append, List.length_cons, List.length_nil, List.length_take, List.length_drop] at *; omega)) (by simp only [maxLen]; first | omega | (simp only [List.length_append, List.length_cons, List.length_nil, List.length_take, List.length_drop] at *; omega)) (fun a5 c6 hn7 => ?_))
 iterate 5 (as_aux_lemma => kernel_rfl)
 refine RUN0 1 [] [(0, .v (.slice list_a list.length list_c)), (3, .p 0 0), (5, I m1), (6, .v (.slice a5 ((([]) ++ list).length) c6))] ?_ rfl ?_
 · as_aux_lemma => kernel_rfl
 refine ENDOPS (NEXT (SEQ (SEQ (REGION [0, 1] rfl (RUN0 2 [] [(0, .v (.slice list_a list.length list_c)), (3, .p 0 0), (5, I m1), (6, .v (.slice a5 ((([]) ++ list).length) c6)), (15, B (decide (m1 ≥ 0)))] ?_ rfl ?_)))))
 · as_aux_lemma => kernel_rfl
 refine ENDOPS (NEXT (IF (decide (m1 ≥ 0)) ?_ (fun bh8 => ?_) (fun bh8 => ?_)))
 · as_aux_lemma => kernel_rfl
 ·
  have h8 := bh8
  have h8 := of_decide_eq_true h8
  refine SEQ (REGION [0, 1, 2, 3, 4] rfl (RUN0 3 [3, 4] [(6, .v (.slice a5 ((([]) ++ list).length) c6)), (16, .v (.slice a5 ((([]) ++ list).length) c6)), (17, I m1), (18, .v (.agg #[vi pa.id, vi pa.cabin, vi pa.from', vi pa.size, vi pa.tier, vi pa.since, vi pa.turn, vi pa.state, vi pa.until', vi pa.asked]))] ?_ rfl ?_))
  · as_aux_lemma => kernel_rfl
  have hla9 : (([]) ++ list).length = 0 + list.length := by first | (simp only [List.length_append, List.length_cons, List.length_nil]; done) | (simp only [List.length_append, List.length_cons, List.length_nil]; omega) | (simp; done)
  obtain ⟨x10, hx11⟩ : ∃ y, (([]) ++ list)[m1.toNat]? = some y := ⟨_, List.getElem?_eq_getElem (by omega)⟩
  refine FACT (a5.isSome = true) (fun w hw => SlO.isS (hw.own 0 rfl) (by omega)) (fun hs12 => ?_)
  refine OPC (INDEX 52 (.tmp 16) (.tmp 17) 19 0 ?_ (NL rfl) a5 ((([]) ++ list).length) c6 .i64 m1 80 10 ?_ ?_ ?_ ?_ hs12 (by omega) (by omega) ?_)
  iterate 5 (as_aux_lemma => kernel_rfl)
  refine OPC (STOREF 80 (.tmp 19) (.tmp 18) 0 ?_ 0 _ 80 a5 ((([]) ++ list).length) c6 m1.toNat 0 (([]) ++ list) rfl x10 pa hx11 (.agg #[vi pa.id, vi pa.cabin, vi pa.from', vi pa.size, vi pa.tier, vi pa.since, vi pa.turn, vi pa.state, vi pa.until', vi pa.asked]) ?_ ?_ ?_ ?_)
  iterate 4 (as_aux_lemma => kernel_rfl)
  refine ENDOPS (NEXT (SEQ (REGION [0, 1] rfl (RUN0 2 [] [(4, .v (.slice a5 ((([]) ++ list).length) c6))] ?_ rfl ?_))))
  · as_aux_lemma => kernel_rfl
  refine ENDOPS (NEXT (RET (PASS trivial (FACT (((([]) ++ list).length) = ((([]) ++ list).set m1.toNat pa).length) (fun w hw => (SlO.lenE (hw.own 0 rfl)).1) (fun hln13 => ?_)))))
  refine RELEN (fun z : Nat => [(4, .v (.slice a5 z c6))]) (fun z : Nat => [(80, [vi pa.id, vi pa.cabin, vi pa.from', vi pa.size, vi pa.tier, vi pa.since, vi pa.turn, vi pa.state, vi pa.until', vi pa.asked])]) (fun z : Nat => [slA 80 partyL (.slice a5 z c6) ((([]) ++ list).set m1.toNat pa)]) hln13 ?_
  refine FIN (.slice a5 (((([]) ++ list).set m1.toNat pa).length) c6) ?_ ⟨((a5, c6), (([]) ++ list).set m1.toNat pa), (by first | omega | (dsimp only; omega) | (simp only [List.length_append, List.length_cons, List.length_nil, List.length_take, List.length_drop, List.length_set]; omega))⟩ ?_ [0] ?_
  · as_aux_lemma => kernel_rfl
  · rfl
  · rfl
 ·
  have h8 := bh8
  have h8 := of_decide_eq_false h8
  refine SKIP (NEXT (SEQ (REGION [0] rfl (RUN0 1 [] [(0, .v (.slice list_a list.length list_c)), (3, .p 0 0), (5, I 0)] ?_ rfl ?_))))
  · as_aux_lemma => kernel_rfl
  refine ENDOPS (NEXT (SEQJ (ι := Nat) (fun j => [(0, .v (.slice list_a list.length list_c)), (3, .p 0 0), (5, I (j : Int))]) (fun j => [(80, [vi pa.id, vi pa.cabin, vi pa.from', vi pa.size, vi pa.tier, vi pa.since, vi pa.turn, vi pa.state, vi pa.until', vi pa.asked])]) (fun j => [slA 80 partyL (.slice a5 (([]) ++ list).length c6) (([]) ++ list)]) (fun j => j ≤ list.length) ?_ ?_))
  ·
   refine BLOCK (LOOP (ι := Nat) (fun j => [(0, .v (.slice list_a list.length list_c)), (3, .p 0 0), (5, I (j : Int))]) (fun j => [(80, [vi pa.id, vi pa.cabin, vi pa.from', vi pa.size, vi pa.tier, vi pa.since, vi pa.turn, vi pa.state, vi pa.until', vi pa.asked])]) (fun j => [slA 80 partyL (.slice a5 (([]) ++ list).length c6) (([]) ++ list)]) (fun j => j ≤ list.length) (fun j => list.length - j) (0) [0, 3, 5] (by first | omega | (dsimp only; omega)) ?_ rfl rfl ?_)
   · as_aux_lemma => kernel_rfl
   rintro k hk
   try dsimp only at hk
   refine SEQ (SEQ (REGIONQ ?_ ?_ ?_))
   iterate 2 (as_aux_lemma => kernel_rfl)
   refine QRUN 5 0 5 [(0, .v (.slice list_a list.length list_c)), (3, .p 0 0), (5, I (k : Int)), (25, B (decide ((k : Int) < (list.length : Int))))] ?_ rfl ?_
   · as_aux_lemma => kernel_rfl
   refine QSPLIT (d := 25) (decide ((k : Int) < (list.length : Int))) ?_ (fun bh14 => ?_) (fun bh14 => ?_)
   · as_aux_lemma => kernel_rfl
   ·
    have h14 := bh14
    have h14 := of_decide_eq_true h14
    refine QRUN 2 5 7 [(0, .v (.slice list_a list.length list_c)), (3, .p 0 0), (5, I (k : Int)), (25, B true), (26, .v (.slice list_a list.length list_c)), (27, I (k : Int))] ?_ rfl ?_
    · as_aux_lemma => kernel_rfl
    obtain ⟨x15, hx16⟩ : ∃ y, list[k]? = some y := ⟨_, List.getElem?_eq_getElem (by omega)⟩
    refine QINDEX 52 (.tmp 26) (.tmp 27) 28 0 ?_ (NL rfl) list_a list.length list_c .i64 (k : Int) 80 10 ?_ ?_ ?_ ?_ (Rd.some hlist (by omega)) (by omega) (by omega) ?_
    iterate 5 (as_aux_lemma => kernel_rfl)
    refine QRUN 1 8 9 [(0, .v (.slice list_a list.length list_c)), (3, .p 0 0), (5, I (k : Int)), (25, B true), (29, .e list_a (k * 10) 0)] ?_ rfl ?_
    · as_aux_lemma => kernel_rfl
    refine QLOADE 3 (.tmp 29) 30 3 ?_ (NL rfl) list_a (k * 10) 0 [vi x15.id, vi x15.cabin, vi x15.from', vi x15.size, vi x15.tier, vi x15.since, vi x15.turn, vi x15.state, vi x15.until', vi x15.asked] (vi x15.id) ?_ (fun w hw => (hlist.fr hw.fr).flat hx16) ?_ ?_
    iterate 3 (as_aux_lemma => kernel_rfl)
    refine QRUN 4 10 14 [(0, .v (.slice list_a list.length list_c)), (3, .p 0 0), (5, I (k : Int)), (34, B (decide (x15.id < pa.id)))] ?_ rfl ?_
    · as_aux_lemma => kernel_rfl
    refine QEND rfl (NEXT (IF (decide (x15.id < pa.id)) ?_ (fun bh17 => ?_) (fun bh17 => ?_)))
    · as_aux_lemma => kernel_rfl
    ·
     have h17 := bh17
     have h17 := of_decide_eq_true h17
     refine SKIP (NEXT (BLOCK (REGION [0, 1, 2] rfl (RUN0 2 [2] [(0, .v (.slice list_a list.length list_c)), (3, .p 0 0), (36, I (wr ((k : Int) + 1)))] ?_ rfl ?_))))
     · as_aux_lemma => kernel_rfl
     refine CAST (d := 36) (vi (wr ((k : Int) + 1))) (vi ((k + 1 : Nat) : Int)) ?_ (vi_cast (by omega) (by omega)) ?_
     · as_aux_lemma => kernel_rfl
     refine RUN0 1 [] [(0, .v (.slice list_a list.length list_c)), (3, .p 0 0), (5, I ((k + 1 : Nat) : Int))] ?_ rfl ?_
     · as_aux_lemma => kernel_rfl
     refine ENDOPS (OUTN (BACK (k + 1) [0, 3, 5] 1 [0] _ (by first | omega | (dsimp only; omega)) (by first | omega | (dsimp only; omega)) ?_ rfl rfl rfl))
     · as_aux_lemma => kernel_rfl
    ·
     have h17 := bh17
     have h17 := of_decide_eq_false h17
     refine EXIT (PASS trivial (PASS trivial (OUT (JBACK (k) [0, 3, 5] 1 [0] _ (by first | omega | (dsimp only; omega) | (simp only [List.length_append, List.length_cons, List.length_nil, List.length_take]; omega)) ?_ rfl rfl rfl))))
     · as_aux_lemma => kernel_rfl
   ·
    have h14 := bh14
    have h14 := of_decide_eq_false h14
    refine QRUN 9 5 14 [(0, .v (.slice list_a list.length list_c)), (3, .p 0 0), (5, I (k : Int)), (34, B false)] ?_ rfl ?_
    · as_aux_lemma => kernel_rfl
    refine QEND rfl (NEXT (IFF ?_ ?_))
    · as_aux_lemma => kernel_rfl
    refine EXIT (PASS trivial (PASS trivial (OUT (JBACK (k) [0, 3, 5] 1 [0] _ (by first | omega | (dsimp only; omega) | (simp only [List.length_append, List.length_cons, List.length_nil, List.length_take]; omega)) ?_ rfl rfl rfl))))
    · as_aux_lemma => kernel_rfl
  rintro kk hi18
  try dsimp only at hi18
  refine SEQJ (ι := (Option Addr) × Nat × (List Party)) (fun j => [(0, .v (.slice list_a list.length list_c)), (5, I (kk : Int)), (6, .v (.slice j.1 j.2.2.length j.2.1))]) (fun j => [(80, [vi pa.id, vi pa.cabin, vi pa.from', vi pa.size, vi pa.tier, vi pa.since, vi pa.turn, vi pa.state, vi pa.until', vi pa.asked])]) (fun j => [slA 80 partyL (.slice a5 (([]) ++ list).length c6) (([]) ++ list), slA 80 partyL (.slice j.1 j.2.2.length j.2.1) j.2.2]) (fun j => j.2.2.length = kk + 1) ?_ ?_
  ·
   refine EXPORT (fun bs hbs => ?_)
   obtain ⟨b19, rfl⟩ := len1 hbs
   refine REGIONH ?_ 9 rfl [ptC b19 80 [vi pa.id, vi pa.cabin, vi pa.from', vi pa.size, vi pa.tier, vi pa.since, vi pa.turn, vi pa.state, vi pa.until', vi pa.asked], slA 80 partyL (.slice a5 (([]) ++ list).length c6) (([]) ++ list)] ?_
   · as_aux_lemma => kernel_rfl
   refine HPURE (js := [0, 0]) 1 [(0, .v (.slice list_a list.length list_c)), (3, .e (some ⟨b19, 0, none⟩) 0 0), (5, I (kk : Int)), (38, .v (.slice list_a list.length list_c))] ?_ ?_ rfl ?_
   iterate 2 (as_aux_lemma => kernel_rfl)
   refine HPURE (js := [0, 0]) 2 [(0, .v (.slice list_a list.length list_c)), (3, .e (some ⟨b19, 0, none⟩) 0 0), (5, I (kk : Int)), (38, .v (.slice list_a list.length list_c)), (39, I (kk : Int))] ?_ ?_ rfl ?_
   iterate 2 (as_aux_lemma => kernel_rfl)
   refine HLOADE (i := 5) (js := [0, 0])  80 (.tmp 3) 42 80 ?_ (NL rfl) (some ⟨b19, 0, none⟩) 0 0 [vi pa.id, vi pa.cabin, vi pa.from', vi pa.size, vi pa.tier, vi pa.since, vi pa.turn, vi pa.state, vi pa.until', vi pa.asked] (.agg #[vi pa.id, vi pa.cabin, vi pa.from', vi pa.size, vi pa.tier, vi pa.since, vi pa.turn, vi pa.state, vi pa.until', vi pa.asked]) ?_ (fun w hw => ptC_elem (hw.own 0 rfl)) ?_ ?_ rfl ?_
   iterate 4 (as_aux_lemma => kernel_rfl)
   refine HALL [0, 3, 6] ?_ (by decide) ⟨?_, ?_, ?_⟩
   · as_aux_lemma => kernel_rfl
   ·
    refine BUILDS 52 0 #[] 37 52 ?_ (NL rfl) 80 [] ?_ partyL [] rfl (by simp only [maxLen]; omega) [] [] _ rfl (flatRep rfl) (fun a20 ha21 => ?_)
    iterate 2 (as_aux_lemma => kernel_rfl)
    refine HKEEP (js := [0, 0]) rfl (HALL [3, 6] ?_ (by decide) ⟨?_, ?_⟩)
    · as_aux_lemma => kernel_rfl
    ·
     refine CUTH 52 (.tmp 38) (.tmp 39) 40 52 ?_ (NL rfl) list_a list.length list_c .i64 (kk : Int) ?_ ?_ 80 partyL list ?_ ?_ (by omega) (by first | omega | (simp only [List.length_append, List.length_cons, List.length_nil, List.length_take, List.length_drop] at *; omega)) rfl (by omega) (fun a22 hsh23 => ?_)
     iterate 5 (as_aux_lemma => kernel_rfl)
     have hsh23 : ∀ w, Rd partyL w list_a list → Rd partyL w a22 (list.take kk) := hsh23
     have hln24 : (list.take kk).length = kk := by first | (simp; done) | (simp; omega)
     refine CAST (d := 40) (.slice a22 kk list_c) (.slice a22 ((list.take kk).length) list_c) ?_ (by rw [hln24]) ?_
     · as_aux_lemma => kernel_rfl
     refine HKEEP (js := [0, 0]) rfl (HALL [4, 6] ?_ (by decide) ⟨?_, ?_⟩)
     · as_aux_lemma => kernel_rfl
     ·
      refine APPENDR 52 (.tmp 37) (.tmp 40) 41 52 ?_ (NL rfl) (.slice a20 0 0) a22 ((list.take kk).length) list_c ?_ ?_ 80 ?_ (.agg #[vi 0, vi 0, vi 0, vi 0, vi 0, vi 0, vi 0, vi 0, vi 0, vi 0]) 80 ?_ rfl (by decide) 2 ([]) (list.take kk) _ rfl rfl (fun w hw => (hsh23 _ (hlist.fr hw.fr))) (by first | omega | (simp only [List.length_append, List.length_cons, List.length_nil, List.length_take, List.length_drop] at *; omega)) (by simp only [maxLen]; first | omega | (simp only [List.length_append, List.length_cons, List.length_nil, List.length_take, List.length_drop] at *; omega)) (fun a25 c26 hn27 => ?_)
      iterate 5 (as_aux_lemma => kernel_rfl)
      refine HKEEP (js := [0, 0]) rfl (HALL [6] ?_ (by decide) ?_)
      · as_aux_lemma => kernel_rfl
      refine BUILDS 52 1 #[(0, .tmp 42)] 43 52 ?_ (NL rfl) 80 [vi pa.id, vi pa.cabin, vi pa.from', vi pa.size, vi pa.tier, vi pa.since, vi pa.turn, vi pa.state, vi pa.until', vi pa.asked] ?_ partyL [pa] rfl (by simp only [maxLen]; omega) [] [] _ rfl (flatRep rfl) (fun a28 ha29 => ?_)
      iterate 2 (as_aux_lemma => kernel_rfl)
      refine HKEEP (js := [0, 0]) rfl (HALL [7] ?_ (by decide) ?_)
      · as_aux_lemma => kernel_rfl
      refine APPENDO 52 (.tmp 41) (.tmp 43) 44 52 ?_ (NL rfl) (.slice a25 ((([]) ++ (list.take kk)).length) c26) a28 1 1 ?_ ?_ ha29 80 ?_ partyL (.agg #[vi 0, vi 0, vi 0, vi 0, vi 0, vi 0, vi 0, vi 0, vi 0, vi 0]) 80 ?_ rfl (by decide) 2 2 (([]) ++ (list.take kk)) ([pa]) _ rfl rfl (by first | omega | (simp only [List.length_append, List.length_cons, List.length_nil, List.length_take, List.length_drop] at *; omega)) (by simp only [maxLen]; first | omega | (simp only [List.length_append, List.length_cons, List.length_nil, List.length_take, List.length_drop] at *; omega)) (fun a30 c31 hn32 => ?_)
      iterate 5 (as_aux_lemma => kernel_rfl)
      refine HKEEP (js := [0, 0]) rfl (HPURE (js := [0, 0]) 8 [(0, .v (.slice list_a list.length list_c)), (5, I (kk : Int)), (6, .v (.slice a30 (((([]) ++ (list.take kk)) ++ ([pa])).length) c31))] ?_ ?_ rfl ?_)
      iterate 2 (as_aux_lemma => kernel_rfl)
      refine HEND ?_ ?_
      · as_aux_lemma => kernel_rfl
      refine IMPORT (L0 := [(80, [vi pa.id, vi pa.cabin, vi pa.from', vi pa.size, vi pa.tier, vi pa.since, vi pa.turn, vi pa.state, vi pa.until', vi pa.asked])]) (L1 := []) [b19] rfl [0] _ rfl [(0, .v (.slice list_a list.length list_c)), (5, I (kk : Int)), (6, .v (.slice a30 (((([]) ++ (list.take kk)) ++ ([pa])).length) c31))] ?_ ?_ ?_
      iterate 2 (as_aux_lemma => kernel_rfl)
      refine JBACK (a30, c31, (([]) ++ (list.take kk)) ++ ([pa])) [0, 5, 6] 1 [0, 0] _ (by first | omega | (dsimp only; omega) | (simp only [List.length_append, List.length_cons, List.length_nil, List.length_take]; omega)) ?_ rfl rfl rfl
      · as_aux_lemma => kernel_rfl
     ·
      refine BUILDS 52 1 #[(0, .tmp 42)] 43 52 ?_ (NL rfl) 80 [vi pa.id, vi pa.cabin, vi pa.from', vi pa.size, vi pa.tier, vi pa.since, vi pa.turn, vi pa.state, vi pa.until', vi pa.asked] ?_ partyL [pa] rfl (by simp only [maxLen]; omega) [] [] _ rfl (flatRep rfl) (fun a33 ha34 => ?_)
      iterate 2 (as_aux_lemma => kernel_rfl)
      refine HKEEP (js := [0, 0]) rfl (HALL [4] ?_ (by decide) ?_)
      · as_aux_lemma => kernel_rfl
      refine APPENDR 52 (.tmp 37) (.tmp 40) 41 52 ?_ (NL rfl) (.slice a20 0 0) a22 ((list.take kk).length) list_c ?_ ?_ 80 ?_ (.agg #[vi 0, vi 0, vi 0, vi 0, vi 0, vi 0, vi 0, vi 0, vi 0, vi 0]) 80 ?_ rfl (by decide) 2 ([]) (list.take kk) _ rfl rfl (fun w hw => (hsh23 _ (hlist.fr hw.fr))) (by first | omega | (simp only [List.length_append, List.length_cons, List.length_nil, List.length_take, List.length_drop] at *; omega)) (by simp only [maxLen]; first | omega | (simp only [List.length_append, List.length_cons, List.length_nil, List.length_take, List.length_drop] at *; omega)) (fun a35 c36 hn37 => ?_)
      iterate 5 (as_aux_lemma => kernel_rfl)
      refine HKEEP (js := [0, 0]) rfl (HALL [7] ?_ (by decide) ?_)
      · as_aux_lemma => kernel_rfl
      refine APPENDO 52 (.tmp 41) (.tmp 43) 44 52 ?_ (NL rfl) (.slice a35 ((([]) ++ (list.take kk)).length) c36) a33 1 1 ?_ ?_ ha34 80 ?_ partyL (.agg #[vi 0, vi 0, vi 0, vi 0, vi 0, vi 0, vi 0, vi 0, vi 0, vi 0]) 80 ?_ rfl (by decide) 3 2 (([]) ++ (list.take kk)) ([pa]) _ rfl rfl (by first | omega | (simp only [List.length_append, List.length_cons, List.length_nil, List.length_take, List.length_drop] at *; omega)) (by simp only [maxLen]; first | omega | (simp only [List.length_append, List.length_cons, List.length_nil, List.length_take, List.length_drop] at *; omega)) (fun a38 c39 hn40 => ?_)
      iterate 5 (as_aux_lemma => kernel_rfl)
      refine HKEEP (js := [0, 0]) rfl (HPURE (js := [0, 0]) 8 [(0, .v (.slice list_a list.length list_c)), (5, I (kk : Int)), (6, .v (.slice a38 (((([]) ++ (list.take kk)) ++ ([pa])).length) c39))] ?_ ?_ rfl ?_)
      iterate 2 (as_aux_lemma => kernel_rfl)
      refine HEND ?_ ?_
      · as_aux_lemma => kernel_rfl
      refine IMPORT (L0 := [(80, [vi pa.id, vi pa.cabin, vi pa.from', vi pa.size, vi pa.tier, vi pa.since, vi pa.turn, vi pa.state, vi pa.until', vi pa.asked])]) (L1 := []) [b19] rfl [0] _ rfl [(0, .v (.slice list_a list.length list_c)), (5, I (kk : Int)), (6, .v (.slice a38 (((([]) ++ (list.take kk)) ++ ([pa])).length) c39))] ?_ ?_ ?_
      iterate 2 (as_aux_lemma => kernel_rfl)
      refine JBACK (a38, c39, (([]) ++ (list.take kk)) ++ ([pa])) [0, 5, 6] 1 [0, 0] _ (by first | omega | (dsimp only; omega) | (simp only [List.length_append, List.length_cons, List.length_nil, List.length_take]; omega)) ?_ rfl rfl rfl
      · as_aux_lemma => kernel_rfl
    ·
     refine BUILDS 52 1 #[(0, .tmp 42)] 43 52 ?_ (NL rfl) 80 [vi pa.id, vi pa.cabin, vi pa.from', vi pa.size, vi pa.tier, vi pa.since, vi pa.turn, vi pa.state, vi pa.until', vi pa.asked] ?_ partyL [pa] rfl (by simp only [maxLen]; omega) [] [] _ rfl (flatRep rfl) (fun a41 ha42 => ?_)
     iterate 2 (as_aux_lemma => kernel_rfl)
     refine HKEEP (js := [0, 0]) rfl (HALL [3] ?_ (by decide) ?_)
     · as_aux_lemma => kernel_rfl
     refine CUTH 52 (.tmp 38) (.tmp 39) 40 52 ?_ (NL rfl) list_a list.length list_c .i64 (kk : Int) ?_ ?_ 80 partyL list ?_ ?_ (by omega) (by first | omega | (simp only [List.length_append, List.length_cons, List.length_nil, List.length_take, List.length_drop] at *; omega)) rfl (by omega) (fun a43 hsh44 => ?_)
     iterate 5 (as_aux_lemma => kernel_rfl)
     have hsh44 : ∀ w, Rd partyL w list_a list → Rd partyL w a43 (list.take kk) := hsh44
     have hln45 : (list.take kk).length = kk := by first | (simp; done) | (simp; omega)
     refine CAST (d := 40) (.slice a43 kk list_c) (.slice a43 ((list.take kk).length) list_c) ?_ (by rw [hln45]) ?_
     · as_aux_lemma => kernel_rfl
     refine HKEEP (js := [0, 0]) rfl (HALL [4] ?_ (by decide) ?_)
     · as_aux_lemma => kernel_rfl
     refine APPENDR 52 (.tmp 37) (.tmp 40) 41 52 ?_ (NL rfl) (.slice a20 0 0) a43 ((list.take kk).length) list_c ?_ ?_ 80 ?_ (.agg #[vi 0, vi 0, vi 0, vi 0, vi 0, vi 0, vi 0, vi 0, vi 0, vi 0]) 80 ?_ rfl (by decide) 2 ([]) (list.take kk) _ rfl rfl (fun w hw => (hsh44 _ (hlist.fr hw.fr))) (by first | omega | (simp only [List.length_append, List.length_cons, List.length_nil, List.length_take, List.length_drop] at *; omega)) (by simp only [maxLen]; first | omega | (simp only [List.length_append, List.length_cons, List.length_nil, List.length_take, List.length_drop] at *; omega)) (fun a46 c47 hn48 => ?_)
     iterate 5 (as_aux_lemma => kernel_rfl)
     refine HKEEP (js := [0, 0]) rfl (HALL [7] ?_ (by decide) ?_)
     · as_aux_lemma => kernel_rfl
     refine APPENDO 52 (.tmp 41) (.tmp 43) 44 52 ?_ (NL rfl) (.slice a46 ((([]) ++ (list.take kk)).length) c47) a41 1 1 ?_ ?_ ha42 80 ?_ partyL (.agg #[vi 0, vi 0, vi 0, vi 0, vi 0, vi 0, vi 0, vi 0, vi 0, vi 0]) 80 ?_ rfl (by decide) 3 2 (([]) ++ (list.take kk)) ([pa]) _ rfl rfl (by first | omega | (simp only [List.length_append, List.length_cons, List.length_nil, List.length_take, List.length_drop] at *; omega)) (by simp only [maxLen]; first | omega | (simp only [List.length_append, List.length_cons, List.length_nil, List.length_take, List.length_drop] at *; omega)) (fun a49 c50 hn51 => ?_)
     iterate 5 (as_aux_lemma => kernel_rfl)
     refine HKEEP (js := [0, 0]) rfl (HPURE (js := [0, 0]) 8 [(0, .v (.slice list_a list.length list_c)), (5, I (kk : Int)), (6, .v (.slice a49 (((([]) ++ (list.take kk)) ++ ([pa])).length) c50))] ?_ ?_ rfl ?_)
     iterate 2 (as_aux_lemma => kernel_rfl)
     refine HEND ?_ ?_
     · as_aux_lemma => kernel_rfl
     refine IMPORT (L0 := [(80, [vi pa.id, vi pa.cabin, vi pa.from', vi pa.size, vi pa.tier, vi pa.since, vi pa.turn, vi pa.state, vi pa.until', vi pa.asked])]) (L1 := []) [b19] rfl [0] _ rfl [(0, .v (.slice list_a list.length list_c)), (5, I (kk : Int)), (6, .v (.slice a49 (((([]) ++ (list.take kk)) ++ ([pa])).length) c50))] ?_ ?_ ?_
     iterate 2 (as_aux_lemma => kernel_rfl)
     refine JBACK (a49, c50, (([]) ++ (list.take kk)) ++ ([pa])) [0, 5, 6] 1 [0, 0] _ (by first | omega | (dsimp only; omega) | (simp only [List.length_append, List.length_cons, List.length_nil, List.length_take]; omega)) ?_ rfl rfl rfl
     · as_aux_lemma => kernel_rfl
   ·
    refine CUTH 52 (.tmp 38) (.tmp 39) 40 52 ?_ (NL rfl) list_a list.length list_c .i64 (kk : Int) ?_ ?_ 80 partyL list ?_ ?_ (by omega) (by first | omega | (simp only [List.length_append, List.length_cons, List.length_nil, List.length_take, List.length_drop] at *; omega)) rfl (by omega) (fun a52 hsh53 => ?_)
    iterate 5 (as_aux_lemma => kernel_rfl)
    have hsh53 : ∀ w, Rd partyL w list_a list → Rd partyL w a52 (list.take kk) := hsh53
    have hln54 : (list.take kk).length = kk := by first | (simp; done) | (simp; omega)
    refine CAST (d := 40) (.slice a52 kk list_c) (.slice a52 ((list.take kk).length) list_c) ?_ (by rw [hln54]) ?_
    · as_aux_lemma => kernel_rfl
    refine HKEEP (js := [0, 0]) rfl (HALL [0, 6] ?_ (by decide) ⟨?_, ?_⟩)
    · as_aux_lemma => kernel_rfl
    ·
     refine BUILDS 52 0 #[] 37 52 ?_ (NL rfl) 80 [] ?_ partyL [] rfl (by simp only [maxLen]; omega) [] [] _ rfl (flatRep rfl) (fun a55 ha56 => ?_)
     iterate 2 (as_aux_lemma => kernel_rfl)
     refine HKEEP (js := [0, 0]) rfl (HALL [4, 6] ?_ (by decide) ⟨?_, ?_⟩)
     · as_aux_lemma => kernel_rfl
     ·
      refine APPENDR 52 (.tmp 37) (.tmp 40) 41 52 ?_ (NL rfl) (.slice a55 0 0) a52 ((list.take kk).length) list_c ?_ ?_ 80 ?_ (.agg #[vi 0, vi 0, vi 0, vi 0, vi 0, vi 0, vi 0, vi 0, vi 0, vi 0]) 80 ?_ rfl (by decide) 2 ([]) (list.take kk) _ rfl rfl (fun w hw => (hsh53 _ (hlist.fr hw.fr))) (by first | omega | (simp only [List.length_append, List.length_cons, List.length_nil, List.length_take, List.length_drop] at *; omega)) (by simp only [maxLen]; first | omega | (simp only [List.length_append, List.length_cons, List.length_nil, List.length_take, List.length_drop] at *; omega)) (fun a57 c58 hn59 => ?_)
      iterate 5 (as_aux_lemma => kernel_rfl)
      refine HKEEP (js := [0, 0]) rfl (HALL [6] ?_ (by decide) ?_)
      · as_aux_lemma => kernel_rfl
      refine BUILDS 52 1 #[(0, .tmp 42)] 43 52 ?_ (NL rfl) 80 [vi pa.id, vi pa.cabin, vi pa.from', vi pa.size, vi pa.tier, vi pa.since, vi pa.turn, vi pa.state, vi pa.until', vi pa.asked] ?_ partyL [pa] rfl (by simp only [maxLen]; omega) [] [] _ rfl (flatRep rfl) (fun a60 ha61 => ?_)
      iterate 2 (as_aux_lemma => kernel_rfl)
      refine HKEEP (js := [0, 0]) rfl (HALL [7] ?_ (by decide) ?_)
      · as_aux_lemma => kernel_rfl
      refine APPENDO 52 (.tmp 41) (.tmp 43) 44 52 ?_ (NL rfl) (.slice a57 ((([]) ++ (list.take kk)).length) c58) a60 1 1 ?_ ?_ ha61 80 ?_ partyL (.agg #[vi 0, vi 0, vi 0, vi 0, vi 0, vi 0, vi 0, vi 0, vi 0, vi 0]) 80 ?_ rfl (by decide) 2 2 (([]) ++ (list.take kk)) ([pa]) _ rfl rfl (by first | omega | (simp only [List.length_append, List.length_cons, List.length_nil, List.length_take, List.length_drop] at *; omega)) (by simp only [maxLen]; first | omega | (simp only [List.length_append, List.length_cons, List.length_nil, List.length_take, List.length_drop] at *; omega)) (fun a62 c63 hn64 => ?_)
      iterate 5 (as_aux_lemma => kernel_rfl)
      refine HKEEP (js := [0, 0]) rfl (HPURE (js := [0, 0]) 8 [(0, .v (.slice list_a list.length list_c)), (5, I (kk : Int)), (6, .v (.slice a62 (((([]) ++ (list.take kk)) ++ ([pa])).length) c63))] ?_ ?_ rfl ?_)
      iterate 2 (as_aux_lemma => kernel_rfl)
      refine HEND ?_ ?_
      · as_aux_lemma => kernel_rfl
      refine IMPORT (L0 := [(80, [vi pa.id, vi pa.cabin, vi pa.from', vi pa.size, vi pa.tier, vi pa.since, vi pa.turn, vi pa.state, vi pa.until', vi pa.asked])]) (L1 := []) [b19] rfl [0] _ rfl [(0, .v (.slice list_a list.length list_c)), (5, I (kk : Int)), (6, .v (.slice a62 (((([]) ++ (list.take kk)) ++ ([pa])).length) c63))] ?_ ?_ ?_
      iterate 2 (as_aux_lemma => kernel_rfl)
      refine JBACK (a62, c63, (([]) ++ (list.take kk)) ++ ([pa])) [0, 5, 6] 1 [0, 0] _ (by first | omega | (dsimp only; omega) | (simp only [List.length_append, List.length_cons, List.length_nil, List.length_take]; omega)) ?_ rfl rfl rfl
      · as_aux_lemma => kernel_rfl
     ·
      refine BUILDS 52 1 #[(0, .tmp 42)] 43 52 ?_ (NL rfl) 80 [vi pa.id, vi pa.cabin, vi pa.from', vi pa.size, vi pa.tier, vi pa.since, vi pa.turn, vi pa.state, vi pa.until', vi pa.asked] ?_ partyL [pa] rfl (by simp only [maxLen]; omega) [] [] _ rfl (flatRep rfl) (fun a65 ha66 => ?_)
      iterate 2 (as_aux_lemma => kernel_rfl)
      refine HKEEP (js := [0, 0]) rfl (HALL [4] ?_ (by decide) ?_)
      · as_aux_lemma => kernel_rfl
      refine APPENDR 52 (.tmp 37) (.tmp 40) 41 52 ?_ (NL rfl) (.slice a55 0 0) a52 ((list.take kk).length) list_c ?_ ?_ 80 ?_ (.agg #[vi 0, vi 0, vi 0, vi 0, vi 0, vi 0, vi 0, vi 0, vi 0, vi 0]) 80 ?_ rfl (by decide) 2 ([]) (list.take kk) _ rfl rfl (fun w hw => (hsh53 _ (hlist.fr hw.fr))) (by first | omega | (simp only [List.length_append, List.length_cons, List.length_nil, List.length_take, List.length_drop] at *; omega)) (by simp only [maxLen]; first | omega | (simp only [List.length_append, List.length_cons, List.length_nil, List.length_take, List.length_drop] at *; omega)) (fun a67 c68 hn69 => ?_)
      iterate 5 (as_aux_lemma => kernel_rfl)
      refine HKEEP (js := [0, 0]) rfl (HALL [7] ?_ (by decide) ?_)
      · as_aux_lemma => kernel_rfl
      refine APPENDO 52 (.tmp 41) (.tmp 43) 44 52 ?_ (NL rfl) (.slice a67 ((([]) ++ (list.take kk)).length) c68) a65 1 1 ?_ ?_ ha66 80 ?_ partyL (.agg #[vi 0, vi 0, vi 0, vi 0, vi 0, vi 0, vi 0, vi 0, vi 0, vi 0]) 80 ?_ rfl (by decide) 3 2 (([]) ++ (list.take kk)) ([pa]) _ rfl rfl (by first | omega | (simp only [List.length_append, List.length_cons, List.length_nil, List.length_take, List.length_drop] at *; omega)) (by simp only [maxLen]; first | omega | (simp only [List.length_append, List.length_cons, List.length_nil, List.length_take, List.length_drop] at *; omega)) (fun a70 c71 hn72 => ?_)
      iterate 5 (as_aux_lemma => kernel_rfl)
      refine HKEEP (js := [0, 0]) rfl (HPURE (js := [0, 0]) 8 [(0, .v (.slice list_a list.length list_c)), (5, I (kk : Int)), (6, .v (.slice a70 (((([]) ++ (list.take kk)) ++ ([pa])).length) c71))] ?_ ?_ rfl ?_)
      iterate 2 (as_aux_lemma => kernel_rfl)
      refine HEND ?_ ?_
      · as_aux_lemma => kernel_rfl
      refine IMPORT (L0 := [(80, [vi pa.id, vi pa.cabin, vi pa.from', vi pa.size, vi pa.tier, vi pa.since, vi pa.turn, vi pa.state, vi pa.until', vi pa.asked])]) (L1 := []) [b19] rfl [0] _ rfl [(0, .v (.slice list_a list.length list_c)), (5, I (kk : Int)), (6, .v (.slice a70 (((([]) ++ (list.take kk)) ++ ([pa])).length) c71))] ?_ ?_ ?_
      iterate 2 (as_aux_lemma => kernel_rfl)
      refine JBACK (a70, c71, (([]) ++ (list.take kk)) ++ ([pa])) [0, 5, 6] 1 [0, 0] _ (by first | omega | (dsimp only; omega) | (simp only [List.length_append, List.length_cons, List.length_nil, List.length_take]; omega)) ?_ rfl rfl rfl
      · as_aux_lemma => kernel_rfl
    ·
     refine BUILDS 52 1 #[(0, .tmp 42)] 43 52 ?_ (NL rfl) 80 [vi pa.id, vi pa.cabin, vi pa.from', vi pa.size, vi pa.tier, vi pa.since, vi pa.turn, vi pa.state, vi pa.until', vi pa.asked] ?_ partyL [pa] rfl (by simp only [maxLen]; omega) [] [] _ rfl (flatRep rfl) (fun a73 ha74 => ?_)
     iterate 2 (as_aux_lemma => kernel_rfl)
     refine HKEEP (js := [0, 0]) rfl (HALL [0] ?_ (by decide) ?_)
     · as_aux_lemma => kernel_rfl
     refine BUILDS 52 0 #[] 37 52 ?_ (NL rfl) 80 [] ?_ partyL [] rfl (by simp only [maxLen]; omega) [] [] _ rfl (flatRep rfl) (fun a75 ha76 => ?_)
     iterate 2 (as_aux_lemma => kernel_rfl)
     refine HKEEP (js := [0, 0]) rfl (HALL [4] ?_ (by decide) ?_)
     · as_aux_lemma => kernel_rfl
     refine APPENDR 52 (.tmp 37) (.tmp 40) 41 52 ?_ (NL rfl) (.slice a75 0 0) a52 ((list.take kk).length) list_c ?_ ?_ 80 ?_ (.agg #[vi 0, vi 0, vi 0, vi 0, vi 0, vi 0, vi 0, vi 0, vi 0, vi 0]) 80 ?_ rfl (by decide) 3 ([]) (list.take kk) _ rfl rfl (fun w hw => (hsh53 _ (hlist.fr hw.fr))) (by first | omega | (simp only [List.length_append, List.length_cons, List.length_nil, List.length_take, List.length_drop] at *; omega)) (by simp only [maxLen]; first | omega | (simp only [List.length_append, List.length_cons, List.length_nil, List.length_take, List.length_drop] at *; omega)) (fun a77 c78 hn79 => ?_)
     iterate 5 (as_aux_lemma => kernel_rfl)
     refine HKEEP (js := [0, 0]) rfl (HALL [7] ?_ (by decide) ?_)
     · as_aux_lemma => kernel_rfl
     refine APPENDO 52 (.tmp 41) (.tmp 43) 44 52 ?_ (NL rfl) (.slice a77 ((([]) ++ (list.take kk)).length) c78) a73 1 1 ?_ ?_ ha74 80 ?_ partyL (.agg #[vi 0, vi 0, vi 0, vi 0, vi 0, vi 0, vi 0, vi 0, vi 0, vi 0]) 80 ?_ rfl (by decide) 3 2 (([]) ++ (list.take kk)) ([pa]) _ rfl rfl (by first | omega | (simp only [List.length_append, List.length_cons, List.length_nil, List.length_take, List.length_drop] at *; omega)) (by simp only [maxLen]; first | omega | (simp only [List.length_append, List.length_cons, List.length_nil, List.length_take, List.length_drop] at *; omega)) (fun a80 c81 hn82 => ?_)
     iterate 5 (as_aux_lemma => kernel_rfl)
     refine HKEEP (js := [0, 0]) rfl (HPURE (js := [0, 0]) 8 [(0, .v (.slice list_a list.length list_c)), (5, I (kk : Int)), (6, .v (.slice a80 (((([]) ++ (list.take kk)) ++ ([pa])).length) c81))] ?_ ?_ rfl ?_)
     iterate 2 (as_aux_lemma => kernel_rfl)
     refine HEND ?_ ?_
     · as_aux_lemma => kernel_rfl
     refine IMPORT (L0 := [(80, [vi pa.id, vi pa.cabin, vi pa.from', vi pa.size, vi pa.tier, vi pa.since, vi pa.turn, vi pa.state, vi pa.until', vi pa.asked])]) (L1 := []) [b19] rfl [0] _ rfl [(0, .v (.slice list_a list.length list_c)), (5, I (kk : Int)), (6, .v (.slice a80 (((([]) ++ (list.take kk)) ++ ([pa])).length) c81))] ?_ ?_ ?_
     iterate 2 (as_aux_lemma => kernel_rfl)
     refine JBACK (a80, c81, (([]) ++ (list.take kk)) ++ ([pa])) [0, 5, 6] 1 [0, 0] _ (by first | omega | (dsimp only; omega) | (simp only [List.length_append, List.length_cons, List.length_nil, List.length_take]; omega)) ?_ rfl rfl rfl
     · as_aux_lemma => kernel_rfl
   ·
    refine BUILDS 52 1 #[(0, .tmp 42)] 43 52 ?_ (NL rfl) 80 [vi pa.id, vi pa.cabin, vi pa.from', vi pa.size, vi pa.tier, vi pa.since, vi pa.turn, vi pa.state, vi pa.until', vi pa.asked] ?_ partyL [pa] rfl (by simp only [maxLen]; omega) [] [] _ rfl (flatRep rfl) (fun a83 ha84 => ?_)
    iterate 2 (as_aux_lemma => kernel_rfl)
    refine HKEEP (js := [0, 0]) rfl (HALL [0, 3] ?_ (by decide) ⟨?_, ?_⟩)
    · as_aux_lemma => kernel_rfl
    ·
     refine BUILDS 52 0 #[] 37 52 ?_ (NL rfl) 80 [] ?_ partyL [] rfl (by simp only [maxLen]; omega) [] [] _ rfl (flatRep rfl) (fun a85 ha86 => ?_)
     iterate 2 (as_aux_lemma => kernel_rfl)
     refine HKEEP (js := [0, 0]) rfl (HALL [3] ?_ (by decide) ?_)
     · as_aux_lemma => kernel_rfl
     refine CUTH 52 (.tmp 38) (.tmp 39) 40 52 ?_ (NL rfl) list_a list.length list_c .i64 (kk : Int) ?_ ?_ 80 partyL list ?_ ?_ (by omega) (by first | omega | (simp only [List.length_append, List.length_cons, List.length_nil, List.length_take, List.length_drop] at *; omega)) rfl (by omega) (fun a87 hsh88 => ?_)
     iterate 5 (as_aux_lemma => kernel_rfl)
     have hsh88 : ∀ w, Rd partyL w list_a list → Rd partyL w a87 (list.take kk) := hsh88
     have hln89 : (list.take kk).length = kk := by first | (simp; done) | (simp; omega)
     refine CAST (d := 40) (.slice a87 kk list_c) (.slice a87 ((list.take kk).length) list_c) ?_ (by rw [hln89]) ?_
     · as_aux_lemma => kernel_rfl
     refine HKEEP (js := [0, 0]) rfl (HALL [4] ?_ (by decide) ?_)
     · as_aux_lemma => kernel_rfl
     refine APPENDR 52 (.tmp 37) (.tmp 40) 41 52 ?_ (NL rfl) (.slice a85 0 0) a87 ((list.take kk).length) list_c ?_ ?_ 80 ?_ (.agg #[vi 0, vi 0, vi 0, vi 0, vi 0, vi 0, vi 0, vi 0, vi 0, vi 0]) 80 ?_ rfl (by decide) 3 ([]) (list.take kk) _ rfl rfl (fun w hw => (hsh88 _ (hlist.fr hw.fr))) (by first | omega | (simp only [List.length_append, List.length_cons, List.length_nil, List.length_take, List.length_drop] at *; omega)) (by simp only [maxLen]; first | omega | (simp only [List.length_append, List.length_cons, List.length_nil, List.length_take, List.length_drop] at *; omega)) (fun a90 c91 hn92 => ?_)
     iterate 5 (as_aux_lemma => kernel_rfl)
     refine HKEEP (js := [0, 0]) rfl (HALL [7] ?_ (by decide) ?_)
     · as_aux_lemma => kernel_rfl
     refine APPENDO 52 (.tmp 41) (.tmp 43) 44 52 ?_ (NL rfl) (.slice a90 ((([]) ++ (list.take kk)).length) c91) a83 1 1 ?_ ?_ ha84 80 ?_ partyL (.agg #[vi 0, vi 0, vi 0, vi 0, vi 0, vi 0, vi 0, vi 0, vi 0, vi 0]) 80 ?_ rfl (by decide) 3 2 (([]) ++ (list.take kk)) ([pa]) _ rfl rfl (by first | omega | (simp only [List.length_append, List.length_cons, List.length_nil, List.length_take, List.length_drop] at *; omega)) (by simp only [maxLen]; first | omega | (simp only [List.length_append, List.length_cons, List.length_nil, List.length_take, List.length_drop] at *; omega)) (fun a93 c94 hn95 => ?_)
     iterate 5 (as_aux_lemma => kernel_rfl)
     refine HKEEP (js := [0, 0]) rfl (HPURE (js := [0, 0]) 8 [(0, .v (.slice list_a list.length list_c)), (5, I (kk : Int)), (6, .v (.slice a93 (((([]) ++ (list.take kk)) ++ ([pa])).length) c94))] ?_ ?_ rfl ?_)
     iterate 2 (as_aux_lemma => kernel_rfl)
     refine HEND ?_ ?_
     · as_aux_lemma => kernel_rfl
     refine IMPORT (L0 := [(80, [vi pa.id, vi pa.cabin, vi pa.from', vi pa.size, vi pa.tier, vi pa.since, vi pa.turn, vi pa.state, vi pa.until', vi pa.asked])]) (L1 := []) [b19] rfl [0] _ rfl [(0, .v (.slice list_a list.length list_c)), (5, I (kk : Int)), (6, .v (.slice a93 (((([]) ++ (list.take kk)) ++ ([pa])).length) c94))] ?_ ?_ ?_
     iterate 2 (as_aux_lemma => kernel_rfl)
     refine JBACK (a93, c94, (([]) ++ (list.take kk)) ++ ([pa])) [0, 5, 6] 1 [0, 0] _ (by first | omega | (dsimp only; omega) | (simp only [List.length_append, List.length_cons, List.length_nil, List.length_take]; omega)) ?_ rfl rfl rfl
     · as_aux_lemma => kernel_rfl
    ·
     refine CUTH 52 (.tmp 38) (.tmp 39) 40 52 ?_ (NL rfl) list_a list.length list_c .i64 (kk : Int) ?_ ?_ 80 partyL list ?_ ?_ (by omega) (by first | omega | (simp only [List.length_append, List.length_cons, List.length_nil, List.length_take, List.length_drop] at *; omega)) rfl (by omega) (fun a96 hsh97 => ?_)
     iterate 5 (as_aux_lemma => kernel_rfl)
     have hsh97 : ∀ w, Rd partyL w list_a list → Rd partyL w a96 (list.take kk) := hsh97
     have hln98 : (list.take kk).length = kk := by first | (simp; done) | (simp; omega)
     refine CAST (d := 40) (.slice a96 kk list_c) (.slice a96 ((list.take kk).length) list_c) ?_ (by rw [hln98]) ?_
     · as_aux_lemma => kernel_rfl
     refine HKEEP (js := [0, 0]) rfl (HALL [0] ?_ (by decide) ?_)
     · as_aux_lemma => kernel_rfl
     refine BUILDS 52 0 #[] 37 52 ?_ (NL rfl) 80 [] ?_ partyL [] rfl (by simp only [maxLen]; omega) [] [] _ rfl (flatRep rfl) (fun a99 ha100 => ?_)
     iterate 2 (as_aux_lemma => kernel_rfl)
     refine HKEEP (js := [0, 0]) rfl (HALL [4] ?_ (by decide) ?_)
     · as_aux_lemma => kernel_rfl
     refine APPENDR 52 (.tmp 37) (.tmp 40) 41 52 ?_ (NL rfl) (.slice a99 0 0) a96 ((list.take kk).length) list_c ?_ ?_ 80 ?_ (.agg #[vi 0, vi 0, vi 0, vi 0, vi 0, vi 0, vi 0, vi 0, vi 0, vi 0]) 80 ?_ rfl (by decide) 3 ([]) (list.take kk) _ rfl rfl (fun w hw => (hsh97 _ (hlist.fr hw.fr))) (by first | omega | (simp only [List.length_append, List.length_cons, List.length_nil, List.length_take, List.length_drop] at *; omega)) (by simp only [maxLen]; first | omega | (simp only [List.length_append, List.length_cons, List.length_nil, List.length_take, List.length_drop] at *; omega)) (fun a101 c102 hn103 => ?_)
     iterate 5 (as_aux_lemma => kernel_rfl)
     refine HKEEP (js := [0, 0]) rfl (HALL [7] ?_ (by decide) ?_)
     · as_aux_lemma => kernel_rfl
     refine APPENDO 52 (.tmp 41) (.tmp 43) 44 52 ?_ (NL rfl) (.slice a101 ((([]) ++ (list.take kk)).length) c102) a83 1 1 ?_ ?_ ha84 80 ?_ partyL (.agg #[vi 0, vi 0, vi 0, vi 0, vi 0, vi 0, vi 0, vi 0, vi 0, vi 0]) 80 ?_ rfl (by decide) 3 2 (([]) ++ (list.take kk)) ([pa]) _ rfl rfl (by first | omega | (simp only [List.length_append, List.length_cons, List.length_nil, List.length_take, List.length_drop] at *; omega)) (by simp only [maxLen]; first | omega | (simp only [List.length_append, List.length_cons, List.length_nil, List.length_take, List.length_drop] at *; omega)) (fun a104 c105 hn106 => ?_)
     iterate 5 (as_aux_lemma => kernel_rfl)
     refine HKEEP (js := [0, 0]) rfl (HPURE (js := [0, 0]) 8 [(0, .v (.slice list_a list.length list_c)), (5, I (kk : Int)), (6, .v (.slice a104 (((([]) ++ (list.take kk)) ++ ([pa])).length) c105))] ?_ ?_ rfl ?_)
     iterate 2 (as_aux_lemma => kernel_rfl)
     refine HEND ?_ ?_
     · as_aux_lemma => kernel_rfl
     refine IMPORT (L0 := [(80, [vi pa.id, vi pa.cabin, vi pa.from', vi pa.size, vi pa.tier, vi pa.since, vi pa.turn, vi pa.state, vi pa.until', vi pa.asked])]) (L1 := []) [b19] rfl [0] _ rfl [(0, .v (.slice list_a list.length list_c)), (5, I (kk : Int)), (6, .v (.slice a104 (((([]) ++ (list.take kk)) ++ ([pa])).length) c105))] ?_ ?_ ?_
     iterate 2 (as_aux_lemma => kernel_rfl)
     refine JBACK (a104, c105, (([]) ++ (list.take kk)) ++ ([pa])) [0, 5, 6] 1 [0, 0] _ (by first | omega | (dsimp only; omega) | (simp only [List.length_append, List.length_cons, List.length_nil, List.length_take]; omega)) ?_ rfl rfl rfl
     · as_aux_lemma => kernel_rfl
  rintro ⟨oa, oc, xo⟩ hi107
  try dsimp only at hi107
  refine SEQ (REGION [0, 1, 2, 3, 4, 5] rfl (RUN0 3 [3, 4, 5] [(45, .v (.slice oa xo.length oc)), (46, .v (.slice list_a list.length list_c)), (47, I (kk : Int))] ?_ rfl ?_))
  · as_aux_lemma => kernel_rfl
  refine OPC (CUTL 52 (.tmp 46) (.tmp 47) 48 52 ?_ (NL rfl) list_a list.length list_c .i64 (kk : Int) ?_ ?_ 80 partyL list ?_ ?_ (by omega) (by first | omega | (simp only [List.length_append, List.length_cons, List.length_nil, List.length_take, List.length_drop] at *; omega)) rfl (by omega) (fun a108 hsh109 => ?_))
  iterate 5 (as_aux_lemma => kernel_rfl)
  have hsh109 : ∀ w, Rd partyL w list_a list → Rd partyL w a108 (list.drop kk) := hsh109
  have hln110 : (list.drop kk).length = list.length - kk := by first | (simp; done) | (simp; omega)
  refine CAST (d := 48) (.slice a108 (list.length - kk) (list_c - kk)) (.slice a108 ((list.drop kk).length) (list_c - kk)) ?_ (by rw [hln110]) ?_
  · as_aux_lemma => kernel_rfl
  refine OPC (APPENDR 52 (.tmp 45) (.tmp 48) 49 52 ?_ (NL rfl) (.slice oa xo.length oc) a108 ((list.drop kk).length) (list_c - kk) ?_ ?_ 80 ?_ (.agg #[vi 0, vi 0, vi 0, vi 0, vi 0, vi 0, vi 0, vi 0, vi 0, vi 0]) 80 ?_ rfl (by decide) 1 xo (list.drop kk) _ rfl rfl (fun w hw => (hsh109 _ (hlist.fr hw.fr))) (by first | omega | (simp only [List.length_append, List.length_cons, List.length_nil, List.length_take, List.length_drop] at *; omega)) (by simp only [maxLen]; first | omega | (simp only [List.length_append, List.length_cons, List.length_nil, List.length_take, List.length_drop] at *; omega)) (fun a111 c112 hn113 => ?_))
  iterate 5 (as_aux_lemma => kernel_rfl)
  refine RUN0 1 [] [(4, .v (.slice a111 ((xo ++ (list.drop kk)).length) c112))] ?_ rfl ?_
  · as_aux_lemma => kernel_rfl
  refine ENDOPS (NEXT (RET (FIN (.slice a111 ((xo ++ (list.drop kk)).length) c112) ?_ ⟨((a111, c112), xo ++ (list.drop kk)), (by first | omega | (dsimp only; omega) | (simp only [List.length_append, List.length_cons, List.length_nil, List.length_take, List.length_drop, List.length_set]; omega))⟩ ?_ [1] ?_)))
  · as_aux_lemma => kernel_rfl
  · rfl
  · rfl

theorem todoPut_c (W : World) (list : List Int) (list_a : Option Addr) (list_c : Nat) (hlist : Rd intL W list_a list) (cabin : Int) (hb : list.length ≤ 1048576) : Spec Tryz.prog W [] 53 #[.slice list_a list.length list_c, vi cabin] (⟨{q : (HH) × (List Int) // (fun x : List Int => x.length ≤ list.length + 1) q.2}, fun q => .slice q.1.1.1 q.1.2.length q.1.1.2, fun q => [slA 3 intL (.slice q.1.1.1 q.1.2.length q.1.1.2) q.1.2]⟩) := by
 refine ENTER0 (N := 17) (vs := [.slice list_a list.length list_c, vi cabin]) Tryz.func53 rfl rfl (NL rfl) ?_
 have hlist_len := hlist.len
 refine SEQ (REGION [0] rfl (RUN0 1 [] [(0, .v (.slice list_a list.length list_c)), (1, I cabin)] ?_ rfl ?_))
 · as_aux_lemma => kernel_rfl
 refine ENDOPS (NEXT (SEQ (REGION [0, 1, 2, 3] rfl (OPC (BUILDS 42 0 #[] 6 42 ?_ (NL rfl) 3 [] ?_ intL [] rfl (by simp only [maxLen]; omega) [] [] _ rfl (flatRep rfl) (fun a1 ha2 => ?_))))))
 iterate 2 (as_aux_lemma => kernel_rfl)
 refine RUN0 1 [2, 3] [(0, .v (.slice list_a list.length list_c)), (1, I cabin), (6, .v (.slice a1 0 0)), (7, .v (.slice list_a list.length list_c))] ?_ rfl ?_
 · as_aux_lemma => kernel_rfl
 refine OPC (APPENDR 42 (.tmp 6) (.tmp 7) 8 42 ?_ (NL rfl) (.slice a1 0 0) list_a list.length list_c ?_ ?_ 3 ?_ (vi 0) 8 ?_ rfl (by decide) 0 ([]) list _ rfl rfl (fun w hw => (hlist.fr hw.fr)) (by first | omega | (simp only [List.length_append, List.length_cons, List.length_nil, List.length_take, List.length_drop] at *; omega)) (by simp only [maxLen]; first | omega | (simp only [List.length_append, List.length_cons, List.length_nil, List.length_take, List.length_drop] at *; omega)) (fun a3 c4 hn5 => ?_))
 iterate 5 (as_aux_lemma => kernel_rfl)
 refine RUN0 1 [] [(0, .v (.slice list_a list.length list_c)), (1, I cabin), (5, .v (.slice a3 ((([]) ++ list).length) c4))] ?_ rfl ?_
 · as_aux_lemma => kernel_rfl
 refine ENDOPS (NEXT (SEQ (SEQ (REGION [0, 1, 2] rfl (RUN0 2 [2] [(1, I cabin), (5, .v (.slice a3 ((([]) ++ list).length) c4)), (9, .v (.slice list_a list.length list_c)), (10, I cabin)] ?_ rfl ?_)))))
 · as_aux_lemma => kernel_rfl
 refine OPC (CALL 75 #[.slice list_a list.length list_c, vi cabin] (some 11) ?_ [] [] _ rfl (⟨{x : Bool // True}, fun q => .bool q.1, fun q => []⟩) (fun w hw => l1Has_c w list list_a list_c (hlist.fr hw.fr) cabin) (NO rfl) ?_)
 · as_aux_lemma => kernel_rfl
 rintro ⟨m6, hm7⟩
 try dsimp only at hm7
 refine ENDOPS (NEXT (IF (m6) ?_ (fun bh8 => ?_) (fun bh8 => ?_)))
 · as_aux_lemma => kernel_rfl
 ·
  have h8 := bh8
  refine SEQ (REGION [0, 1] rfl (RUN0 2 [] [(4, .v (.slice a3 ((([]) ++ list).length) c4))] ?_ rfl ?_))
  · as_aux_lemma => kernel_rfl
  refine ENDOPS (NEXT (RET (PASS trivial (FIN (.slice a3 ((([]) ++ list).length) c4) ?_ ⟨((a3, c4), ([]) ++ list), (by first | omega | (dsimp only; omega) | (simp only [List.length_append, List.length_cons, List.length_nil]; omega))⟩ ?_ [0] ?_))))
  · as_aux_lemma => kernel_rfl
  · rfl
  · rfl
 ·
  have h8 := bh8
  refine SKIP (NEXT (SEQ (REGION [0, 1, 2, 3, 4] rfl (RUN0 2 [2, 3, 4] [(13, .v (.slice a3 ((([]) ++ list).length) c4)), (14, I cabin)] ?_ rfl ?_))))
  · as_aux_lemma => kernel_rfl
  refine OPC (BUILDS 42 1 #[(0, .tmp 14)] 15 42 ?_ (NL rfl) 3 [vi cabin] ?_ intL [cabin] rfl (by simp only [maxLen]; omega) [] [] _ rfl (flatRep rfl) (fun a9 ha10 => ?_))
  iterate 2 (as_aux_lemma => kernel_rfl)
  refine OPC (APPENDO 42 (.tmp 13) (.tmp 15) 16 42 ?_ (NL rfl) (.slice a3 ((([]) ++ list).length) c4) a9 1 1 ?_ ?_ ha10 3 ?_ intL (vi 0) 8 ?_ rfl (by decide) 0 0 (([]) ++ list) ([cabin]) _ rfl rfl (by first | omega | (simp only [List.length_append, List.length_cons, List.length_nil, List.length_take, List.length_drop] at *; omega)) (by simp only [maxLen]; first | omega | (simp only [List.length_append, List.length_cons, List.length_nil, List.length_take, List.length_drop] at *; omega)) (fun a11 c12 hn13 => ?_))
  iterate 5 (as_aux_lemma => kernel_rfl)
  refine RUN0 1 [] [(4, .v (.slice a11 (((([]) ++ list) ++ ([cabin])).length) c12))] ?_ rfl ?_
  · as_aux_lemma => kernel_rfl
  refine ENDOPS (NEXT (RET (FIN (.slice a11 (((([]) ++ list) ++ ([cabin])).length) c12) ?_ ⟨((a11, c12), (([]) ++ list) ++ ([cabin])), (by first | omega | (dsimp only; omega) | (simp only [List.length_append, List.length_cons, List.length_nil]; omega))⟩ ?_ [0] ?_)))
  · as_aux_lemma => kernel_rfl
  · rfl
  · rfl

theorem l11Room_c (W : World) (ho : House) (ho_rules_seats_a : Option Addr) (ho_rules_seats_c : Nat) (hho_rules_seats : Rd intL W ho_rules_seats_a ho.rules.seats) (ho_parties_a : Option Addr) (ho_parties_c : Nat) (hho_parties : Rd partyL W ho_parties_a ho.parties) (ho_cabins_a : Option Addr) (ho_cabins_c : Nat) (hho_cabins : Rd (cabinLx 129 106 111) W ho_cabins_a ho.cabins) (ho_todo_a : Option Addr) (ho_todo_c : Nat) (hho_todo : Rd intL W ho_todo_a ho.todo) (ho_jobs_a : Option Addr) (ho_jobs_c : Nat) (hho_jobs : Rd intL W ho_jobs_a ho.jobs) (pa : Party) (hc : ho.cabins.length ≤ ho.rules.seats.length) (hb : ho.parties.length ≤ 1048576) : Spec Tryz.prog W [] 50 #[.agg #[.slice ho_rules_seats_a ho.rules.seats.length ho_rules_seats_c, vi ho.rules.tiers, vi ho.rules.room, vi ho.rules.size, vi ho.rules.period, vi ho.rules.window, vi ho.rules.rest, vi ho.rules.tries, vi ho.rules.crew, vi ho.now, vi ho.turn, .slice ho_parties_a ho.parties.length ho_parties_c, .slice ho_cabins_a ho.cabins.length ho_cabins_c, .slice ho_todo_a ho.todo.length ho_todo_c, .slice ho_jobs_a ho.jobs.length ho_jobs_c], .agg #[vi pa.id, vi pa.cabin, vi pa.from', vi pa.size, vi pa.tier, vi pa.since, vi pa.turn, vi pa.state, vi pa.until', vi pa.asked]] (⟨{x : Bool // True}, fun q => .bool q.1, fun q => []⟩) := by
 refine ENTER0 (N := 35) (vs := [.agg #[.slice ho_rules_seats_a ho.rules.seats.length ho_rules_seats_c, vi ho.rules.tiers, vi ho.rules.room, vi ho.rules.size, vi ho.rules.period, vi ho.rules.window, vi ho.rules.rest, vi ho.rules.tries, vi ho.rules.crew, vi ho.now, vi ho.turn, .slice ho_parties_a ho.parties.length ho_parties_c, .slice ho_cabins_a ho.cabins.length ho_cabins_c, .slice ho_todo_a ho.todo.length ho_todo_c, .slice ho_jobs_a ho.jobs.length ho_jobs_c], .agg #[vi pa.id, vi pa.cabin, vi pa.from', vi pa.size, vi pa.tier, vi pa.since, vi pa.turn, vi pa.state, vi pa.until', vi pa.asked]]) Tryz.func50 rfl rfl (NL rfl) ?_
 have hho_rules_seats_len := hho_rules_seats.len
 have hho_parties_len := hho_parties.len
 have hho_cabins_len := hho_cabins.len
 have hho_todo_len := hho_todo.len
 have hho_jobs_len := hho_jobs.len
 refine SEQ (REGION [0, 1, 2] rfl (RUN 3 [] [(2, .p 0 0), (3, .p 1 0)] [(55, [.slice ho_rules_seats_a ho.rules.seats.length ho_rules_seats_c, vi ho.rules.tiers, vi ho.rules.room, vi ho.rules.size, vi ho.rules.period, vi ho.rules.window, vi ho.rules.rest, vi ho.rules.tries, vi ho.rules.crew, vi ho.now, vi ho.turn, .slice ho_parties_a ho.parties.length ho_parties_c, .slice ho_cabins_a ho.cabins.length ho_cabins_c, .slice ho_todo_a ho.todo.length ho_todo_c, .slice ho_jobs_a ho.jobs.length ho_jobs_c]), (80, [vi pa.id, vi pa.cabin, vi pa.from', vi pa.size, vi pa.tier, vi pa.since, vi pa.turn, vi pa.state, vi pa.until', vi pa.asked])] ?_ rfl ?_))
 · as_aux_lemma => kernel_rfl
 refine ENDOPS (NEXT (SEQJ (ι := (Option Addr) × Nat × (List Party)) (fun j => [(2, .p 0 0), (5, .v (.slice j.1 j.2.2.length j.2.1))]) (fun j => [(55, [.slice ho_rules_seats_a ho.rules.seats.length ho_rules_seats_c, vi ho.rules.tiers, vi ho.rules.room, vi ho.rules.size, vi ho.rules.period, vi ho.rules.window, vi ho.rules.rest, vi ho.rules.tries, vi ho.rules.crew, vi ho.now, vi ho.turn, .slice ho_parties_a ho.parties.length ho_parties_c, .slice ho_cabins_a ho.cabins.length ho_cabins_c, .slice ho_todo_a ho.todo.length ho_todo_c, .slice ho_jobs_a ho.jobs.length ho_jobs_c]), (80, [vi pa.id, vi pa.cabin, vi pa.from', vi pa.size, vi pa.tier, vi pa.since, vi pa.turn, vi pa.state, vi pa.until', vi pa.asked])]) (fun j => [slA 80 partyL (.slice j.1 j.2.2.length j.2.1) j.2.2]) (fun j => j.2.2.length = ho.parties.length + 1) ?_ ?_))
 ·
  refine EXPORT (fun bs hbs => ?_)
  obtain ⟨b1, b2, rfl⟩ := len2 hbs
  refine REGIONH ?_ 8 rfl [ptC b1 55 [.slice ho_rules_seats_a ho.rules.seats.length ho_rules_seats_c, vi ho.rules.tiers, vi ho.rules.room, vi ho.rules.size, vi ho.rules.period, vi ho.rules.window, vi ho.rules.rest, vi ho.rules.tries, vi ho.rules.crew, vi ho.now, vi ho.turn, .slice ho_parties_a ho.parties.length ho_parties_c, .slice ho_cabins_a ho.cabins.length ho_cabins_c, .slice ho_todo_a ho.todo.length ho_todo_c, .slice ho_jobs_a ho.jobs.length ho_jobs_c], ptC b2 80 [vi pa.id, vi pa.cabin, vi pa.from', vi pa.size, vi pa.tier, vi pa.since, vi pa.turn, vi pa.state, vi pa.until', vi pa.asked]] ?_
  · as_aux_lemma => kernel_rfl
  refine HPURE (js := [0, 0]) 1 [(2, .e (some ⟨b1, 0, none⟩) 0 0), (3, .e (some ⟨b2, 0, none⟩) 0 0), (8, .e (some ⟨b1, 0, none⟩) 0 11)] ?_ ?_ rfl ?_
  iterate 2 (as_aux_lemma => kernel_rfl)
  refine HLOADE (i := 2) (js := [0, 0])  52 (.tmp 8) 9 52 ?_ (NL rfl) (some ⟨b1, 0, none⟩) 0 11 [.slice ho_rules_seats_a ho.rules.seats.length ho_rules_seats_c, vi ho.rules.tiers, vi ho.rules.room, vi ho.rules.size, vi ho.rules.period, vi ho.rules.window, vi ho.rules.rest, vi ho.rules.tries, vi ho.rules.crew, vi ho.now, vi ho.turn, .slice ho_parties_a ho.parties.length ho_parties_c, .slice ho_cabins_a ho.cabins.length ho_cabins_c, .slice ho_todo_a ho.todo.length ho_todo_c, .slice ho_jobs_a ho.jobs.length ho_jobs_c] (.slice ho_parties_a ho.parties.length ho_parties_c) ?_ (fun w hw => ptC_elem (hw.own 0 rfl)) ?_ ?_ rfl ?_
  iterate 4 (as_aux_lemma => kernel_rfl)
  refine HLOADE (i := 4) (js := [0, 0])  80 (.tmp 3) 11 80 ?_ (NL rfl) (some ⟨b2, 0, none⟩) 0 0 [vi pa.id, vi pa.cabin, vi pa.from', vi pa.size, vi pa.tier, vi pa.since, vi pa.turn, vi pa.state, vi pa.until', vi pa.asked] (.agg #[vi pa.id, vi pa.cabin, vi pa.from', vi pa.size, vi pa.tier, vi pa.since, vi pa.turn, vi pa.state, vi pa.until', vi pa.asked]) ?_ (fun w hw => ptC_elem (hw.own 1 rfl)) ?_ ?_ rfl ?_
  iterate 4 (as_aux_lemma => kernel_rfl)
  refine HALL [0, 5] ?_ (by decide) ⟨?_, ?_⟩
  · as_aux_lemma => kernel_rfl
  ·
   refine BUILDS 52 0 #[] 7 52 ?_ (NL rfl) 80 [] ?_ partyL [] rfl (by simp only [maxLen]; omega) [] [] _ rfl (flatRep rfl) (fun a3 ha4 => ?_)
   iterate 2 (as_aux_lemma => kernel_rfl)
   refine HKEEP (js := [0, 0]) rfl (HALL [3, 5] ?_ (by decide) ⟨?_, ?_⟩)
   · as_aux_lemma => kernel_rfl
   ·
    refine APPENDR 52 (.tmp 7) (.tmp 9) 10 52 ?_ (NL rfl) (.slice a3 0 0) ho_parties_a ho.parties.length ho_parties_c ?_ ?_ 80 ?_ (.agg #[vi 0, vi 0, vi 0, vi 0, vi 0, vi 0, vi 0, vi 0, vi 0, vi 0]) 80 ?_ rfl (by decide) 2 ([]) ho.parties _ rfl rfl (fun w hw => (hho_parties.fr hw.fr)) (by first | omega | (simp only [List.length_append, List.length_cons, List.length_nil, List.length_take, List.length_drop] at *; omega)) (by simp only [maxLen]; first | omega | (simp only [List.length_append, List.length_cons, List.length_nil, List.length_take, List.length_drop] at *; omega)) (fun a5 c6 hn7 => ?_)
    iterate 5 (as_aux_lemma => kernel_rfl)
    refine HKEEP (js := [0, 0]) rfl (HALL [5] ?_ (by decide) ?_)
    · as_aux_lemma => kernel_rfl
    refine BUILDS 52 1 #[(0, .tmp 11)] 12 52 ?_ (NL rfl) 80 [vi pa.id, vi pa.cabin, vi pa.from', vi pa.size, vi pa.tier, vi pa.since, vi pa.turn, vi pa.state, vi pa.until', vi pa.asked] ?_ partyL [pa] rfl (by simp only [maxLen]; omega) [] [] _ rfl (flatRep rfl) (fun a8 ha9 => ?_)
    iterate 2 (as_aux_lemma => kernel_rfl)
    refine HKEEP (js := [0, 0]) rfl (HALL [6] ?_ (by decide) ?_)
    · as_aux_lemma => kernel_rfl
    refine APPENDO 52 (.tmp 10) (.tmp 12) 13 52 ?_ (NL rfl) (.slice a5 ((([]) ++ ho.parties).length) c6) a8 1 1 ?_ ?_ ha9 80 ?_ partyL (.agg #[vi 0, vi 0, vi 0, vi 0, vi 0, vi 0, vi 0, vi 0, vi 0, vi 0]) 80 ?_ rfl (by decide) 2 2 (([]) ++ ho.parties) ([pa]) _ rfl rfl (by first | omega | (simp only [List.length_append, List.length_cons, List.length_nil, List.length_take, List.length_drop] at *; omega)) (by simp only [maxLen]; first | omega | (simp only [List.length_append, List.length_cons, List.length_nil, List.length_take, List.length_drop] at *; omega)) (fun a10 c11 hn12 => ?_)
    iterate 5 (as_aux_lemma => kernel_rfl)
    refine HKEEP (js := [0, 0]) rfl (HPURE (js := [0, 0]) 7 [(2, .e (some ⟨b1, 0, none⟩) 0 0), (5, .v (.slice a10 (((([]) ++ ho.parties) ++ ([pa])).length) c11))] ?_ ?_ rfl ?_)
    iterate 2 (as_aux_lemma => kernel_rfl)
    refine HEND ?_ ?_
    · as_aux_lemma => kernel_rfl
    refine IMPORT (L0 := [(55, [.slice ho_rules_seats_a ho.rules.seats.length ho_rules_seats_c, vi ho.rules.tiers, vi ho.rules.room, vi ho.rules.size, vi ho.rules.period, vi ho.rules.window, vi ho.rules.rest, vi ho.rules.tries, vi ho.rules.crew, vi ho.now, vi ho.turn, .slice ho_parties_a ho.parties.length ho_parties_c, .slice ho_cabins_a ho.cabins.length ho_cabins_c, .slice ho_todo_a ho.todo.length ho_todo_c, .slice ho_jobs_a ho.jobs.length ho_jobs_c]), (80, [vi pa.id, vi pa.cabin, vi pa.from', vi pa.size, vi pa.tier, vi pa.since, vi pa.turn, vi pa.state, vi pa.until', vi pa.asked])]) (L1 := []) [b1, b2] rfl [0, 0] _ rfl [(2, .p 0 0), (5, .v (.slice a10 (((([]) ++ ho.parties) ++ ([pa])).length) c11))] ?_ ?_ ?_
    iterate 2 (as_aux_lemma => kernel_rfl)
    refine JBACK (a10, c11, (([]) ++ ho.parties) ++ ([pa])) [2, 5] 2 [0] _ (by first | omega | (dsimp only; omega) | (simp only [List.length_append, List.length_cons, List.length_nil, List.length_take]; omega)) ?_ rfl rfl rfl
    · as_aux_lemma => kernel_rfl
   ·
    refine BUILDS 52 1 #[(0, .tmp 11)] 12 52 ?_ (NL rfl) 80 [vi pa.id, vi pa.cabin, vi pa.from', vi pa.size, vi pa.tier, vi pa.since, vi pa.turn, vi pa.state, vi pa.until', vi pa.asked] ?_ partyL [pa] rfl (by simp only [maxLen]; omega) [] [] _ rfl (flatRep rfl) (fun a13 ha14 => ?_)
    iterate 2 (as_aux_lemma => kernel_rfl)
    refine HKEEP (js := [0, 0]) rfl (HALL [3] ?_ (by decide) ?_)
    · as_aux_lemma => kernel_rfl
    refine APPENDR 52 (.tmp 7) (.tmp 9) 10 52 ?_ (NL rfl) (.slice a3 0 0) ho_parties_a ho.parties.length ho_parties_c ?_ ?_ 80 ?_ (.agg #[vi 0, vi 0, vi 0, vi 0, vi 0, vi 0, vi 0, vi 0, vi 0, vi 0]) 80 ?_ rfl (by decide) 2 ([]) ho.parties _ rfl rfl (fun w hw => (hho_parties.fr hw.fr)) (by first | omega | (simp only [List.length_append, List.length_cons, List.length_nil, List.length_take, List.length_drop] at *; omega)) (by simp only [maxLen]; first | omega | (simp only [List.length_append, List.length_cons, List.length_nil, List.length_take, List.length_drop] at *; omega)) (fun a15 c16 hn17 => ?_)
    iterate 5 (as_aux_lemma => kernel_rfl)
    refine HKEEP (js := [0, 0]) rfl (HALL [6] ?_ (by decide) ?_)
    · as_aux_lemma => kernel_rfl
    refine APPENDO 52 (.tmp 10) (.tmp 12) 13 52 ?_ (NL rfl) (.slice a15 ((([]) ++ ho.parties).length) c16) a13 1 1 ?_ ?_ ha14 80 ?_ partyL (.agg #[vi 0, vi 0, vi 0, vi 0, vi 0, vi 0, vi 0, vi 0, vi 0, vi 0]) 80 ?_ rfl (by decide) 3 2 (([]) ++ ho.parties) ([pa]) _ rfl rfl (by first | omega | (simp only [List.length_append, List.length_cons, List.length_nil, List.length_take, List.length_drop] at *; omega)) (by simp only [maxLen]; first | omega | (simp only [List.length_append, List.length_cons, List.length_nil, List.length_take, List.length_drop] at *; omega)) (fun a18 c19 hn20 => ?_)
    iterate 5 (as_aux_lemma => kernel_rfl)
    refine HKEEP (js := [0, 0]) rfl (HPURE (js := [0, 0]) 7 [(2, .e (some ⟨b1, 0, none⟩) 0 0), (5, .v (.slice a18 (((([]) ++ ho.parties) ++ ([pa])).length) c19))] ?_ ?_ rfl ?_)
    iterate 2 (as_aux_lemma => kernel_rfl)
    refine HEND ?_ ?_
    · as_aux_lemma => kernel_rfl
    refine IMPORT (L0 := [(55, [.slice ho_rules_seats_a ho.rules.seats.length ho_rules_seats_c, vi ho.rules.tiers, vi ho.rules.room, vi ho.rules.size, vi ho.rules.period, vi ho.rules.window, vi ho.rules.rest, vi ho.rules.tries, vi ho.rules.crew, vi ho.now, vi ho.turn, .slice ho_parties_a ho.parties.length ho_parties_c, .slice ho_cabins_a ho.cabins.length ho_cabins_c, .slice ho_todo_a ho.todo.length ho_todo_c, .slice ho_jobs_a ho.jobs.length ho_jobs_c]), (80, [vi pa.id, vi pa.cabin, vi pa.from', vi pa.size, vi pa.tier, vi pa.since, vi pa.turn, vi pa.state, vi pa.until', vi pa.asked])]) (L1 := []) [b1, b2] rfl [0, 0] _ rfl [(2, .p 0 0), (5, .v (.slice a18 (((([]) ++ ho.parties) ++ ([pa])).length) c19))] ?_ ?_ ?_
    iterate 2 (as_aux_lemma => kernel_rfl)
    refine JBACK (a18, c19, (([]) ++ ho.parties) ++ ([pa])) [2, 5] 2 [0] _ (by first | omega | (dsimp only; omega) | (simp only [List.length_append, List.length_cons, List.length_nil, List.length_take]; omega)) ?_ rfl rfl rfl
    · as_aux_lemma => kernel_rfl
  ·
   refine BUILDS 52 1 #[(0, .tmp 11)] 12 52 ?_ (NL rfl) 80 [vi pa.id, vi pa.cabin, vi pa.from', vi pa.size, vi pa.tier, vi pa.since, vi pa.turn, vi pa.state, vi pa.until', vi pa.asked] ?_ partyL [pa] rfl (by simp only [maxLen]; omega) [] [] _ rfl (flatRep rfl) (fun a21 ha22 => ?_)
   iterate 2 (as_aux_lemma => kernel_rfl)
   refine HKEEP (js := [0, 0]) rfl (HALL [0] ?_ (by decide) ?_)
   · as_aux_lemma => kernel_rfl
   refine BUILDS 52 0 #[] 7 52 ?_ (NL rfl) 80 [] ?_ partyL [] rfl (by simp only [maxLen]; omega) [] [] _ rfl (flatRep rfl) (fun a23 ha24 => ?_)
   iterate 2 (as_aux_lemma => kernel_rfl)
   refine HKEEP (js := [0, 0]) rfl (HALL [3] ?_ (by decide) ?_)
   · as_aux_lemma => kernel_rfl
   refine APPENDR 52 (.tmp 7) (.tmp 9) 10 52 ?_ (NL rfl) (.slice a23 0 0) ho_parties_a ho.parties.length ho_parties_c ?_ ?_ 80 ?_ (.agg #[vi 0, vi 0, vi 0, vi 0, vi 0, vi 0, vi 0, vi 0, vi 0, vi 0]) 80 ?_ rfl (by decide) 3 ([]) ho.parties _ rfl rfl (fun w hw => (hho_parties.fr hw.fr)) (by first | omega | (simp only [List.length_append, List.length_cons, List.length_nil, List.length_take, List.length_drop] at *; omega)) (by simp only [maxLen]; first | omega | (simp only [List.length_append, List.length_cons, List.length_nil, List.length_take, List.length_drop] at *; omega)) (fun a25 c26 hn27 => ?_)
   iterate 5 (as_aux_lemma => kernel_rfl)
   refine HKEEP (js := [0, 0]) rfl (HALL [6] ?_ (by decide) ?_)
   · as_aux_lemma => kernel_rfl
   refine APPENDO 52 (.tmp 10) (.tmp 12) 13 52 ?_ (NL rfl) (.slice a25 ((([]) ++ ho.parties).length) c26) a21 1 1 ?_ ?_ ha22 80 ?_ partyL (.agg #[vi 0, vi 0, vi 0, vi 0, vi 0, vi 0, vi 0, vi 0, vi 0, vi 0]) 80 ?_ rfl (by decide) 3 2 (([]) ++ ho.parties) ([pa]) _ rfl rfl (by first | omega | (simp only [List.length_append, List.length_cons, List.length_nil, List.length_take, List.length_drop] at *; omega)) (by simp only [maxLen]; first | omega | (simp only [List.length_append, List.length_cons, List.length_nil, List.length_take, List.length_drop] at *; omega)) (fun a28 c29 hn30 => ?_)
   iterate 5 (as_aux_lemma => kernel_rfl)
   refine HKEEP (js := [0, 0]) rfl (HPURE (js := [0, 0]) 7 [(2, .e (some ⟨b1, 0, none⟩) 0 0), (5, .v (.slice a28 (((([]) ++ ho.parties) ++ ([pa])).length) c29))] ?_ ?_ rfl ?_)
   iterate 2 (as_aux_lemma => kernel_rfl)
   refine HEND ?_ ?_
   · as_aux_lemma => kernel_rfl
   refine IMPORT (L0 := [(55, [.slice ho_rules_seats_a ho.rules.seats.length ho_rules_seats_c, vi ho.rules.tiers, vi ho.rules.room, vi ho.rules.size, vi ho.rules.period, vi ho.rules.window, vi ho.rules.rest, vi ho.rules.tries, vi ho.rules.crew, vi ho.now, vi ho.turn, .slice ho_parties_a ho.parties.length ho_parties_c, .slice ho_cabins_a ho.cabins.length ho_cabins_c, .slice ho_todo_a ho.todo.length ho_todo_c, .slice ho_jobs_a ho.jobs.length ho_jobs_c]), (80, [vi pa.id, vi pa.cabin, vi pa.from', vi pa.size, vi pa.tier, vi pa.since, vi pa.turn, vi pa.state, vi pa.until', vi pa.asked])]) (L1 := []) [b1, b2] rfl [0, 0] _ rfl [(2, .p 0 0), (5, .v (.slice a28 (((([]) ++ ho.parties) ++ ([pa])).length) c29))] ?_ ?_ ?_
   iterate 2 (as_aux_lemma => kernel_rfl)
   refine JBACK (a28, c29, (([]) ++ ho.parties) ++ ([pa])) [2, 5] 2 [0] _ (by first | omega | (dsimp only; omega) | (simp only [List.length_append, List.length_cons, List.length_nil, List.length_take]; omega)) ?_ rfl rfl rfl
   · as_aux_lemma => kernel_rfl
 rintro ⟨oa, oc, xo⟩ hi31
 try dsimp only at hi31
 refine SEQ (SEQ (REGION [0] rfl (RUN0 1 [] [(2, .p 0 0), (5, .v (.slice oa xo.length oc)), (6, I 0)] ?_ rfl ?_)))
 · as_aux_lemma => kernel_rfl
 refine ENDOPS (NEXT (BLOCK (LOOP (ι := Nat × (List Cabin)) (fun j => [(2, .p 0 0), (5, .v (.slice oa xo.length oc)), (6, I (j.1 : Int))]) (fun j => [(55, [.slice ho_rules_seats_a ho.rules.seats.length ho_rules_seats_c, vi ho.rules.tiers, vi ho.rules.room, vi ho.rules.size, vi ho.rules.period, vi ho.rules.window, vi ho.rules.rest, vi ho.rules.tries, vi ho.rules.crew, vi ho.now, vi ho.turn, .slice ho_parties_a ho.parties.length ho_parties_c, .slice ho_cabins_a ho.cabins.length ho_cabins_c, .slice ho_todo_a ho.todo.length ho_todo_c, .slice ho_jobs_a ho.jobs.length ho_jobs_c]), (80, [vi pa.id, vi pa.cabin, vi pa.from', vi pa.size, vi pa.tier, vi pa.since, vi pa.turn, vi pa.state, vi pa.until', vi pa.asked])]) (fun j => [slA 80 partyL (.slice oa xo.length oc) xo]) (fun j => j.1 + j.2.length = ho.cabins.length ∧ ho.cabins.drop j.1 = j.2) (fun j => j.2.length) (0, ho.cabins) [2, 5, 6] ⟨by simp, rfl⟩ ?_ rfl rfl ?_)))
 · as_aux_lemma => kernel_rfl
 rintro ⟨k, ys⟩ ⟨hk, hd⟩
 try dsimp only at hk hd
 refine SEQ (SEQ (REGION [0, 1, 2, 3, 4] rfl (RUN0 5 [] [(2, .p 0 0), (5, .v (.slice oa xo.length oc)), (6, I (k : Int)), (18, B (decide ((k : Int) < (ho.cabins.length : Int))))] ?_ rfl ?_)))
 · as_aux_lemma => kernel_rfl
 refine ENDOPS (NEXT (IF (decide ((k : Int) < (ho.cabins.length : Int))) ?_ (fun bh32 => ?_) (fun bh32 => ?_)))
 · as_aux_lemma => kernel_rfl
 ·
  have h32 := bh32
  have h32 := of_decide_eq_true h32
  obtain ⟨y33, ys34, rfl, hx_y33, hd_y33, hl_y33⟩ := drop_cons hd hk (by omega)
  refine SKIP (NEXT (SEQ (BLOCK (SEQ (EXPORT (fun bs hbs => ?_))))))
  obtain ⟨b35, b36, rfl⟩ := len2 hbs
  refine REGIONH ?_ 14 rfl [ptC b35 55 [.slice ho_rules_seats_a ho.rules.seats.length ho_rules_seats_c, vi ho.rules.tiers, vi ho.rules.room, vi ho.rules.size, vi ho.rules.period, vi ho.rules.window, vi ho.rules.rest, vi ho.rules.tries, vi ho.rules.crew, vi ho.now, vi ho.turn, .slice ho_parties_a ho.parties.length ho_parties_c, .slice ho_cabins_a ho.cabins.length ho_cabins_c, .slice ho_todo_a ho.todo.length ho_todo_c, .slice ho_jobs_a ho.jobs.length ho_jobs_c], ptC b36 80 [vi pa.id, vi pa.cabin, vi pa.from', vi pa.size, vi pa.tier, vi pa.since, vi pa.turn, vi pa.state, vi pa.until', vi pa.asked], slA 80 partyL (.slice oa xo.length oc) xo] ?_
  · as_aux_lemma => kernel_rfl
  refine HPURE (js := [0, 0, 0]) 0 [(2, .e (some ⟨b35, 0, none⟩) 0 0), (5, .v (.slice oa xo.length oc)), (6, I (k : Int)), (21, .v (.slice oa xo.length oc))] ?_ ?_ rfl ?_
  iterate 2 (as_aux_lemma => kernel_rfl)
  refine HPURE (js := [0, 0, 0]) 1 [(2, .e (some ⟨b35, 0, none⟩) 0 0), (5, .v (.slice oa xo.length oc)), (6, I (k : Int)), (21, .v (.slice oa xo.length oc)), (22, I (k : Int))] ?_ ?_ rfl ?_
  iterate 2 (as_aux_lemma => kernel_rfl)
  refine HPURE (js := [0, 0, 0]) 3 [(2, .e (some ⟨b35, 0, none⟩) 0 0), (5, .v (.slice oa xo.length oc)), (6, I (k : Int)), (21, .v (.slice oa xo.length oc)), (22, I (k : Int)), (24, .v (.slice oa xo.length oc))] ?_ ?_ rfl ?_
  iterate 2 (as_aux_lemma => kernel_rfl)
  refine HPURE (js := [0, 0, 0]) 4 [(2, .e (some ⟨b35, 0, none⟩) 0 0), (5, .v (.slice oa xo.length oc)), (6, I (k : Int)), (21, .v (.slice oa xo.length oc)), (22, I (k : Int)), (24, .v (.slice oa xo.length oc)), (25, I (k : Int))] ?_ ?_ rfl ?_
  iterate 2 (as_aux_lemma => kernel_rfl)
  refine HPURE (js := [0, 0, 0]) 7 [(2, .e (some ⟨b35, 0, none⟩) 0 0), (5, .v (.slice oa xo.length oc)), (6, I (k : Int)), (21, .v (.slice oa xo.length oc)), (22, I (k : Int)), (24, .v (.slice oa xo.length oc)), (25, I (k : Int)), (28, .e (some ⟨b35, 0, none⟩) 0 0)] ?_ ?_ rfl ?_
  iterate 2 (as_aux_lemma => kernel_rfl)
  refine HPURE (js := [0, 0, 0]) 8 [(2, .e (some ⟨b35, 0, none⟩) 0 0), (5, .v (.slice oa xo.length oc)), (6, I (k : Int)), (21, .v (.slice oa xo.length oc)), (22, I (k : Int)), (24, .v (.slice oa xo.length oc)), (25, I (k : Int)), (29, .e (some ⟨b35, 0, none⟩) 0 0)] ?_ ?_ rfl ?_
  iterate 2 (as_aux_lemma => kernel_rfl)
  refine HLOADE (i := 9) (js := [0, 0, 0])  42 (.tmp 29) 30 42 ?_ (NL rfl) (some ⟨b35, 0, none⟩) 0 0 [.slice ho_rules_seats_a ho.rules.seats.length ho_rules_seats_c, vi ho.rules.tiers, vi ho.rules.room, vi ho.rules.size, vi ho.rules.period, vi ho.rules.window, vi ho.rules.rest, vi ho.rules.tries, vi ho.rules.crew, vi ho.now, vi ho.turn, .slice ho_parties_a ho.parties.length ho_parties_c, .slice ho_cabins_a ho.cabins.length ho_cabins_c, .slice ho_todo_a ho.todo.length ho_todo_c, .slice ho_jobs_a ho.jobs.length ho_jobs_c] (.slice ho_rules_seats_a ho.rules.seats.length ho_rules_seats_c) ?_ (fun w hw => ptC_elem (hw.own 0 rfl)) ?_ ?_ rfl ?_
  iterate 4 (as_aux_lemma => kernel_rfl)
  refine HPURE (js := [0, 0, 0]) 10 [(2, .e (some ⟨b35, 0, none⟩) 0 0), (5, .v (.slice oa xo.length oc)), (6, I (k : Int)), (21, .v (.slice oa xo.length oc)), (22, I (k : Int)), (24, .v (.slice oa xo.length oc)), (25, I (k : Int)), (30, .v (.slice ho_rules_seats_a ho.rules.seats.length ho_rules_seats_c)), (31, I (k : Int))] ?_ ?_ rfl ?_
  iterate 2 (as_aux_lemma => kernel_rfl)
  obtain ⟨x37, hx38⟩ : ∃ y, ho.rules.seats[k]? = some y := ⟨_, List.getElem?_eq_getElem (by omega)⟩
  refine HINDEX (i := 11) (js := [0, 0, 0])  42 (.tmp 30) (.tmp 31) 32 0 ?_ (NL rfl) ho_rules_seats_a ho.rules.seats.length ho_rules_seats_c .i64 (k : Int) 3 1 ?_ ?_ ?_ ?_ (Rd.some hho_rules_seats (by omega)) (by omega) (by omega) ?_ rfl ?_
  iterate 6 (as_aux_lemma => kernel_rfl)
  refine HLOADE (i := 12) (js := [0, 0, 0])  3 (.tmp 32) 33 3 ?_ (NL rfl) ho_rules_seats_a (k * 1) 0 [vi x37] (vi x37) ?_ (fun w hw => (hho_rules_seats.fr hw.fr).flat hx38) ?_ ?_ rfl ?_
  iterate 4 (as_aux_lemma => kernel_rfl)
  refine HALL [2] ?_ (by decide) ?_
  · as_aux_lemma => kernel_rfl
  refine CALL 69 #[.slice oa xo.length oc, vi (k : Int)] (some 23) ?_ [] [] _ rfl (⟨{x : Int // True}, fun q => vi q.1, fun q => []⟩) (fun w hw => heldIn_c w xo oa oc (hw.rdO 2 rfl) (k : Int)) (NO rfl) ?_
  · as_aux_lemma => kernel_rfl
  rintro ⟨m39, hm40⟩
  try dsimp only at hm40
  refine HKEEP (js := [0, 0, 0]) rfl (HALL [5] ?_ (by decide) ?_)
  · as_aux_lemma => kernel_rfl
  refine CALL 70 #[.slice oa xo.length oc, vi (k : Int)] (some 26) ?_ [] [] _ rfl (⟨{x : Int // True}, fun q => vi q.1, fun q => []⟩) (fun w hw => tiedIn_c w xo oa oc (hw.rdO 2 rfl) (k : Int)) (NO rfl) ?_
  · as_aux_lemma => kernel_rfl
  rintro ⟨m41, hm42⟩
  try dsimp only at hm42
  refine HKEEP (js := [0, 0, 0]) rfl (HPURE (js := [0, 0, 0]) 6 [(2, .e (some ⟨b35, 0, none⟩) 0 0), (5, .v (.slice oa xo.length oc)), (6, I (k : Int)), (27, I (wr (m39 + m41))), (33, I x37)] ?_ ?_ rfl ?_)
  iterate 2 (as_aux_lemma => kernel_rfl)
  refine HPURE (js := [0, 0, 0]) 13 [(2, .e (some ⟨b35, 0, none⟩) 0 0), (5, .v (.slice oa xo.length oc)), (6, I (k : Int)), (34, B (decide ((wr (m39 + m41)) > x37)))] ?_ ?_ rfl ?_
  iterate 2 (as_aux_lemma => kernel_rfl)
  refine HEND ?_ ?_
  · as_aux_lemma => kernel_rfl
  refine IMPORT (L0 := [(55, [.slice ho_rules_seats_a ho.rules.seats.length ho_rules_seats_c, vi ho.rules.tiers, vi ho.rules.room, vi ho.rules.size, vi ho.rules.period, vi ho.rules.window, vi ho.rules.rest, vi ho.rules.tries, vi ho.rules.crew, vi ho.now, vi ho.turn, .slice ho_parties_a ho.parties.length ho_parties_c, .slice ho_cabins_a ho.cabins.length ho_cabins_c, .slice ho_todo_a ho.todo.length ho_todo_c, .slice ho_jobs_a ho.jobs.length ho_jobs_c]), (80, [vi pa.id, vi pa.cabin, vi pa.from', vi pa.size, vi pa.tier, vi pa.since, vi pa.turn, vi pa.state, vi pa.until', vi pa.asked])]) (L1 := []) [b35, b36] rfl [0, 0] _ rfl [(2, .p 0 0), (5, .v (.slice oa xo.length oc)), (6, I (k : Int)), (34, B (decide ((wr (m39 + m41)) > x37)))] ?_ ?_ ?_
  iterate 2 (as_aux_lemma => kernel_rfl)
  refine NEXT (IF (decide ((wr (m39 + m41)) > x37)) ?_ (fun bh43 => ?_) (fun bh43 => ?_))
  · as_aux_lemma => kernel_rfl
  ·
   have h43 := bh43
   have h43 := of_decide_eq_true h43
   refine SEQ (REGION [0] rfl (RUN0 1 [] [(4, B false)] ?_ rfl ?_))
   · as_aux_lemma => kernel_rfl
   refine ENDOPS (NEXT (RET (OUTR (PASS trivial (PASS trivial (OUTR (PASS trivial (FIN (.bool false) ?_ ⟨false, trivial⟩ ?_ [] ?_))))))))
   · as_aux_lemma => kernel_rfl
   · rfl
   · rfl
  ·
   have h43 := bh43
   have h43 := of_decide_eq_false h43
   refine SKIP (OUTN (NEXT (REGION [0, 1, 2] rfl (RUN0 2 [2] [(2, .p 0 0), (5, .v (.slice oa xo.length oc)), (20, I (wr ((k : Int) + 1)))] ?_ rfl ?_))))
   · as_aux_lemma => kernel_rfl
   refine CAST (d := 20) (vi (wr ((k : Int) + 1))) (vi ((k + 1 : Nat) : Int)) ?_ (vi_cast (by omega) (by omega)) ?_
   · as_aux_lemma => kernel_rfl
   refine RUN0 1 [] [(2, .p 0 0), (5, .v (.slice oa xo.length oc)), (6, I ((k + 1 : Nat) : Int))] ?_ rfl ?_
   · as_aux_lemma => kernel_rfl
   refine ENDOPS (BACK (k + 1, ys34) [2, 5, 6] 2 [0] _ ⟨hl_y33, hd_y33⟩ (by simp) ?_ rfl rfl rfl)
   · as_aux_lemma => kernel_rfl
 ·
  have h32 := bh32
  have h32 := of_decide_eq_false h32
  obtain rfl := drop_nil hk (by omega)
  refine EXIT (PASS trivial (PASS trivial (OUT (NEXT (SEQ (REGION [0] rfl (RUN0 1 [] [(4, B true)] ?_ rfl ?_)))))))
  · as_aux_lemma => kernel_rfl
  refine ENDOPS (NEXT (RET (FIN (.bool true) ?_ ⟨true, trivial⟩ ?_ [] ?_)))
  · as_aux_lemma => kernel_rfl
  · rfl
  · rfl

end SX
end Go.Proofs.YtpdijcbgdalphabGreatDoor
