/- Walks, printed by program. -/
import Derived.Test.YtpdijcbgdalphabGreatDoorE3
namespace Go.Proofs.YtpdijcbgdalphabGreatDoor
namespace SX
open Go Go.RowKit
set_option linter.unusedVariables false
set_option linter.unusedSimpArgs false
set_option maxRecDepth 10000
set_option maxHeartbeats 400000
theorem l10Made_c (W : World) (r : Rules) (r_seats_a : Option Addr) (r_seats_c : Nat) (hr_seats : Rd intL W r_seats_a r.seats) (list : List Party) (list_a : Option Addr) (list_c : Nat) (hlist : Rd partyL W list_a list) (cabin : Int) (now : Int) (free : Int) (hc : 0 ≤ cabin) (hcl : cabin < (r.seats.length : Int)) (hb : list.length ≤ 1048576) : Spec Tryz.prog W [] 52 #[.agg #[.slice r_seats_a r.seats.length r_seats_c, vi r.tiers, vi r.room, vi r.size, vi r.period, vi r.window, vi r.rest, vi r.tries, vi r.crew], .slice list_a list.length list_c, vi cabin, vi now, vi free] (⟨{q : (HH × HH) × Cabin // (fun x : Cabin => True) q.2}, fun q => .agg #[vi q.1.2.seats.total, vi q.1.2.seats.free, vi q.1.2.seats.held, vi q.1.2.seats.sold, vi q.1.2.seats.tied, .slice q.1.1.1.1 q.1.2.row.length q.1.1.1.2, .slice q.1.1.2.1 q.1.2.wheel.spoke.length q.1.1.2.2], fun q => [slA 129 entryL (.slice q.1.1.1.1 q.1.2.row.length q.1.1.1.2) q.1.2.row, slA 106 (sl 111 pinL) (.slice q.1.1.2.1 q.1.2.wheel.spoke.length q.1.1.2.2) q.1.2.wheel.spoke]⟩) := by
 refine ENTER0 (N := 72) (vs := [.agg #[.slice r_seats_a r.seats.length r_seats_c, vi r.tiers, vi r.room, vi r.size, vi r.period, vi r.window, vi r.rest, vi r.tries, vi r.crew], .slice list_a list.length list_c, vi cabin, vi now, vi free]) Tryz.func52 rfl rfl (NL rfl) ?_
 have hr_seats_len := hr_seats.len
 have hlist_len := hlist.len
 refine SEQ (REGION [0, 1] rfl (RUN 2 [] [(1, .v (.slice list_a list.length list_c)), (2, I cabin), (3, I now), (4, I free), (5, .p 0 0), (10, .p 1 0)] [(51, [.slice r_seats_a r.seats.length r_seats_c, vi r.tiers, vi r.room, vi r.size, vi r.period, vi r.window, vi r.rest, vi r.tries, vi r.crew]), (93, [vi 0, vi 0, vi 0, vi 0, vi 0, .slice none 0 0, .slice none 0 0])] ?_ rfl ?_))
 · as_aux_lemma => kernel_rfl
 refine ENDOPS (NEXT (SEQ (REGION [0, 1, 2] rfl (OPC (CALL 71 #[] (some 18) ?_ [] [] _ rfl (⟨{q : (HH) × Wheel // (fun x : Wheel => x.spoke.length = 9 ∧ x.spoke.flatten.length = 0) q.2}, fun q => .agg #[.slice q.1.1.1 q.1.2.spoke.length q.1.1.2], fun q => [slA 106 (sl 111 pinL) (.slice q.1.1.1 q.1.2.spoke.length q.1.1.2) q.1.2.spoke]⟩) (fun w hw => wheelNew_c w ) (NO rfl) ?_)))))
 · as_aux_lemma => kernel_rfl
 rintro ⟨⟨⟨a3, c4⟩, m1⟩, hm2⟩
 try dsimp only at hm2
 refine RUN 2 [] [(1, .v (.slice list_a list.length list_c)), (2, I cabin), (3, I now), (4, I free), (5, .p 0 0), (10, .p 1 0), (11, .p 2 0)] [(51, [.slice r_seats_a r.seats.length r_seats_c, vi r.tiers, vi r.room, vi r.size, vi r.period, vi r.window, vi r.rest, vi r.tries, vi r.crew]), (93, [vi 0, vi 0, vi 0, vi 0, vi 0, .slice none 0 0, .slice none 0 0]), (91, [.slice a3 m1.spoke.length c4])] ?_ rfl ?_
 · as_aux_lemma => kernel_rfl
 refine ENDOPS (NEXT (SEQ (REGION [0, 1, 2, 3] rfl (RUN0 2 [2, 3] [(1, .v (.slice list_a list.length list_c)), (2, I cabin), (3, I now), (4, I free), (5, .p 0 0), (10, .p 1 0), (11, .p 2 0), (19, .v (.slice list_a list.length list_c)), (20, I cabin)] ?_ rfl ?_))))
 · as_aux_lemma => kernel_rfl
 refine OPC (CALL 72 #[.slice list_a list.length list_c, vi cabin] (some 21) ?_ [] [] _ rfl (⟨{q : (HH) × (List Pin) // (fun x : List Pin => x.length ≤ list.length) q.2}, fun q => .slice q.1.1.1 q.1.2.length q.1.1.2, fun q => [slA 111 pinL (.slice q.1.1.1 q.1.2.length q.1.1.2) q.1.2]⟩) (fun w hw => pinsIn_c w list list_a list_c (hlist.fr hw.fr) cabin (by first | assumption | omega | (dsimp only; omega) | (simp only [List.length_append, List.length_cons, List.length_nil] at *; omega))) (NO rfl) ?_)
 · as_aux_lemma => kernel_rfl
 rintro ⟨⟨⟨a7, c8⟩, m5⟩, hm6⟩
 try dsimp only at hm6
 refine RUN0 1 [] [(1, .v (.slice list_a list.length list_c)), (2, I cabin), (3, I now), (4, I free), (5, .p 0 0), (10, .p 1 0), (11, .p 2 0), (12, .v (.slice a7 m5.length c8))] ?_ rfl ?_
 · as_aux_lemma => kernel_rfl
 refine ENDOPS (NEXT (SEQ (SEQ (REGION [0] rfl (RUN0 1 [] [(1, .v (.slice list_a list.length list_c)), (2, I cabin), (3, I now), (4, I free), (5, .p 0 0), (10, .p 1 0), (11, .p 2 0), (12, .v (.slice a7 m5.length c8)), (13, I 0)] ?_ rfl ?_)))))
 · as_aux_lemma => kernel_rfl
 refine ENDOPS (NEXT (BLOCK (LOOP (ι := Nat × (List Pin) × (Option Addr) × Nat × (List (List Pin))) (fun j => [(1, .v (.slice list_a list.length list_c)), (2, I cabin), (3, I now), (4, I free), (5, .p 0 0), (10, .p 1 0), (11, .p 2 0), (12, .v (.slice a7 m5.length c8)), (13, I (j.1 : Int))]) (fun j => [(51, [.slice r_seats_a r.seats.length r_seats_c, vi r.tiers, vi r.room, vi r.size, vi r.period, vi r.window, vi r.rest, vi r.tries, vi r.crew]), (93, [vi 0, vi 0, vi 0, vi 0, vi 0, .slice none 0 0, .slice none 0 0]), (91, [.slice j.2.2.1 j.2.2.2.2.length j.2.2.2.1])]) (fun j => [slA 106 (sl 111 pinL) (.slice j.2.2.1 j.2.2.2.2.length j.2.2.2.1) j.2.2.2.2, slA 111 pinL (.slice a7 m5.length c8) m5]) (fun j => j.1 + j.2.1.length = m5.length ∧ m5.drop j.1 = j.2.1 ∧ j.2.2.2.2.length = 9 ∧ j.2.2.2.2.flatten.length ≤ j.1) (fun j => j.2.1.length) (0, m5, a3, c4, m1.spoke) [1, 2, 3, 4, 5, 10, 11, 12, 13] ⟨by simp, rfl, by first | omega | (dsimp only; omega) | (simp; done) | (simp; omega), by first | omega | (dsimp only; omega) | (simp; done) | (simp; omega)⟩ ?_ rfl rfl ?_)))
 · as_aux_lemma => kernel_rfl
 rintro ⟨k, ys, oa, oc, out⟩ ⟨hk, hd, hv0, hv1⟩
 try dsimp only at hk hd hv0 hv1
 refine SEQ (SEQ (REGION [0, 1, 2, 3] rfl (RUN0 4 [] [(1, .v (.slice list_a list.length list_c)), (2, I cabin), (3, I now), (4, I free), (5, .p 0 0), (10, .p 1 0), (11, .p 2 0), (12, .v (.slice a7 m5.length c8)), (13, I (k : Int)), (25, B (decide ((k : Int) < (m5.length : Int))))] ?_ rfl ?_)))
 · as_aux_lemma => kernel_rfl
 refine ENDOPS (NEXT (IF (decide ((k : Int) < (m5.length : Int))) ?_ (fun bh9 => ?_) (fun bh9 => ?_)))
 · as_aux_lemma => kernel_rfl
 ·
  have h9 := bh9
  have h9 := of_decide_eq_true h9
  obtain ⟨y10, ys11, rfl, hx_y10, hd_y10, hl_y10⟩ := drop_cons hd hk (by omega)
  refine SKIP (NEXT (SEQ (BLOCK (EXPORT (fun bs hbs => ?_)))))
  obtain ⟨b12, b13, b14, rfl⟩ := len3 hbs
  refine REGIONH ?_ 10 rfl [ptC b12 51 [.slice r_seats_a r.seats.length r_seats_c, vi r.tiers, vi r.room, vi r.size, vi r.period, vi r.window, vi r.rest, vi r.tries, vi r.crew], ptC b13 93 [vi 0, vi 0, vi 0, vi 0, vi 0, .slice none 0 0, .slice none 0 0], slA 106 (sl 111 pinL) (.slice oa out.length oc) out, slA 111 pinL (.slice a7 m5.length c8) m5] ?_
  · as_aux_lemma => kernel_rfl
  refine HPURE (js := [0, 0, 1, 1]) 1 [(1, .v (.slice list_a list.length list_c)), (2, I cabin), (3, I now), (4, I free), (5, .e (some ⟨b12, 0, none⟩) 0 0), (10, .e (some ⟨b13, 0, none⟩) 0 0), (11, .e (some ⟨b14, 0, none⟩) 0 0), (12, .v (.slice a7 m5.length c8)), (13, I (k : Int)), (30, .v (.slice a7 m5.length c8))] ?_ ?_ rfl ?_
  iterate 2 (as_aux_lemma => kernel_rfl)
  refine HPURE (js := [0, 0, 1, 1]) 2 [(1, .v (.slice list_a list.length list_c)), (2, I cabin), (3, I now), (4, I free), (5, .e (some ⟨b12, 0, none⟩) 0 0), (10, .e (some ⟨b13, 0, none⟩) 0 0), (11, .e (some ⟨b14, 0, none⟩) 0 0), (12, .v (.slice a7 m5.length c8)), (13, I (k : Int)), (30, .v (.slice a7 m5.length c8)), (31, I (k : Int))] ?_ ?_ rfl ?_
  iterate 2 (as_aux_lemma => kernel_rfl)
  refine FACT (a7.isSome = true) (fun w hw => SlO.isS (hw.own 4 rfl) (by omega)) (fun hs15 => ?_)
  refine HINDEX (i := 3) (js := [0, 0, 1, 1])  106 (.tmp 30) (.tmp 31) 32 0 ?_ (NL rfl) a7 m5.length c8 .i64 (k : Int) 111 2 ?_ ?_ ?_ ?_ hs15 (by omega) (by omega) ?_ rfl ?_
  iterate 6 (as_aux_lemma => kernel_rfl)
  refine HLOADE (i := 4) (js := [0, 0, 1, 1])  111 (.tmp 32) 33 111 ?_ (NL rfl) a7 (k * 2) 0 [vi y10.at', vi y10.id] (.agg #[vi y10.at', vi y10.id]) ?_ (fun w hw => (hw.rdO 3 rfl).flat hx_y10) ?_ ?_ rfl ?_
  iterate 4 (as_aux_lemma => kernel_rfl)
  refine HALL [0] ?_ (by decide) ?_
  · as_aux_lemma => kernel_rfl
  refine LOADE 91 (.tmp 11) 29 91 ?_ (NL rfl) (some ⟨b14, 0, none⟩) 0 0 [.slice oa out.length oc] (.agg #[.slice oa out.length oc]) ?_ (fun w hw => ptC_elem (hw.own 2 rfl)) ?_ ?_
  iterate 3 (as_aux_lemma => kernel_rfl)
  refine HKEEP (js := [0, 0, 1, 1]) rfl (HALL [5] ?_ (by decide) ?_)
  · as_aux_lemma => kernel_rfl
  refine CALL 73 #[.agg #[.slice oa out.length oc], .agg #[vi y10.at', vi y10.id]] (some 34) ?_ [] [] _ rfl (⟨{q : (HH) × (Wheel × Bool) // (fun x : Wheel × Bool => x.1.spoke.length = 9 ∧ x.1.spoke.flatten.length ≤ (⟨out⟩ : Wheel).spoke.flatten.length + 1) q.2}, fun q => .tuple #[.agg #[.slice q.1.1.1 q.1.2.1.spoke.length q.1.1.2], .bool q.1.2.2], fun q => [slA 106 (sl 111 pinL) (.slice q.1.1.1 q.1.2.1.spoke.length q.1.1.2) q.1.2.1.spoke]⟩) (fun w hw => wheelPut_c w (⟨out⟩ : Wheel) oa oc (hw.rdO 3 rfl) y10 (by first | assumption | omega | (dsimp only; omega) | (simp only [List.length_append, List.length_cons, List.length_nil] at *; omega)) (by first | assumption | omega | (dsimp only; omega) | (simp only [List.length_append, List.length_cons, List.length_nil] at *; omega))) (NO rfl) ?_
  · as_aux_lemma => kernel_rfl
  rintro ⟨⟨⟨a18, c19⟩, m16⟩, hm17⟩
  try dsimp only at hm17
  refine HKEEP (js := [0, 0, 1, 1]) rfl (HPURE (js := [0, 0, 1, 1]) 6 [(1, .v (.slice list_a list.length list_c)), (2, I cabin), (3, I now), (4, I free), (5, .e (some ⟨b12, 0, none⟩) 0 0), (10, .e (some ⟨b13, 0, none⟩) 0 0), (11, .e (some ⟨b14, 0, none⟩) 0 0), (12, .v (.slice a7 m5.length c8)), (13, I (k : Int)), (28, .v (.tuple #[.agg #[.slice a18 m16.1.spoke.length c19], .bool m16.2]))] ?_ ?_ rfl ?_)
  iterate 2 (as_aux_lemma => kernel_rfl)
  refine HPURE (js := [0, 0, 1, 1]) 7 [(1, .v (.slice list_a list.length list_c)), (2, I cabin), (3, I now), (4, I free), (5, .e (some ⟨b12, 0, none⟩) 0 0), (10, .e (some ⟨b13, 0, none⟩) 0 0), (11, .e (some ⟨b14, 0, none⟩) 0 0), (12, .v (.slice a7 m5.length c8)), (13, I (k : Int)), (28, .v (.tuple #[.agg #[.slice a18 m16.1.spoke.length c19], .bool m16.2])), (35, .v (.agg #[.slice a18 m16.1.spoke.length c19]))] ?_ ?_ rfl ?_
  iterate 2 (as_aux_lemma => kernel_rfl)
  refine HPURE (js := [0, 0, 1, 1]) 8 [(1, .v (.slice list_a list.length list_c)), (2, I cabin), (3, I now), (4, I free), (5, .e (some ⟨b12, 0, none⟩) 0 0), (10, .e (some ⟨b13, 0, none⟩) 0 0), (11, .e (some ⟨b14, 0, none⟩) 0 0), (12, .v (.slice a7 m5.length c8)), (13, I (k : Int)), (35, .v (.agg #[.slice a18 m16.1.spoke.length c19]))] ?_ ?_ rfl ?_
  iterate 2 (as_aux_lemma => kernel_rfl)
  refine HALL [9] ?_ (by decide) ?_
  · as_aux_lemma => kernel_rfl
  refine STOREC 91 (.tmp 11) (.tmp 35) 0 ?_ 2 _ b14 0 91 [.slice oa out.length oc] [.slice a18 m16.1.spoke.length c19] rfl (.agg #[.slice a18 m16.1.spoke.length c19]) ?_ ?_ ?_ ?_
  iterate 4 (as_aux_lemma => kernel_rfl)
  refine HKEEP (js := [0, 0, 0, 0]) rfl (HEND ?_ ?_)
  · as_aux_lemma => kernel_rfl
  refine IMPORT (L0 := [(51, [.slice r_seats_a r.seats.length r_seats_c, vi r.tiers, vi r.room, vi r.size, vi r.period, vi r.window, vi r.rest, vi r.tries, vi r.crew]), (93, [vi 0, vi 0, vi 0, vi 0, vi 0, .slice none 0 0, .slice none 0 0]), (91, [.slice a18 m16.1.spoke.length c19])]) (L1 := []) [b12, b13, b14] rfl [0, 0, 3] _ rfl [(1, .v (.slice list_a list.length list_c)), (2, I cabin), (3, I now), (4, I free), (5, .p 0 0), (10, .p 1 0), (11, .p 2 0), (12, .v (.slice a7 m5.length c8)), (13, I (k : Int)), (35, .v (.agg #[.slice a18 m16.1.spoke.length c19]))] ?_ ?_ ?_
  iterate 2 (as_aux_lemma => kernel_rfl)
  refine OUTN (NEXT (REGION [0, 1, 2] rfl (RUN0 2 [2] [(1, .v (.slice list_a list.length list_c)), (2, I cabin), (3, I now), (4, I free), (5, .p 0 0), (10, .p 1 0), (11, .p 2 0), (12, .v (.slice a7 m5.length c8)), (27, I (wr ((k : Int) + 1)))] ?_ rfl ?_)))
  · as_aux_lemma => kernel_rfl
  refine CAST (d := 27) (vi (wr ((k : Int) + 1))) (vi ((k + 1 : Nat) : Int)) ?_ (vi_cast (by omega) (by omega)) ?_
  · as_aux_lemma => kernel_rfl
  refine RUN0 1 [] [(1, .v (.slice list_a list.length list_c)), (2, I cabin), (3, I now), (4, I free), (5, .p 0 0), (10, .p 1 0), (11, .p 2 0), (12, .v (.slice a7 m5.length c8)), (13, I ((k + 1 : Nat) : Int))] ?_ rfl ?_
  · as_aux_lemma => kernel_rfl
  refine ENDOPS (BACK (k + 1, ys11, a18, c19, m16.1.spoke) [1, 2, 3, 4, 5, 10, 11, 12, 13] 3 [2, 1] _ ⟨hl_y10, hd_y10, (by first | omega | (dsimp only; omega) | (simp; done) | (simp; omega)), (by first | omega | (dsimp only; omega) | (simp; done) | (simp; omega))⟩ (by simp) ?_ rfl rfl rfl)
  · as_aux_lemma => kernel_rfl
 ·
  have h9 := bh9
  have h9 := of_decide_eq_false h9
  obtain rfl := drop_nil hk (by omega)
  refine EXIT (PASS trivial (PASS trivial (OUT (NEXT (SEQ (REGION [0, 1, 2, 3] rfl (RUN0 2 [2, 3] [(1, .v (.slice list_a list.length list_c)), (2, I cabin), (3, I now), (4, I free), (5, .p 0 0), (10, .p 1 0), (11, .p 2 0), (37, .v (.slice list_a list.length list_c)), (38, I cabin)] ?_ rfl ?_)))))))
  · as_aux_lemma => kernel_rfl
  refine OPC (CALL 69 #[.slice list_a list.length list_c, vi cabin] (some 39) ?_ [] [] _ rfl (⟨{x : Int // True}, fun q => vi q.1, fun q => []⟩) (fun w hw => heldIn_c w list list_a list_c (hlist.fr hw.fr) cabin) (NO rfl) ?_)
  · as_aux_lemma => kernel_rfl
  rintro ⟨m20, hm21⟩
  try dsimp only at hm21
  refine RUN0 1 [] [(1, .v (.slice list_a list.length list_c)), (2, I cabin), (3, I now), (4, I free), (5, .p 0 0), (10, .p 1 0), (11, .p 2 0), (14, I m20)] ?_ rfl ?_
  · as_aux_lemma => kernel_rfl
  refine ENDOPS (NEXT (SEQ (REGION [0, 1, 2, 3] rfl (RUN0 2 [2, 3] [(1, .v (.slice list_a list.length list_c)), (2, I cabin), (3, I now), (4, I free), (5, .p 0 0), (10, .p 1 0), (11, .p 2 0), (14, I m20), (40, .v (.slice list_a list.length list_c)), (41, I cabin)] ?_ rfl ?_))))
  · as_aux_lemma => kernel_rfl
  refine OPC (CALL 70 #[.slice list_a list.length list_c, vi cabin] (some 42) ?_ [] [] _ rfl (⟨{x : Int // True}, fun q => vi q.1, fun q => []⟩) (fun w hw => tiedIn_c w list list_a list_c (hlist.fr hw.fr) cabin) (NO rfl) ?_)
  · as_aux_lemma => kernel_rfl
  rintro ⟨m22, hm23⟩
  try dsimp only at hm23
  refine RUN0 1 [] [(1, .v (.slice list_a list.length list_c)), (2, I cabin), (3, I now), (4, I free), (5, .p 0 0), (10, .p 1 0), (11, .p 2 0), (14, I m20), (15, I m22)] ?_ rfl ?_
  · as_aux_lemma => kernel_rfl
  refine ENDOPS (NEXT (SEQ (REGION [0, 1, 2, 3, 4, 5] rfl (RUN0 3 [3, 4, 5] [(1, .v (.slice list_a list.length list_c)), (2, I cabin), (3, I now), (4, I free), (5, .p 0 0), (10, .p 1 0), (11, .p 2 0), (14, I m20), (15, I m22), (44, .v (.slice r_seats_a r.seats.length r_seats_c)), (45, I cabin)] ?_ rfl ?_))))
  · as_aux_lemma => kernel_rfl
  obtain ⟨x24, hx25⟩ : ∃ y, r.seats[cabin.toNat]? = some y := ⟨_, List.getElem?_eq_getElem (by omega)⟩
  refine OPC (INDEX 42 (.tmp 44) (.tmp 45) 46 0 ?_ (NL rfl) r_seats_a r.seats.length r_seats_c .i64 cabin 3 1 ?_ ?_ ?_ ?_ (Rd.some hr_seats (by omega)) (by omega) (by omega) ?_)
  iterate 5 (as_aux_lemma => kernel_rfl)
  refine OPC (LOADE 3 (.tmp 46) 47 3 ?_ (NL rfl) r_seats_a (cabin.toNat * 1) 0 [vi x24] (vi x24) ?_ (fun w hw => (hr_seats.fr hw.fr).flat hx25) ?_ ?_)
  iterate 3 (as_aux_lemma => kernel_rfl)
  refine RUN0 1 [] [(1, .v (.slice list_a list.length list_c)), (2, I cabin), (3, I now), (4, I free), (5, .p 0 0), (10, .p 1 0), (11, .p 2 0), (14, I m20), (15, I m22), (16, I x24)] ?_ rfl ?_
  · as_aux_lemma => kernel_rfl
  refine ENDOPS (NEXT (SEQ (REGION [0, 1, 2, 3, 4, 5, 6, 7] rfl (RUN0 6 [6, 7] [(1, .v (.slice list_a list.length list_c)), (2, I cabin), (3, I now), (5, .p 0 0), (10, .p 1 0), (11, .p 2 0), (14, I m20), (15, I m22), (16, I x24), (48, I m22), (53, I (wr ((wr (x24 - m20)) - free)))] ?_ rfl ?_))))
  · as_aux_lemma => kernel_rfl
  refine OPC (CALL 55 #[vi m22, vi (wr ((wr (x24 - m20)) - free))] (some 54) ?_ [] [] _ rfl (RV (vi (if m22 > (wr ((wr (x24 - m20)) - free)) then m22 else (wr ((wr (x24 - m20)) - free))))) (fun w hw => l1Max_c w m22 (wr ((wr (x24 - m20)) - free))) (NO rfl) ?_)
  · as_aux_lemma => kernel_rfl
  rintro ⟨⟩
  refine RUN0 1 [] [(1, .v (.slice list_a list.length list_c)), (2, I cabin), (3, I now), (5, .p 0 0), (10, .p 1 0), (11, .p 2 0), (14, I m20), (15, I m22), (16, I x24), (17, I (if m22 > (wr ((wr (x24 - m20)) - free)) then m22 else (wr ((wr (x24 - m20)) - free))))] ?_ rfl ?_
  · as_aux_lemma => kernel_rfl
  refine ENDOPS (NEXT (SEQ (EXPORT (fun bs hbs => ?_))))
  obtain ⟨b26, b27, b28, rfl⟩ := len3 hbs
  refine REGIONH ?_ 18 rfl [ptC b26 51 [.slice r_seats_a r.seats.length r_seats_c, vi r.tiers, vi r.room, vi r.size, vi r.period, vi r.window, vi r.rest, vi r.tries, vi r.crew], ptC b28 91 [.slice oa out.length oc], slA 106 (sl 111 pinL) (.slice oa out.length oc) out, slA 111 pinL (.slice a7 m5.length c8) m5] ?_
  · as_aux_lemma => kernel_rfl
  refine HPURE (js := [0, 1, 1, 1]) 0 [(1, .v (.slice list_a list.length list_c)), (2, I cabin), (3, I now), (5, .e (some ⟨b26, 0, none⟩) 0 0), (10, .e (some ⟨b27, 0, none⟩) 0 0), (11, .e (some ⟨b28, 0, none⟩) 0 0), (14, I m20), (15, I m22), (16, I x24), (17, I (if m22 > (wr ((wr (x24 - m20)) - free)) then m22 else (wr ((wr (x24 - m20)) - free)))), (55, I x24)] ?_ ?_ rfl ?_
  iterate 2 (as_aux_lemma => kernel_rfl)
  refine HPURE (js := [0, 1, 1, 1]) 1 [(1, .v (.slice list_a list.length list_c)), (2, I cabin), (3, I now), (5, .e (some ⟨b26, 0, none⟩) 0 0), (10, .e (some ⟨b27, 0, none⟩) 0 0), (11, .e (some ⟨b28, 0, none⟩) 0 0), (14, I m20), (15, I m22), (17, I (if m22 > (wr ((wr (x24 - m20)) - free)) then m22 else (wr ((wr (x24 - m20)) - free)))), (55, I x24), (56, I x24)] ?_ ?_ rfl ?_
  iterate 2 (as_aux_lemma => kernel_rfl)
  refine HPURE (js := [0, 1, 1, 1]) 2 [(1, .v (.slice list_a list.length list_c)), (2, I cabin), (3, I now), (5, .e (some ⟨b26, 0, none⟩) 0 0), (10, .e (some ⟨b27, 0, none⟩) 0 0), (11, .e (some ⟨b28, 0, none⟩) 0 0), (14, I m20), (15, I m22), (17, I (if m22 > (wr ((wr (x24 - m20)) - free)) then m22 else (wr ((wr (x24 - m20)) - free)))), (55, I x24), (56, I x24), (57, I m20)] ?_ ?_ rfl ?_
  iterate 2 (as_aux_lemma => kernel_rfl)
  refine HPURE (js := [0, 1, 1, 1]) 3 [(1, .v (.slice list_a list.length list_c)), (2, I cabin), (3, I now), (5, .e (some ⟨b26, 0, none⟩) 0 0), (10, .e (some ⟨b27, 0, none⟩) 0 0), (11, .e (some ⟨b28, 0, none⟩) 0 0), (14, I m20), (15, I m22), (17, I (if m22 > (wr ((wr (x24 - m20)) - free)) then m22 else (wr ((wr (x24 - m20)) - free)))), (55, I x24), (58, I (wr (x24 - m20)))] ?_ ?_ rfl ?_
  iterate 2 (as_aux_lemma => kernel_rfl)
  refine HPURE (js := [0, 1, 1, 1]) 4 [(1, .v (.slice list_a list.length list_c)), (2, I cabin), (3, I now), (5, .e (some ⟨b26, 0, none⟩) 0 0), (10, .e (some ⟨b27, 0, none⟩) 0 0), (11, .e (some ⟨b28, 0, none⟩) 0 0), (14, I m20), (15, I m22), (17, I (if m22 > (wr ((wr (x24 - m20)) - free)) then m22 else (wr ((wr (x24 - m20)) - free)))), (55, I x24), (58, I (wr (x24 - m20))), (59, I (if m22 > (wr ((wr (x24 - m20)) - free)) then m22 else (wr ((wr (x24 - m20)) - free))))] ?_ ?_ rfl ?_
  iterate 2 (as_aux_lemma => kernel_rfl)
  refine HPURE (js := [0, 1, 1, 1]) 5 [(1, .v (.slice list_a list.length list_c)), (2, I cabin), (3, I now), (5, .e (some ⟨b26, 0, none⟩) 0 0), (10, .e (some ⟨b27, 0, none⟩) 0 0), (11, .e (some ⟨b28, 0, none⟩) 0 0), (14, I m20), (15, I m22), (17, I (if m22 > (wr ((wr (x24 - m20)) - free)) then m22 else (wr ((wr (x24 - m20)) - free)))), (55, I x24), (60, I (wr ((wr (x24 - m20)) - (if m22 > (wr ((wr (x24 - m20)) - free)) then m22 else (wr ((wr (x24 - m20)) - free))))))] ?_ ?_ rfl ?_
  iterate 2 (as_aux_lemma => kernel_rfl)
  refine HPURE (js := [0, 1, 1, 1]) 6 [(1, .v (.slice list_a list.length list_c)), (2, I cabin), (3, I now), (5, .e (some ⟨b26, 0, none⟩) 0 0), (10, .e (some ⟨b27, 0, none⟩) 0 0), (11, .e (some ⟨b28, 0, none⟩) 0 0), (15, I m22), (17, I (if m22 > (wr ((wr (x24 - m20)) - free)) then m22 else (wr ((wr (x24 - m20)) - free)))), (55, I x24), (60, I (wr ((wr (x24 - m20)) - (if m22 > (wr ((wr (x24 - m20)) - free)) then m22 else (wr ((wr (x24 - m20)) - free)))))), (61, I m20)] ?_ ?_ rfl ?_
  iterate 2 (as_aux_lemma => kernel_rfl)
  refine HPURE (js := [0, 1, 1, 1]) 7 [(1, .v (.slice list_a list.length list_c)), (2, I cabin), (3, I now), (5, .e (some ⟨b26, 0, none⟩) 0 0), (10, .e (some ⟨b27, 0, none⟩) 0 0), (11, .e (some ⟨b28, 0, none⟩) 0 0), (15, I m22), (55, I x24), (60, I (wr ((wr (x24 - m20)) - (if m22 > (wr ((wr (x24 - m20)) - free)) then m22 else (wr ((wr (x24 - m20)) - free)))))), (61, I m20), (62, I (if m22 > (wr ((wr (x24 - m20)) - free)) then m22 else (wr ((wr (x24 - m20)) - free))))] ?_ ?_ rfl ?_
  iterate 2 (as_aux_lemma => kernel_rfl)
  refine HPURE (js := [0, 1, 1, 1]) 8 [(1, .v (.slice list_a list.length list_c)), (2, I cabin), (3, I now), (5, .e (some ⟨b26, 0, none⟩) 0 0), (10, .e (some ⟨b27, 0, none⟩) 0 0), (11, .e (some ⟨b28, 0, none⟩) 0 0), (55, I x24), (60, I (wr ((wr (x24 - m20)) - (if m22 > (wr ((wr (x24 - m20)) - free)) then m22 else (wr ((wr (x24 - m20)) - free)))))), (61, I m20), (62, I (if m22 > (wr ((wr (x24 - m20)) - free)) then m22 else (wr ((wr (x24 - m20)) - free)))), (63, I m22)] ?_ ?_ rfl ?_
  iterate 2 (as_aux_lemma => kernel_rfl)
  refine HPURE (js := [0, 1, 1, 1]) 9 [(1, .v (.slice list_a list.length list_c)), (2, I cabin), (3, I now), (5, .e (some ⟨b26, 0, none⟩) 0 0), (10, .e (some ⟨b27, 0, none⟩) 0 0), (11, .e (some ⟨b28, 0, none⟩) 0 0), (64, .v (.agg #[vi x24, vi (wr ((wr (x24 - m20)) - (if m22 > (wr ((wr (x24 - m20)) - free)) then m22 else (wr ((wr (x24 - m20)) - free))))), vi m20, vi (if m22 > (wr ((wr (x24 - m20)) - free)) then m22 else (wr ((wr (x24 - m20)) - free))), vi m22]))] ?_ ?_ rfl ?_
  iterate 2 (as_aux_lemma => kernel_rfl)
  refine HLOADE (i := 10) (js := [0, 1, 1, 1])  51 (.tmp 5) 65 51 ?_ (NL rfl) (some ⟨b26, 0, none⟩) 0 0 [.slice r_seats_a r.seats.length r_seats_c, vi r.tiers, vi r.room, vi r.size, vi r.period, vi r.window, vi r.rest, vi r.tries, vi r.crew] (.agg #[.slice r_seats_a r.seats.length r_seats_c, vi r.tiers, vi r.room, vi r.size, vi r.period, vi r.window, vi r.rest, vi r.tries, vi r.crew]) ?_ (fun w hw => ptC_elem (hw.own 0 rfl)) ?_ ?_ rfl ?_
  iterate 4 (as_aux_lemma => kernel_rfl)
  refine HPURE (js := [0, 1, 1, 1]) 11 [(2, I cabin), (3, I now), (10, .e (some ⟨b27, 0, none⟩) 0 0), (11, .e (some ⟨b28, 0, none⟩) 0 0), (64, .v (.agg #[vi x24, vi (wr ((wr (x24 - m20)) - (if m22 > (wr ((wr (x24 - m20)) - free)) then m22 else (wr ((wr (x24 - m20)) - free))))), vi m20, vi (if m22 > (wr ((wr (x24 - m20)) - free)) then m22 else (wr ((wr (x24 - m20)) - free))), vi m22])), (65, .v (.agg #[.slice r_seats_a r.seats.length r_seats_c, vi r.tiers, vi r.room, vi r.size, vi r.period, vi r.window, vi r.rest, vi r.tries, vi r.crew])), (66, .v (.slice list_a list.length list_c))] ?_ ?_ rfl ?_
  iterate 2 (as_aux_lemma => kernel_rfl)
  refine HPURE (js := [0, 1, 1, 1]) 12 [(3, I now), (10, .e (some ⟨b27, 0, none⟩) 0 0), (11, .e (some ⟨b28, 0, none⟩) 0 0), (64, .v (.agg #[vi x24, vi (wr ((wr (x24 - m20)) - (if m22 > (wr ((wr (x24 - m20)) - free)) then m22 else (wr ((wr (x24 - m20)) - free))))), vi m20, vi (if m22 > (wr ((wr (x24 - m20)) - free)) then m22 else (wr ((wr (x24 - m20)) - free))), vi m22])), (65, .v (.agg #[.slice r_seats_a r.seats.length r_seats_c, vi r.tiers, vi r.room, vi r.size, vi r.period, vi r.window, vi r.rest, vi r.tries, vi r.crew])), (66, .v (.slice list_a list.length list_c)), (67, I cabin)] ?_ ?_ rfl ?_
  iterate 2 (as_aux_lemma => kernel_rfl)
  refine HPURE (js := [0, 1, 1, 1]) 13 [(10, .e (some ⟨b27, 0, none⟩) 0 0), (11, .e (some ⟨b28, 0, none⟩) 0 0), (64, .v (.agg #[vi x24, vi (wr ((wr (x24 - m20)) - (if m22 > (wr ((wr (x24 - m20)) - free)) then m22 else (wr ((wr (x24 - m20)) - free))))), vi m20, vi (if m22 > (wr ((wr (x24 - m20)) - free)) then m22 else (wr ((wr (x24 - m20)) - free))), vi m22])), (65, .v (.agg #[.slice r_seats_a r.seats.length r_seats_c, vi r.tiers, vi r.room, vi r.size, vi r.period, vi r.window, vi r.rest, vi r.tries, vi r.crew])), (66, .v (.slice list_a list.length list_c)), (67, I cabin), (68, I now)] ?_ ?_ rfl ?_
  iterate 2 (as_aux_lemma => kernel_rfl)
  refine HLOADE (i := 15) (js := [0, 1, 1, 1])  91 (.tmp 11) 70 91 ?_ (NL rfl) (some ⟨b28, 0, none⟩) 0 0 [.slice oa out.length oc] (.agg #[.slice oa out.length oc]) ?_ (fun w hw => ptC_elem (hw.own 1 rfl)) ?_ ?_ rfl ?_
  iterate 4 (as_aux_lemma => kernel_rfl)
  refine HALL [14] ?_ (by decide) ?_
  · as_aux_lemma => kernel_rfl
  refine CALL 74 #[.agg #[.slice r_seats_a r.seats.length r_seats_c, vi r.tiers, vi r.room, vi r.size, vi r.period, vi r.window, vi r.rest, vi r.tries, vi r.crew], .slice list_a list.length list_c, vi cabin, vi now] (some 69) ?_ [] [] _ rfl (⟨{q : (HH) × (List Entry) // (fun x : List Entry => x.length ≤ list.length) q.2}, fun q => .slice q.1.1.1 q.1.2.length q.1.1.2, fun q => [slA 129 entryL (.slice q.1.1.1 q.1.2.length q.1.1.2) q.1.2]⟩) (fun w hw => queueOf_c w r r_seats_a r_seats_c (hr_seats.fr hw.fr) list list_a list_c (hlist.fr hw.fr) cabin now (by first | assumption | omega | (dsimp only; omega) | (simp only [List.length_append, List.length_cons, List.length_nil] at *; omega))) (NO rfl) ?_
  · as_aux_lemma => kernel_rfl
  rintro ⟨⟨⟨a31, c32⟩, m29⟩, hm30⟩
  try dsimp only at hm30
  refine HKEEP (js := [0, 1, 1, 1]) rfl (HPURE (js := [0, 1, 1, 1]) 16 [(10, .e (some ⟨b27, 0, none⟩) 0 0), (71, .v (.agg #[vi x24, vi (wr ((wr (x24 - m20)) - (if m22 > (wr ((wr (x24 - m20)) - free)) then m22 else (wr ((wr (x24 - m20)) - free))))), vi m20, vi (if m22 > (wr ((wr (x24 - m20)) - free)) then m22 else (wr ((wr (x24 - m20)) - free))), vi m22, .slice a31 m29.length c32, .slice oa out.length oc]))] ?_ ?_ rfl ?_)
  iterate 2 (as_aux_lemma => kernel_rfl)
  refine HALL [17] ?_ (by decide) ?_
  · as_aux_lemma => kernel_rfl
  refine STOREC 93 (.tmp 10) (.tmp 71) 0 ?_ 1 _ b27 0 93 [vi 0, vi 0, vi 0, vi 0, vi 0, .slice none 0 0, .slice none 0 0] [vi x24, vi (wr ((wr (x24 - m20)) - (if m22 > (wr ((wr (x24 - m20)) - free)) then m22 else (wr ((wr (x24 - m20)) - free))))), vi m20, vi (if m22 > (wr ((wr (x24 - m20)) - free)) then m22 else (wr ((wr (x24 - m20)) - free))), vi m22, .slice a31 m29.length c32, .slice oa out.length oc] rfl (.agg #[vi x24, vi (wr ((wr (x24 - m20)) - (if m22 > (wr ((wr (x24 - m20)) - free)) then m22 else (wr ((wr (x24 - m20)) - free))))), vi m20, vi (if m22 > (wr ((wr (x24 - m20)) - free)) then m22 else (wr ((wr (x24 - m20)) - free))), vi m22, .slice a31 m29.length c32, .slice oa out.length oc]) ?_ ?_ ?_ ?_
  iterate 4 (as_aux_lemma => kernel_rfl)
  refine HKEEP (js := [0, 0, 0, 0]) rfl (HEND ?_ ?_)
  · as_aux_lemma => kernel_rfl
  refine IMPORT (L0 := [(51, [.slice r_seats_a r.seats.length r_seats_c, vi r.tiers, vi r.room, vi r.size, vi r.period, vi r.window, vi r.rest, vi r.tries, vi r.crew]), (93, [vi x24, vi (wr ((wr (x24 - m20)) - (if m22 > (wr ((wr (x24 - m20)) - free)) then m22 else (wr ((wr (x24 - m20)) - free))))), vi m20, vi (if m22 > (wr ((wr (x24 - m20)) - free)) then m22 else (wr ((wr (x24 - m20)) - free))), vi m22, .slice a31 m29.length c32, .slice oa out.length oc]), (91, [.slice oa out.length oc])]) (L1 := []) [b26, b27, b28] rfl [0, 4, 0] _ rfl [(10, .p 1 0), (71, .v (.agg #[vi x24, vi (wr ((wr (x24 - m20)) - (if m22 > (wr ((wr (x24 - m20)) - free)) then m22 else (wr ((wr (x24 - m20)) - free))))), vi m20, vi (if m22 > (wr ((wr (x24 - m20)) - free)) then m22 else (wr ((wr (x24 - m20)) - free))), vi m22, .slice a31 m29.length c32, .slice oa out.length oc]))] ?_ ?_ ?_
  iterate 2 (as_aux_lemma => kernel_rfl)
  refine NEXT (RET (FIN (.agg #[vi x24, vi (wr ((wr (x24 - m20)) - (if m22 > (wr ((wr (x24 - m20)) - free)) then m22 else (wr ((wr (x24 - m20)) - free))))), vi m20, vi (if m22 > (wr ((wr (x24 - m20)) - free)) then m22 else (wr ((wr (x24 - m20)) - free))), vi m22, .slice a31 m29.length c32, .slice oa out.length oc]) ?_ ⟨(((a31, c32), (oa, oc)), (⟨(⟨x24, wr ((wr (x24 - m20)) - (if m22 > (wr ((wr (x24 - m20)) - free)) then m22 else (wr ((wr (x24 - m20)) - free)))), m20, if m22 > (wr ((wr (x24 - m20)) - free)) then m22 else (wr ((wr (x24 - m20)) - free)), m22⟩ : Ledger), m29, (⟨out⟩ : Wheel)⟩ : Cabin)), trivial⟩ ?_ [2, 0] ?_))
  · as_aux_lemma => kernel_rfl
  · rfl
  · rfl

theorem cabinNew_c (W : World) (total : Int) : Spec Tryz.prog W [] 68 #[vi total] (⟨{q : (HH × HH) × (Cabin × Bool) // (fun x : Cabin × Bool => True) q.2}, fun q => .tuple #[.agg #[vi q.1.2.1.seats.total, vi q.1.2.1.seats.free, vi q.1.2.1.seats.held, vi q.1.2.1.seats.sold, vi q.1.2.1.seats.tied, .slice q.1.1.1.1 q.1.2.1.row.length q.1.1.1.2, .slice q.1.1.2.1 q.1.2.1.wheel.spoke.length q.1.1.2.2], .bool q.1.2.2], fun q => [slA 129 entryL (.slice q.1.1.1.1 q.1.2.1.row.length q.1.1.1.2) q.1.2.1.row, slA 106 (sl 111 pinL) (.slice q.1.1.2.1 q.1.2.1.wheel.spoke.length q.1.1.2.2) q.1.2.1.wheel.spoke]⟩) := by
 refine ENTER0 (N := 17) (vs := [vi total]) Tryz.func68 rfl rfl (NL rfl) ?_
 refine SEQ (REGION [0, 1] rfl (RUN 2 [] [(0, I total), (2, .p 0 0)] [(93, [vi 0, vi 0, vi 0, vi 0, vi 0, .slice none 0 0, .slice none 0 0])] ?_ rfl ?_))
 · as_aux_lemma => kernel_rfl
 refine ENDOPS (NEXT (SEQ (REGION [0, 1, 2, 3, 4, 5, 6, 7] rfl (RUN0 1 [1, 2, 3, 4, 5, 6, 7] [(2, .p 0 0), (7, I total)] ?_ rfl ?_))))
 · as_aux_lemma => kernel_rfl
 refine OPC (CALL 83 #[vi total] (some 8) ?_ [] [] _ rfl (⟨{x : Ledger × Bool // True}, fun q => .tuple #[.agg #[vi q.1.1.total, vi q.1.1.free, vi q.1.1.held, vi q.1.1.sold, vi q.1.1.tied], .bool q.1.2], fun q => []⟩) (fun w hw => ledgerNew_c w total) (NO rfl) ?_)
 · as_aux_lemma => kernel_rfl
 rintro ⟨m1, hm2⟩
 try dsimp only at hm2
 refine RUN 6 [] [(2, .p 0 0), (4, .p 1 0), (5, B m1.2)] [(93, [vi 0, vi 0, vi 0, vi 0, vi 0, .slice none 0 0, .slice none 0 0]), (87, [vi m1.1.total, vi m1.1.free, vi m1.1.held, vi m1.1.sold, vi m1.1.tied])] ?_ rfl ?_
 · as_aux_lemma => kernel_rfl
 refine ENDOPS (NEXT (SEQ (SEQ (REGION [0, 1] rfl (RUN0 2 [] [(2, .p 0 0), (4, .p 1 0), (12, B (!m1.2))] ?_ rfl ?_)))))
 · as_aux_lemma => kernel_rfl
 refine ENDOPS (NEXT (IF (!m1.2) ?_ (fun bh3 => ?_) (fun bh3 => ?_)))
 · as_aux_lemma => kernel_rfl
 ·
  have h3 := bh3
  have h3 := notT h3
  refine SEQ (REGION [0, 1, 2] rfl (RUN0 3 [] [(2, .p 0 0), (3, B false)] ?_ rfl ?_))
  · as_aux_lemma => kernel_rfl
  refine ENDOPS (NEXT (RET (PASS trivial (NIL 129 entryL (NIL 106 (sl 111 pinL) (FIN (.tuple #[.agg #[vi 0, vi 0, vi 0, vi 0, vi 0, .slice none 0 0, .slice none 0 0], .bool false]) ?_ ⟨(((none, 0), (none, 0)), ((⟨(⟨0, 0, 0, 0, 0⟩ : Ledger), [], (⟨[]⟩ : Wheel)⟩ : Cabin), false)), trivial⟩ ?_ [0, 0] ?_))))))
  · as_aux_lemma => kernel_rfl
  · rfl
  · rfl
 ·
  have h3 := bh3
  have h3 := notF h3
  refine SKIP (NEXT (SEQ (EXPORT (fun bs hbs => ?_))))
  obtain ⟨b4, b5, rfl⟩ := len2 hbs
  refine REGIONH ?_ 5 rfl [ptC b5 87 [vi m1.1.total, vi m1.1.free, vi m1.1.held, vi m1.1.sold, vi m1.1.tied]] ?_
  · as_aux_lemma => kernel_rfl
  refine HLOADE (i := 0) (js := [1])  87 (.tmp 4) 14 87 ?_ (NL rfl) (some ⟨b5, 0, none⟩) 0 0 [vi m1.1.total, vi m1.1.free, vi m1.1.held, vi m1.1.sold, vi m1.1.tied] (.agg #[vi m1.1.total, vi m1.1.free, vi m1.1.held, vi m1.1.sold, vi m1.1.tied]) ?_ (fun w hw => ptC_elem (hw.own 0 rfl)) ?_ ?_ rfl ?_
  iterate 4 (as_aux_lemma => kernel_rfl)
  refine HALL [1] ?_ (by decide) ?_
  · as_aux_lemma => kernel_rfl
  refine CALL 71 #[] (some 15) ?_ [] [] _ rfl (⟨{q : (HH) × Wheel // (fun x : Wheel => x.spoke.length = 9 ∧ x.spoke.flatten.length = 0) q.2}, fun q => .agg #[.slice q.1.1.1 q.1.2.spoke.length q.1.1.2], fun q => [slA 106 (sl 111 pinL) (.slice q.1.1.1 q.1.2.spoke.length q.1.1.2) q.1.2.spoke]⟩) (fun w hw => wheelNew_c w ) (NO rfl) ?_
  · as_aux_lemma => kernel_rfl
  rintro ⟨⟨⟨a8, c9⟩, m6⟩, hm7⟩
  try dsimp only at hm7
  refine HKEEP (js := [1]) rfl (HPURE (js := [1]) 2 [(2, .e (some ⟨b4, 0, none⟩) 0 0), (16, .v (.agg #[vi m1.1.total, vi m1.1.free, vi m1.1.held, vi m1.1.sold, vi m1.1.tied, .slice none 0 0, .slice a8 m6.spoke.length c9]))] ?_ ?_ rfl ?_)
  iterate 2 (as_aux_lemma => kernel_rfl)
  refine HALL [3] ?_ (by decide) ?_
  · as_aux_lemma => kernel_rfl
  refine STOREC 93 (.tmp 2) (.tmp 16) 0 ?_ 0 _ b4 0 93 [vi 0, vi 0, vi 0, vi 0, vi 0, .slice none 0 0, .slice none 0 0] [vi m1.1.total, vi m1.1.free, vi m1.1.held, vi m1.1.sold, vi m1.1.tied, .slice none 0 0, .slice a8 m6.spoke.length c9] rfl (.agg #[vi m1.1.total, vi m1.1.free, vi m1.1.held, vi m1.1.sold, vi m1.1.tied, .slice none 0 0, .slice a8 m6.spoke.length c9]) ?_ ?_ ?_ ?_
  iterate 4 (as_aux_lemma => kernel_rfl)
  refine HKEEP (js := [0]) rfl (HPURE (js := [0]) 4 [(2, .e (some ⟨b4, 0, none⟩) 0 0), (3, B true)] ?_ ?_ rfl ?_)
  iterate 2 (as_aux_lemma => kernel_rfl)
  refine HEND ?_ ?_
  · as_aux_lemma => kernel_rfl
  refine IMPORT (L0 := [(93, [vi m1.1.total, vi m1.1.free, vi m1.1.held, vi m1.1.sold, vi m1.1.tied, .slice none 0 0, .slice a8 m6.spoke.length c9]), (87, [vi m1.1.total, vi m1.1.free, vi m1.1.held, vi m1.1.sold, vi m1.1.tied])]) (L1 := []) [b4, b5] rfl [2, 0] _ rfl [(2, .p 0 0), (3, B true)] ?_ ?_ ?_
  iterate 2 (as_aux_lemma => kernel_rfl)
  refine NEXT (RET (NIL 129 entryL (FIN (.tuple #[.agg #[vi m1.1.total, vi m1.1.free, vi m1.1.held, vi m1.1.sold, vi m1.1.tied, .slice none 0 0, .slice a8 m6.spoke.length c9], .bool true]) ?_ ⟨(((none, 0), (a8, c9)), ((⟨m1.1, [], m6⟩ : Cabin), true)), trivial⟩ ?_ [1, 0] ?_)))
  · as_aux_lemma => kernel_rfl
  · rfl
  · rfl

theorem houseNew_c (W : World) (r : Rules) (r_seats_a : Option Addr) (r_seats_c : Nat) (hr_seats : Rd intL W r_seats_a r.seats) : Spec Tryz.prog W [] 45 #[.agg #[.slice r_seats_a r.seats.length r_seats_c, vi r.tiers, vi r.room, vi r.size, vi r.period, vi r.window, vi r.rest, vi r.tries, vi r.crew]] (⟨{q : (HH × HH × HH × HH × HH) × (House × Bool) // (fun x : House × Bool => x.1.cabins.length ≤ r.seats.length ∧ x.1.cabins.length ≤ x.1.rules.seats.length ∧ x.1.parties.length = 0 ∧ x.1.todo.length = 0 ∧ x.1.cabins.length ≤ 4 ∧ x.1.jobs.length ≤ 3) q.2}, fun q => .tuple #[.agg #[.slice q.1.1.1.1 q.1.2.1.rules.seats.length q.1.1.1.2, vi q.1.2.1.rules.tiers, vi q.1.2.1.rules.room, vi q.1.2.1.rules.size, vi q.1.2.1.rules.period, vi q.1.2.1.rules.window, vi q.1.2.1.rules.rest, vi q.1.2.1.rules.tries, vi q.1.2.1.rules.crew, vi q.1.2.1.now, vi q.1.2.1.turn, .slice q.1.1.2.1.1 q.1.2.1.parties.length q.1.1.2.1.2, .slice q.1.1.2.2.1.1 q.1.2.1.cabins.length q.1.1.2.2.1.2, .slice q.1.1.2.2.2.1.1 q.1.2.1.todo.length q.1.1.2.2.2.1.2, .slice q.1.1.2.2.2.2.1 q.1.2.1.jobs.length q.1.1.2.2.2.2.2], .bool q.1.2.2], fun q => [slA 3 intL (.slice q.1.1.1.1 q.1.2.1.rules.seats.length q.1.1.1.2) q.1.2.1.rules.seats, slA 80 partyL (.slice q.1.1.2.1.1 q.1.2.1.parties.length q.1.1.2.1.2) q.1.2.1.parties, slA 93 (cabinLx 129 106 111) (.slice q.1.1.2.2.1.1 q.1.2.1.cabins.length q.1.1.2.2.1.2) q.1.2.1.cabins, slA 3 intL (.slice q.1.1.2.2.2.1.1 q.1.2.1.todo.length q.1.1.2.2.2.1.2) q.1.2.1.todo, slA 3 intL (.slice q.1.1.2.2.2.2.1 q.1.2.1.jobs.length q.1.1.2.2.2.2.2) q.1.2.1.jobs]⟩) := by
 refine ENTER0 (N := 50) (vs := [.agg #[.slice r_seats_a r.seats.length r_seats_c, vi r.tiers, vi r.room, vi r.size, vi r.period, vi r.window, vi r.rest, vi r.tries, vi r.crew]]) Tryz.func45 rfl rfl (NL rfl) ?_
 have hr_seats_len := hr_seats.len
 refine SEQ (REGION [0, 1, 2] rfl (RUN 3 [] [(1, .p 0 0), (2, .p 1 0)] [(51, [.slice r_seats_a r.seats.length r_seats_c, vi r.tiers, vi r.room, vi r.size, vi r.period, vi r.window, vi r.rest, vi r.tries, vi r.crew]), (55, [.slice none 0 0, vi 0, vi 0, vi 0, vi 0, vi 0, vi 0, vi 0, vi 0, vi 0, vi 0, .slice none 0 0, .slice none 0 0, .slice none 0 0, .slice none 0 0])] ?_ rfl ?_))
 · as_aux_lemma => kernel_rfl
 refine ENDOPS (NEXT (SEQ (SEQ (REGION [0, 1, 2] rfl (RUN0 1 [1, 2] [(1, .p 0 0), (2, .p 1 0), (9, .v (.agg #[.slice r_seats_a r.seats.length r_seats_c, vi r.tiers, vi r.room, vi r.size, vi r.period, vi r.window, vi r.rest, vi r.tries, vi r.crew]))] ?_ rfl ?_)))))
 · as_aux_lemma => kernel_rfl
 refine OPC (CALL 66 #[.agg #[.slice r_seats_a r.seats.length r_seats_c, vi r.tiers, vi r.room, vi r.size, vi r.period, vi r.window, vi r.rest, vi r.tries, vi r.crew]] (some 10) ?_ [] [] _ rfl (RV (.bool (rulesOk r))) (fun w hw => sRulesOk_c w r r_seats_a r_seats_c (hr_seats.fr hw.fr)) (NO rfl) ?_)
 · as_aux_lemma => kernel_rfl
 rintro ⟨⟩
 refine RUN0 1 [] [(1, .p 0 0), (2, .p 1 0), (11, B (!(rulesOk r)))] ?_ rfl ?_
 · as_aux_lemma => kernel_rfl
 refine ENDOPS (NEXT (IF (!(rulesOk r)) ?_ (fun bh1 => ?_) (fun bh1 => ?_)))
 · as_aux_lemma => kernel_rfl
 ·
  have h1 := bh1
  have h1 := notT h1
  refine SEQ (REGION [0, 1, 2] rfl (RUN0 3 [] [(2, .p 1 0), (3, B false)] ?_ rfl ?_))
  · as_aux_lemma => kernel_rfl
  refine ENDOPS (NEXT (RET (PASS trivial (NIL 3 intL (NIL 80 partyL (NIL 93 (cabinLx 129 106 111) (NIL 3 intL (NIL 3 intL (FIN (.tuple #[.agg #[.slice none 0 0, vi 0, vi 0, vi 0, vi 0, vi 0, vi 0, vi 0, vi 0, vi 0, vi 0, .slice none 0 0, .slice none 0 0, .slice none 0 0, .slice none 0 0], .bool false]) ?_ ⟨(((none, 0), (none, 0), (none, 0), (none, 0), (none, 0)), ((⟨(⟨[], 0, 0, 0, 0, 0, 0, 0, 0⟩ : Rules), 0, 0, [], [], [], []⟩ : House), false)), (by refine ⟨?_, ?_, ?_, ?_, ?_, ?_⟩ <;> first | omega | (dsimp only; omega) | (simp; done) | (simp; omega))⟩ ?_ [0, 0, 0, 0, 0] ?_)))))))))
  · as_aux_lemma => kernel_rfl
  · rfl
  · rfl
 ·
  have h1 := bh1
  have h1 := notF h1
  have hro : r.seats.length ≤ 4 ∧ r.crew ≤ 3 := (by have h9 := h1; simp [rulesOk, inB] at h9; omega)
  refine SKIP (NEXT (SEQ (REGION [0, 1, 2, 3, 4] rfl (RUN0 1 [1, 2, 3, 4] [(1, .p 0 0), (2, .p 1 0), (13, .v (.agg #[.slice r_seats_a r.seats.length r_seats_c, vi r.tiers, vi r.room, vi r.size, vi r.period, vi r.window, vi r.rest, vi r.tries, vi r.crew]))] ?_ rfl ?_))))
  · as_aux_lemma => kernel_rfl
  refine OPC (CALL 67 #[.agg #[.slice r_seats_a r.seats.length r_seats_c, vi r.tiers, vi r.room, vi r.size, vi r.period, vi r.window, vi r.rest, vi r.tries, vi r.crew]] (some 14) ?_ [] [] _ rfl (⟨HH, fun p => .agg #[.slice p.1 r.seats.length p.2, vi r.tiers, vi r.room, vi r.size, vi r.period, vi r.window, vi r.rest, vi r.tries, vi r.crew], fun p => [slA 3 intL (.slice p.1 r.seats.length p.2) r.seats]⟩) (fun w hw => l5Copy_c w r r_seats_a r_seats_c (hr_seats.fr hw.fr) (by first | assumption | omega)) (NO rfl) ?_)
  · as_aux_lemma => kernel_rfl
  rintro ⟨a2, c3⟩
  refine RUN 3 [] [(1, .p 0 0), (2, .p 1 0), (4, .p 2 0)] [(51, [.slice r_seats_a r.seats.length r_seats_c, vi r.tiers, vi r.room, vi r.size, vi r.period, vi r.window, vi r.rest, vi r.tries, vi r.crew]), (55, [.slice none 0 0, vi 0, vi 0, vi 0, vi 0, vi 0, vi 0, vi 0, vi 0, vi 0, vi 0, .slice none 0 0, .slice none 0 0, .slice none 0 0, .slice none 0 0]), (55, [.slice a2 r.seats.length c3, vi r.tiers, vi r.room, vi r.size, vi r.period, vi r.window, vi r.rest, vi r.tries, vi r.crew, vi 0, vi 1, .slice none 0 0, .slice none 0 0, .slice none 0 0, .slice none 0 0])] ?_ rfl ?_
  · as_aux_lemma => kernel_rfl
  refine ENDOPS (NEXT (SEQ (SEQ (REGION [0] rfl (RUN0 1 [] [(1, .p 0 0), (2, .p 1 0), (4, .p 2 0), (5, I 0)] ?_ rfl ?_)))))
  · as_aux_lemma => kernel_rfl
  refine ENDOPS (NEXT (BLOCK (NIL 93 (cabinLx 129 106 111) ?_)))
  refine LOOP (ι := Nat × (List Int) × (Option Addr) × Nat × (List Cabin)) (fun j => [(1, .p 0 0), (2, .p 1 0), (4, .p 2 0), (5, I (j.1 : Int))]) (fun j => [(51, [.slice r_seats_a r.seats.length r_seats_c, vi r.tiers, vi r.room, vi r.size, vi r.period, vi r.window, vi r.rest, vi r.tries, vi r.crew]), (55, [.slice none 0 0, vi 0, vi 0, vi 0, vi 0, vi 0, vi 0, vi 0, vi 0, vi 0, vi 0, .slice none 0 0, .slice none 0 0, .slice none 0 0, .slice none 0 0]), (55, [.slice a2 r.seats.length c3, vi r.tiers, vi r.room, vi r.size, vi r.period, vi r.window, vi r.rest, vi r.tries, vi r.crew, vi 0, vi 1, .slice none 0 0, .slice j.2.2.1 j.2.2.2.2.length j.2.2.2.1, .slice none 0 0, .slice none 0 0])]) (fun j => [slA 3 intL (.slice a2 r.seats.length c3) r.seats, slA 93 (cabinLx 129 106 111) (.slice j.2.2.1 j.2.2.2.2.length j.2.2.2.1) j.2.2.2.2]) (fun j => j.1 + j.2.1.length = r.seats.length ∧ r.seats.drop j.1 = j.2.1 ∧ j.2.2.2.2.length = j.1) (fun j => j.2.1.length) (0, r.seats, none, 0, []) [1, 2, 4, 5] ⟨by simp, rfl, by simp⟩ ?_ rfl rfl ?_
  · as_aux_lemma => kernel_rfl
  rintro ⟨k, ys, oa, oc, out⟩ ⟨hk, hd, hv0⟩
  try dsimp only at hk hd hv0
  refine SEQ (SEQ (REGION [0, 1, 2, 3, 4] rfl (RUN0 5 [] [(1, .p 0 0), (2, .p 1 0), (4, .p 2 0), (5, I (k : Int)), (20, B (decide ((k : Int) < (r.seats.length : Int))))] ?_ rfl ?_)))
  · as_aux_lemma => kernel_rfl
  refine ENDOPS (NEXT (IF (decide ((k : Int) < (r.seats.length : Int))) ?_ (fun bh4 => ?_) (fun bh4 => ?_)))
  · as_aux_lemma => kernel_rfl
  ·
   have h4 := bh4
   have h4 := of_decide_eq_true h4
   obtain ⟨y5, ys6, rfl, hx_y5, hd_y5, hl_y5⟩ := drop_cons hd hk (by omega)
   refine SKIP (NEXT (SEQ (BLOCK (SEQ (REGION [0, 1, 2, 3, 4, 5, 6, 7, 8, 9, 10, 11] rfl (RUN0 3 [3, 4, 5, 6, 7, 8, 9, 10, 11] [(1, .p 0 0), (2, .p 1 0), (4, .p 2 0), (5, I (k : Int)), (25, .v (.slice r_seats_a r.seats.length r_seats_c)), (26, I (k : Int))] ?_ rfl ?_))))))
   · as_aux_lemma => kernel_rfl
   refine OPC (INDEX 42 (.tmp 25) (.tmp 26) 27 0 ?_ (NL rfl) r_seats_a r.seats.length r_seats_c .i64 (k : Int) 3 1 ?_ ?_ ?_ ?_ (Rd.some hr_seats (by omega)) (by omega) (by omega) ?_)
   iterate 5 (as_aux_lemma => kernel_rfl)
   refine OPC (LOADE 3 (.tmp 27) 28 3 ?_ (NL rfl) r_seats_a (k * 1) 0 [vi y5] (vi y5) ?_ (fun w hw => (hr_seats.fr hw.fr).flat hx_y5) ?_ ?_)
   iterate 3 (as_aux_lemma => kernel_rfl)
   refine OPC (CALL 68 #[vi y5] (some 29) ?_ [] [] _ rfl (⟨{q : (HH × HH) × (Cabin × Bool) // (fun x : Cabin × Bool => True) q.2}, fun q => .tuple #[.agg #[vi q.1.2.1.seats.total, vi q.1.2.1.seats.free, vi q.1.2.1.seats.held, vi q.1.2.1.seats.sold, vi q.1.2.1.seats.tied, .slice q.1.1.1.1 q.1.2.1.row.length q.1.1.1.2, .slice q.1.1.2.1 q.1.2.1.wheel.spoke.length q.1.1.2.2], .bool q.1.2.2], fun q => [slA 129 entryL (.slice q.1.1.1.1 q.1.2.1.row.length q.1.1.1.2) q.1.2.1.row, slA 106 (sl 111 pinL) (.slice q.1.1.2.1 q.1.2.1.wheel.spoke.length q.1.1.2.2) q.1.2.1.wheel.spoke]⟩) (fun w hw => cabinNew_c w y5) (NO rfl) ?_)
   · as_aux_lemma => kernel_rfl
   rintro ⟨⟨⟨⟨a9, c10⟩, ⟨a11, c12⟩⟩, m7⟩, hm8⟩
   try dsimp only at hm8
   refine RUN 6 [] [(1, .p 0 0), (2, .p 1 0), (4, .p 2 0), (5, I (k : Int)), (6, .p 3 0)] [(51, [.slice r_seats_a r.seats.length r_seats_c, vi r.tiers, vi r.room, vi r.size, vi r.period, vi r.window, vi r.rest, vi r.tries, vi r.crew]), (55, [.slice none 0 0, vi 0, vi 0, vi 0, vi 0, vi 0, vi 0, vi 0, vi 0, vi 0, vi 0, .slice none 0 0, .slice none 0 0, .slice none 0 0, .slice none 0 0]), (55, [.slice a2 r.seats.length c3, vi r.tiers, vi r.room, vi r.size, vi r.period, vi r.window, vi r.rest, vi r.tries, vi r.crew, vi 0, vi 1, .slice none 0 0, .slice oa out.length oc, .slice none 0 0, .slice none 0 0]), (93, [vi m7.1.seats.total, vi m7.1.seats.free, vi m7.1.seats.held, vi m7.1.seats.sold, vi m7.1.seats.tied, .slice a9 m7.1.row.length c10, .slice a11 m7.1.wheel.spoke.length c12])] ?_ rfl ?_
   · as_aux_lemma => kernel_rfl
   refine ENDOPS (NEXT (REGION [0, 1, 2, 3, 4, 5, 6] rfl (RUN0 3 [3, 4, 5, 6] [(1, .p 0 0), (2, .p 1 0), (4, .p 2 0), (5, I (k : Int)), (33, .v (.slice oa out.length oc)), (34, .v (.agg #[vi m7.1.seats.total, vi m7.1.seats.free, vi m7.1.seats.held, vi m7.1.seats.sold, vi m7.1.seats.tied, .slice a9 m7.1.row.length c10, .slice a11 m7.1.wheel.spoke.length c12]))] ?_ rfl ?_)))
   · as_aux_lemma => kernel_rfl
   refine OPC (BUILDS 53 1 #[(0, .tmp 34)] 35 53 ?_ (NL rfl) 93 [vi m7.1.seats.total, vi m7.1.seats.free, vi m7.1.seats.held, vi m7.1.seats.sold, vi m7.1.seats.tied, .slice a9 m7.1.row.length c10, .slice a11 m7.1.wheel.spoke.length c12] ?_ (cabinLx 129 106 111) [m7.1] rfl (by simp only [maxLen]; omega) [2, 2] [slA 129 entryL (.slice a9 m7.1.row.length c10) m7.1.row, slA 106 (sl 111 pinL) (.slice a11 m7.1.wheel.spoke.length c12) m7.1.wheel.spoke] _ rfl (oneRep (cabinRep (c := m7.1))) (fun a13 ha14 => ?_))
   iterate 2 (as_aux_lemma => kernel_rfl)
   refine OPC (APPENDO 53 (.tmp 33) (.tmp 35) 36 53 ?_ (NL rfl) (.slice oa out.length oc) a13 1 1 ?_ ?_ ha14 93 ?_ (cabinLx 129 106 111) (.agg #[vi 0, vi 0, vi 0, vi 0, vi 0, .slice none 0 0, .slice none 0 0]) 88 ?_ rfl (by decide) 1 1 out ([m7.1]) _ rfl rfl (by first | omega | (simp only [List.length_append, List.length_cons, List.length_nil, List.length_take, List.length_drop] at *; omega)) (by simp only [maxLen]; first | omega | (simp only [List.length_append, List.length_cons, List.length_nil, List.length_take, List.length_drop] at *; omega)) (fun a15 c16 hn17 => ?_))
   iterate 5 (as_aux_lemma => kernel_rfl)
   refine RUN 2 [] [(1, .p 0 0), (2, .p 1 0), (4, .p 2 0), (5, I (k : Int))] [(51, [.slice r_seats_a r.seats.length r_seats_c, vi r.tiers, vi r.room, vi r.size, vi r.period, vi r.window, vi r.rest, vi r.tries, vi r.crew]), (55, [.slice none 0 0, vi 0, vi 0, vi 0, vi 0, vi 0, vi 0, vi 0, vi 0, vi 0, vi 0, .slice none 0 0, .slice none 0 0, .slice none 0 0, .slice none 0 0]), (55, [.slice a2 r.seats.length c3, vi r.tiers, vi r.room, vi r.size, vi r.period, vi r.window, vi r.rest, vi r.tries, vi r.crew, vi 0, vi 1, .slice none 0 0, .slice a15 ((out ++ ([m7.1])).length) c16, .slice none 0 0, .slice none 0 0]), (93, [vi m7.1.seats.total, vi m7.1.seats.free, vi m7.1.seats.held, vi m7.1.seats.sold, vi m7.1.seats.tied, .slice a9 m7.1.row.length c10, .slice a11 m7.1.wheel.spoke.length c12])] ?_ rfl ?_
   · as_aux_lemma => kernel_rfl
   refine ENDOPS (OUTN (NEXT (REGION [0, 1, 2] rfl (RUN0 2 [2] [(1, .p 0 0), (2, .p 1 0), (4, .p 2 0), (22, I (wr ((k : Int) + 1)))] ?_ rfl ?_))))
   · as_aux_lemma => kernel_rfl
   refine CAST (d := 22) (vi (wr ((k : Int) + 1))) (vi ((k + 1 : Nat) : Int)) ?_ (vi_cast (by omega) (by omega)) ?_
   · as_aux_lemma => kernel_rfl
   refine RUN0 1 [] [(1, .p 0 0), (2, .p 1 0), (4, .p 2 0), (5, I ((k + 1 : Nat) : Int))] ?_ rfl ?_
   · as_aux_lemma => kernel_rfl
   refine ENDOPS (BACK (k + 1, ys6, a15, c16, out ++ ([m7.1])) [1, 2, 4, 5] 3 [0, 0] _ ⟨hl_y5, hd_y5, (by first | omega | (simp only [List.length_append, List.length_cons, List.length_nil, List.length_take, List.length_drop]; omega) | (dsimp only; omega))⟩ (by simp) ?_ rfl rfl rfl)
   · as_aux_lemma => kernel_rfl
  ·
   have h4 := bh4
   have h4 := of_decide_eq_false h4
   obtain rfl := drop_nil hk (by omega)
   refine EXIT (PASS trivial (PASS trivial (OUT (NEXT (SEQ (SEQ (REGION [0] rfl (RUN0 1 [] [(1, .p 0 0), (2, .p 1 0), (4, .p 2 0), (8, I 0)] ?_ rfl ?_))))))))
   · as_aux_lemma => kernel_rfl
   refine ENDOPS (NEXT (BLOCK (NIL 3 intL ?_)))
   refine LOOP (ι := Nat × (Option Addr) × Nat × (List Int)) (fun j => [(1, .p 0 0), (2, .p 1 0), (4, .p 2 0), (8, I (j.1 : Int))]) (fun j => [(51, [.slice r_seats_a r.seats.length r_seats_c, vi r.tiers, vi r.room, vi r.size, vi r.period, vi r.window, vi r.rest, vi r.tries, vi r.crew]), (55, [.slice none 0 0, vi 0, vi 0, vi 0, vi 0, vi 0, vi 0, vi 0, vi 0, vi 0, vi 0, .slice none 0 0, .slice none 0 0, .slice none 0 0, .slice none 0 0]), (55, [.slice a2 r.seats.length c3, vi r.tiers, vi r.room, vi r.size, vi r.period, vi r.window, vi r.rest, vi r.tries, vi r.crew, vi 0, vi 1, .slice none 0 0, .slice oa out.length oc, .slice none 0 0, .slice j.2.1 j.2.2.2.length j.2.2.1])]) (fun j => [slA 3 intL (.slice a2 r.seats.length c3) r.seats, slA 93 (cabinLx 129 106 111) (.slice oa out.length oc) out, slA 3 intL (.slice j.2.1 j.2.2.2.length j.2.2.1) j.2.2.2]) (fun j => j.2.2.2.length = j.1 ∧ j.1 ≤ 3) (fun j => 3 - j.1) (0, none, 0, []) [1, 2, 4, 8] ⟨rfl, by omega⟩ ?_ rfl rfl ?_
   · as_aux_lemma => kernel_rfl
   rintro ⟨i, ja, jc, jo⟩ ⟨hil, hi3⟩
   try dsimp only at hil hi3
   refine SEQ (SEQ (REGION [0, 1, 2, 3] rfl (RUN0 4 [] [(1, .p 0 0), (2, .p 1 0), (4, .p 2 0), (8, I (i : Int)), (41, B (decide ((i : Int) < r.crew)))] ?_ rfl ?_)))
   · as_aux_lemma => kernel_rfl
   refine ENDOPS (NEXT (IF (decide ((i : Int) < r.crew)) ?_ (fun bh18 => ?_) (fun bh18 => ?_)))
   · as_aux_lemma => kernel_rfl
   ·
    have h18 := bh18
    have h18 := of_decide_eq_true h18
    refine SKIP (NEXT (SEQ (BLOCK (REGION [0, 1, 2, 3, 4, 5] rfl (RUN0 2 [2, 3, 4, 5] [(1, .p 0 0), (2, .p 1 0), (4, .p 2 0), (8, I (i : Int)), (45, .v (.slice ja jo.length jc))] ?_ rfl ?_)))))
    · as_aux_lemma => kernel_rfl
    refine OPC (BUILDS 42 1 #[(0, .const (vi (-1)))] 46 42 ?_ (NL rfl) 3 [vi (-1)] ?_ intL [-1] rfl (by simp only [maxLen]; omega) [] [] _ rfl (flatRep rfl) (fun a19 ha20 => ?_))
    iterate 2 (as_aux_lemma => kernel_rfl)
    refine OPC (APPENDO 42 (.tmp 45) (.tmp 46) 47 42 ?_ (NL rfl) (.slice ja jo.length jc) a19 1 1 ?_ ?_ ha20 3 ?_ intL (vi 0) 8 ?_ rfl (by decide) 2 2 jo ([-1]) _ rfl rfl (by first | omega | (simp only [List.length_append, List.length_cons, List.length_nil, List.length_take, List.length_drop] at *; omega)) (by simp only [maxLen]; first | omega | (simp only [List.length_append, List.length_cons, List.length_nil, List.length_take, List.length_drop] at *; omega)) (fun a21 c22 hn23 => ?_))
    iterate 5 (as_aux_lemma => kernel_rfl)
    refine RUN 2 [] [(1, .p 0 0), (2, .p 1 0), (4, .p 2 0), (8, I (i : Int))] [(51, [.slice r_seats_a r.seats.length r_seats_c, vi r.tiers, vi r.room, vi r.size, vi r.period, vi r.window, vi r.rest, vi r.tries, vi r.crew]), (55, [.slice none 0 0, vi 0, vi 0, vi 0, vi 0, vi 0, vi 0, vi 0, vi 0, vi 0, vi 0, .slice none 0 0, .slice none 0 0, .slice none 0 0, .slice none 0 0]), (55, [.slice a2 r.seats.length c3, vi r.tiers, vi r.room, vi r.size, vi r.period, vi r.window, vi r.rest, vi r.tries, vi r.crew, vi 0, vi 1, .slice none 0 0, .slice oa out.length oc, .slice none 0 0, .slice a21 ((jo ++ ([-1])).length) c22])] ?_ rfl ?_
    · as_aux_lemma => kernel_rfl
    refine ENDOPS (OUTN (NEXT (REGION [0, 1, 2] rfl (RUN0 2 [2] [(1, .p 0 0), (2, .p 1 0), (4, .p 2 0), (43, I (wr ((i : Int) + 1)))] ?_ rfl ?_))))
    · as_aux_lemma => kernel_rfl
    refine CAST (d := 43) (vi (wr ((i : Int) + 1))) (vi ((i + 1 : Nat) : Int)) ?_ (vi_cast (by omega) (by omega)) ?_
    · as_aux_lemma => kernel_rfl
    refine RUN0 1 [] [(1, .p 0 0), (2, .p 1 0), (4, .p 2 0), (8, I ((i + 1 : Nat) : Int))] ?_ rfl ?_
    · as_aux_lemma => kernel_rfl
    refine ENDOPS (BACK (i + 1, a21, c22, jo ++ ([-1])) [1, 2, 4, 8] 3 [0, 0, 0] _ ⟨by simp only [List.length_append, List.length_cons, List.length_nil]; omega, by dsimp only; omega⟩ (by dsimp only; omega) ?_ rfl rfl rfl)
    · as_aux_lemma => kernel_rfl
   ·
    have h18 := bh18
    have h18 := of_decide_eq_false h18
    refine EXIT (PASS trivial (PASS trivial (OUT (NEXT (SEQ (REGION [0, 1, 2] rfl (RUN 3 [] [(2, .p 1 0), (3, B true)] [(51, [.slice r_seats_a r.seats.length r_seats_c, vi r.tiers, vi r.room, vi r.size, vi r.period, vi r.window, vi r.rest, vi r.tries, vi r.crew]), (55, [.slice a2 r.seats.length c3, vi r.tiers, vi r.room, vi r.size, vi r.period, vi r.window, vi r.rest, vi r.tries, vi r.crew, vi 0, vi 1, .slice none 0 0, .slice oa out.length oc, .slice none 0 0, .slice ja jo.length jc]), (55, [.slice a2 r.seats.length c3, vi r.tiers, vi r.room, vi r.size, vi r.period, vi r.window, vi r.rest, vi r.tries, vi r.crew, vi 0, vi 1, .slice none 0 0, .slice oa out.length oc, .slice none 0 0, .slice ja jo.length jc])] ?_ rfl ?_)))))))
    · as_aux_lemma => kernel_rfl
    refine ENDOPS (NEXT (RET (NIL 80 partyL (NIL 3 intL (FIN (.tuple #[.agg #[.slice a2 r.seats.length c3, vi r.tiers, vi r.room, vi r.size, vi r.period, vi r.window, vi r.rest, vi r.tries, vi r.crew, vi 0, vi 1, .slice none 0 0, .slice oa out.length oc, .slice none 0 0, .slice ja jo.length jc], .bool true]) ?_ ⟨(((a2, c3), (none, 0), (oa, oc), (none, 0), (ja, jc)), ((⟨r, 0, 1, [], out, [], jo⟩ : House), true)), (by refine ⟨?_, ?_, ?_, ?_, ?_, ?_⟩ <;> first | omega | (dsimp only; omega) | (simp; done) | (simp; omega))⟩ ?_ [0, 2, 0, 1, 0] ?_)))))
    · as_aux_lemma => kernel_rfl
    · rfl
    · rfl

theorem l5Right_c (W : World) (d : Cd) (hd : CodeOk W d) (p : Value) : Spec Tryz.prog W [curA d p] 44 #[p] (⟨{q : (HH) × Rules // (fun x : Rules => True) q.2}, fun q => .agg #[.slice q.1.1.1 q.1.2.seats.length q.1.1.2, vi q.1.2.tiers, vi q.1.2.room, vi q.1.2.size, vi q.1.2.period, vi q.1.2.window, vi q.1.2.rest, vi q.1.2.tries, vi q.1.2.crew], fun q => [slA 3 intL (.slice q.1.1.1 q.1.2.seats.length q.1.1.2) q.1.2.seats, curA (d) p]⟩) := by
 refine ENTERC (N := 47) (vs := [p]) Tryz.func44 rfl rfl (NL rfl) (fun S0 hS hP => ?_)
 refine SEQ (REGION [0] rfl (RUN 1 [] [(0, .v (p)), (2, .p 0 0)] [(51, [.slice none 0 0, vi 0, vi 0, vi 0, vi 0, vi 0, vi 0, vi 0, vi 0])] ?_ rfl ?_))
 · as_aux_lemma => kernel_rfl
 refine ENDOPS (NEXT (SEQ (REGION [0, 1, 2, 3, 4, 5, 6, 7, 8, 9, 10, 11, 12, 13, 14, 15, 16, 17, 18, 19, 20, 21, 22, 23, 24, 25] rfl (RUN0 1 [1, 2, 3, 4, 5, 6, 7, 8, 9, 10, 11, 12, 13, 14, 15, 16, 17, 18, 19, 20, 21, 22, 23, 24, 25] [(0, .v (p)), (2, .p 0 0), (6, .v (p))] ?_ rfl ?_))))
 · as_aux_lemma => kernel_rfl
 refine OPC (CALL 29 #[p, vi 5] (some 7) ?_ [0] [curA (d) p] _ rfl (⟨{x : Int // 0 ≤ x ∧ (5 ≤ 0 → x = 0) ∧ (0 < 5 → x < 5)}, fun q => vi q.1, fun q => [curA (d) p]⟩) (fun w hw => l1Below_c w (d) (hd.fr hw.fr hS) p 5) (NO rfl) ?_)
 · as_aux_lemma => kernel_rfl
 rintro ⟨m1, hm2⟩
 try dsimp only at hm2
 refine RUN0 2 [4, 5, 6, 7, 8, 9, 10, 11, 12, 13, 14, 15, 16, 17, 18, 19, 20, 21, 22, 23, 24, 25] [(0, .v (p)), (2, .p 0 0), (8, I (wr (1 + m1))), (9, .v (p))] ?_ rfl ?_
 · as_aux_lemma => kernel_rfl
 refine OPC (CALL 29 #[p, vi 9] (some 10) ?_ [0] [curA (d) p] _ rfl (⟨{x : Int // 0 ≤ x ∧ (9 ≤ 0 → x = 0) ∧ (0 < 9 → x < 9)}, fun q => vi q.1, fun q => [curA (d) p]⟩) (fun w hw => l1Below_c w (d) (hd.fr hw.fr hS) p 9) (NO rfl) ?_)
 · as_aux_lemma => kernel_rfl
 rintro ⟨m3, hm4⟩
 try dsimp only at hm4
 refine RUN0 2 [7, 8, 9, 10, 11, 12, 13, 14, 15, 16, 17, 18, 19, 20, 21, 22, 23, 24, 25] [(0, .v (p)), (2, .p 0 0), (8, I (wr (1 + m1))), (11, I (wr (2 + m3))), (12, .v (p))] ?_ rfl ?_
 · as_aux_lemma => kernel_rfl
 refine OPC (CALL 29 #[p, vi 6] (some 13) ?_ [0] [curA (d) p] _ rfl (⟨{x : Int // 0 ≤ x ∧ (6 ≤ 0 → x = 0) ∧ (0 < 6 → x < 6)}, fun q => vi q.1, fun q => [curA (d) p]⟩) (fun w hw => l1Below_c w (d) (hd.fr hw.fr hS) p 6) (NO rfl) ?_)
 · as_aux_lemma => kernel_rfl
 rintro ⟨m5, hm6⟩
 try dsimp only at hm6
 refine RUN0 2 [10, 11, 12, 13, 14, 15, 16, 17, 18, 19, 20, 21, 22, 23, 24, 25] [(0, .v (p)), (2, .p 0 0), (8, I (wr (1 + m1))), (11, I (wr (2 + m3))), (14, I (wr (1 + m5))), (15, .v (p))] ?_ rfl ?_
 · as_aux_lemma => kernel_rfl
 refine OPC (CALL 29 #[p, vi 5] (some 16) ?_ [0] [curA (d) p] _ rfl (⟨{x : Int // 0 ≤ x ∧ (5 ≤ 0 → x = 0) ∧ (0 < 5 → x < 5)}, fun q => vi q.1, fun q => [curA (d) p]⟩) (fun w hw => l1Below_c w (d) (hd.fr hw.fr hS) p 5) (NO rfl) ?_)
 · as_aux_lemma => kernel_rfl
 rintro ⟨m7, hm8⟩
 try dsimp only at hm8
 refine RUN0 2 [13, 14, 15, 16, 17, 18, 19, 20, 21, 22, 23, 24, 25] [(0, .v (p)), (2, .p 0 0), (8, I (wr (1 + m1))), (11, I (wr (2 + m3))), (14, I (wr (1 + m5))), (17, I (wr (1 + m7))), (18, .v (p))] ?_ rfl ?_
 · as_aux_lemma => kernel_rfl
 refine OPC (CALL 29 #[p, vi 4] (some 19) ?_ [0] [curA (d) p] _ rfl (⟨{x : Int // 0 ≤ x ∧ (4 ≤ 0 → x = 0) ∧ (0 < 4 → x < 4)}, fun q => vi q.1, fun q => [curA (d) p]⟩) (fun w hw => l1Below_c w (d) (hd.fr hw.fr hS) p 4) (NO rfl) ?_)
 · as_aux_lemma => kernel_rfl
 rintro ⟨m9, hm10⟩
 try dsimp only at hm10
 refine RUN0 2 [16, 17, 18, 19, 20, 21, 22, 23, 24, 25] [(0, .v (p)), (2, .p 0 0), (8, I (wr (1 + m1))), (11, I (wr (2 + m3))), (14, I (wr (1 + m5))), (17, I (wr (1 + m7))), (20, I (wr (1 + m9))), (21, .v (p))] ?_ rfl ?_
 · as_aux_lemma => kernel_rfl
 refine OPC (CALL 29 #[p, vi 4] (some 22) ?_ [0] [curA (d) p] _ rfl (⟨{x : Int // 0 ≤ x ∧ (4 ≤ 0 → x = 0) ∧ (0 < 4 → x < 4)}, fun q => vi q.1, fun q => [curA (d) p]⟩) (fun w hw => l1Below_c w (d) (hd.fr hw.fr hS) p 4) (NO rfl) ?_)
 · as_aux_lemma => kernel_rfl
 rintro ⟨m11, hm12⟩
 try dsimp only at hm12
 refine RUN0 1 [18, 19, 20, 21, 22, 23, 24, 25] [(0, .v (p)), (2, .p 0 0), (8, I (wr (1 + m1))), (11, I (wr (2 + m3))), (14, I (wr (1 + m5))), (17, I (wr (1 + m7))), (20, I (wr (1 + m9))), (22, I m11), (23, .v (p))] ?_ rfl ?_
 · as_aux_lemma => kernel_rfl
 refine OPC (CALL 29 #[p, vi 4] (some 24) ?_ [0] [curA (d) p] _ rfl (⟨{x : Int // 0 ≤ x ∧ (4 ≤ 0 → x = 0) ∧ (0 < 4 → x < 4)}, fun q => vi q.1, fun q => [curA (d) p]⟩) (fun w hw => l1Below_c w (d) (hd.fr hw.fr hS) p 4) (NO rfl) ?_)
 · as_aux_lemma => kernel_rfl
 rintro ⟨m13, hm14⟩
 try dsimp only at hm14
 refine RUN0 2 [21, 22, 23, 24, 25] [(0, .v (p)), (2, .p 0 0), (8, I (wr (1 + m1))), (11, I (wr (2 + m3))), (14, I (wr (1 + m5))), (17, I (wr (1 + m7))), (20, I (wr (1 + m9))), (22, I m11), (25, I (wr (1 + m13))), (26, .v (p))] ?_ rfl ?_
 · as_aux_lemma => kernel_rfl
 refine OPC (CALL 29 #[p, vi 3] (some 27) ?_ [0] [curA (d) p] _ rfl (⟨{x : Int // 0 ≤ x ∧ (3 ≤ 0 → x = 0) ∧ (0 < 3 → x < 3)}, fun q => vi q.1, fun q => [curA (d) p]⟩) (fun w hw => l1Below_c w (d) (hd.fr hw.fr hS) p 3) (NO rfl) ?_)
 · as_aux_lemma => kernel_rfl
 rintro ⟨m15, hm16⟩
 try dsimp only at hm16
 refine RUN 4 [] [(0, .v (p)), (2, .p 0 0), (3, .p 1 0)] [(51, [.slice none 0 0, vi 0, vi 0, vi 0, vi 0, vi 0, vi 0, vi 0, vi 0]), (51, [.slice none 0 0, vi (wr (1 + m1)), vi (wr (2 + m3)), vi (wr (1 + m5)), vi (wr (1 + m7)), vi (wr (1 + m9)), vi m11, vi (wr (1 + m13)), vi (wr (1 + m15))])] ?_ rfl ?_
 · as_aux_lemma => kernel_rfl
 refine ENDOPS (NEXT (SEQ (REGION [0, 1, 2, 3] rfl (RUN0 1 [1, 2, 3] [(0, .v (p)), (2, .p 0 0), (3, .p 1 0), (30, .v (p))] ?_ rfl ?_))))
 · as_aux_lemma => kernel_rfl
 refine OPC (CALL 29 #[p, vi 3] (some 31) ?_ [0] [curA (d) p] _ rfl (⟨{x : Int // 0 ≤ x ∧ (3 ≤ 0 → x = 0) ∧ (0 < 3 → x < 3)}, fun q => vi q.1, fun q => [curA (d) p]⟩) (fun w hw => l1Below_c w (d) (hd.fr hw.fr hS) p 3) (NO rfl) ?_)
 · as_aux_lemma => kernel_rfl
 rintro ⟨m17, hm18⟩
 try dsimp only at hm18
 refine RUN0 2 [] [(0, .v (p)), (2, .p 0 0), (3, .p 1 0), (4, I (wr (1 + m17)))] ?_ rfl ?_
 · as_aux_lemma => kernel_rfl
 refine ENDOPS (NEXT (SEQ (SEQ (REGION [0] rfl (RUN0 1 [] [(0, .v (p)), (2, .p 0 0), (3, .p 1 0), (4, I (wr (1 + m17))), (5, I 0)] ?_ rfl ?_)))))
 · as_aux_lemma => kernel_rfl
 refine ENDOPS (NEXT (BLOCK (NIL 3 intL ?_)))
 refine LOOP (ι := Nat × (Option Addr) × Nat × (List Int)) (fun j => [(0, .v (p)), (2, .p 0 0), (3, .p 1 0), (4, I (wr (1 + m17))), (5, I (j.1 : Int))]) (fun j => [(51, [.slice none 0 0, vi 0, vi 0, vi 0, vi 0, vi 0, vi 0, vi 0, vi 0]), (51, [.slice j.2.1 j.2.2.2.length j.2.2.1, vi (wr (1 + m1)), vi (wr (2 + m3)), vi (wr (1 + m5)), vi (wr (1 + m7)), vi (wr (1 + m9)), vi m11, vi (wr (1 + m13)), vi (wr (1 + m15))])]) (fun j => [curA (d) p, slA 3 intL (.slice j.2.1 j.2.2.2.length j.2.2.1) j.2.2.2]) (fun j => j.2.2.2.length = j.1 ∧ j.1 ≤ 3) (fun j => 3 - j.1) (0, none, 0, []) [0, 2, 3, 4, 5] ⟨rfl, by omega⟩ ?_ rfl rfl ?_
 · as_aux_lemma => kernel_rfl
 rintro ⟨i, oa, oc, out⟩ ⟨hil, hi3⟩
 try dsimp only at hil hi3
 have hwn : wr (1 + m17) = (1 + m17) := wr_of (by omega) (by omega)
 refine SEQ (SEQ (REGION [0, 1, 2] rfl (RUN0 3 [] [(0, .v (p)), (2, .p 0 0), (3, .p 1 0), (4, I (wr (1 + m17))), (5, I (i : Int)), (35, B (decide ((i : Int) < (wr (1 + m17)))))] ?_ rfl ?_)))
 · as_aux_lemma => kernel_rfl
 refine ENDOPS (NEXT (IF (decide ((i : Int) < (wr (1 + m17)))) ?_ (fun bh19 => ?_) (fun bh19 => ?_)))
 · as_aux_lemma => kernel_rfl
 ·
  have h19 := bh19
  have h19 := of_decide_eq_true h19
  refine SKIP (NEXT (SEQ (BLOCK (EXPORT (fun bs hbs => ?_)))))
  obtain ⟨b20, b21, rfl⟩ := len2 hbs
  refine REGIONH ?_ 9 rfl [ptC b20 51 [.slice none 0 0, vi 0, vi 0, vi 0, vi 0, vi 0, vi 0, vi 0, vi 0]] ?_
  · as_aux_lemma => kernel_rfl
  refine HPURE (js := [0]) 0 [(0, .v (p)), (2, .e (some ⟨b20, 0, none⟩) 0 0), (3, .e (some ⟨b21, 0, none⟩) 0 0), (4, I (wr (1 + m17))), (5, I (i : Int)), (38, .e (some ⟨b21, 0, none⟩) 0 0)] ?_ ?_ rfl ?_
  iterate 2 (as_aux_lemma => kernel_rfl)
  refine HPURE (js := [0]) 2 [(0, .v (p)), (2, .e (some ⟨b20, 0, none⟩) 0 0), (3, .e (some ⟨b21, 0, none⟩) 0 0), (4, I (wr (1 + m17))), (5, I (i : Int)), (38, .e (some ⟨b21, 0, none⟩) 0 0), (40, .v (p))] ?_ ?_ rfl ?_
  iterate 2 (as_aux_lemma => kernel_rfl)
  refine HALL [1, 3] ?_ (by decide) ⟨?_, ?_⟩
  · as_aux_lemma => kernel_rfl
  ·
   refine LOADE 42 (.tmp 38) 39 42 ?_ (NL rfl) (some ⟨b21, 0, none⟩) 0 0 [.slice oa out.length oc, vi (wr (1 + m1)), vi (wr (2 + m3)), vi (wr (1 + m5)), vi (wr (1 + m7)), vi (wr (1 + m9)), vi m11, vi (wr (1 + m13)), vi (wr (1 + m15))] (.slice oa out.length oc) ?_ (fun w hw => ptC_elem (hw.own 1 rfl)) ?_ ?_
   iterate 3 (as_aux_lemma => kernel_rfl)
   refine HKEEP (js := [0]) rfl (HALL [3] ?_ (by decide) ?_)
   · as_aux_lemma => kernel_rfl
   refine CALL 29 #[p, vi 12] (some 41) ?_ [2] [curA (d) p] _ rfl (⟨{x : Int // 0 ≤ x ∧ (12 ≤ 0 → x = 0) ∧ (0 < 12 → x < 12)}, fun q => vi q.1, fun q => [curA (d) p]⟩) (fun w hw => l1Below_c w (d) (hd.fr hw.fr hS) p 12) (NO rfl) ?_
   · as_aux_lemma => kernel_rfl
   rintro ⟨m22, hm23⟩
   try dsimp only at hm23
   refine HKEEP (js := [0]) rfl (HPURE (js := [0]) 4 [(0, .v (p)), (2, .e (some ⟨b20, 0, none⟩) 0 0), (3, .e (some ⟨b21, 0, none⟩) 0 0), (4, I (wr (1 + m17))), (5, I (i : Int)), (39, .v (.slice oa out.length oc)), (42, I (wr (2 + m22)))] ?_ ?_ rfl ?_)
   iterate 2 (as_aux_lemma => kernel_rfl)
   refine HALL [5] ?_ (by decide) ?_
   · as_aux_lemma => kernel_rfl
   refine BUILDS 42 1 #[(0, .tmp 42)] 43 42 ?_ (NL rfl) 3 [vi (wr (2 + m22))] ?_ intL [wr (2 + m22)] rfl (by simp only [maxLen]; omega) [] [] _ rfl (flatRep rfl) (fun a24 ha25 => ?_)
   iterate 2 (as_aux_lemma => kernel_rfl)
   refine HKEEP (js := [0]) rfl (HALL [6] ?_ (by decide) ?_)
   · as_aux_lemma => kernel_rfl
   refine APPENDO 42 (.tmp 39) (.tmp 43) 44 42 ?_ (NL rfl) (.slice oa out.length oc) a24 1 1 ?_ ?_ ha25 3 ?_ intL (vi 0) 8 ?_ rfl (by decide) 2 3 out ([wr (2 + m22)]) _ rfl rfl (by first | omega | (simp only [List.length_append, List.length_cons, List.length_nil, List.length_take, List.length_drop] at *; omega)) (by simp only [maxLen]; first | omega | (simp only [List.length_append, List.length_cons, List.length_nil, List.length_take, List.length_drop] at *; omega)) (fun a26 c27 hn28 => ?_)
   iterate 5 (as_aux_lemma => kernel_rfl)
   refine HKEEP (js := [0]) rfl (HPURE (js := [0]) 7 [(0, .v (p)), (2, .e (some ⟨b20, 0, none⟩) 0 0), (3, .e (some ⟨b21, 0, none⟩) 0 0), (4, I (wr (1 + m17))), (5, I (i : Int)), (44, .v (.slice a26 ((out ++ ([wr (2 + m22)])).length) c27)), (45, .e (some ⟨b21, 0, none⟩) 0 0)] ?_ ?_ rfl ?_)
   iterate 2 (as_aux_lemma => kernel_rfl)
   refine HALL [8] ?_ (by decide) ?_
   · as_aux_lemma => kernel_rfl
   refine STOREC 42 (.tmp 45) (.tmp 44) 0 ?_ 1 _ b21 0 51 [.slice oa out.length oc, vi (wr (1 + m1)), vi (wr (2 + m3)), vi (wr (1 + m5)), vi (wr (1 + m7)), vi (wr (1 + m9)), vi m11, vi (wr (1 + m13)), vi (wr (1 + m15))] [.slice a26 ((out ++ ([wr (2 + m22)])).length) c27, vi (wr (1 + m1)), vi (wr (2 + m3)), vi (wr (1 + m5)), vi (wr (1 + m7)), vi (wr (1 + m9)), vi m11, vi (wr (1 + m13)), vi (wr (1 + m15))] rfl (.slice a26 ((out ++ ([wr (2 + m22)])).length) c27) ?_ ?_ ?_ ?_
   iterate 4 (as_aux_lemma => kernel_rfl)
   refine HKEEP (js := [0]) rfl (HEND ?_ ?_)
   · as_aux_lemma => kernel_rfl
   refine IMPORT (L0 := [(51, [.slice none 0 0, vi 0, vi 0, vi 0, vi 0, vi 0, vi 0, vi 0, vi 0]), (51, [.slice a26 ((out ++ ([wr (2 + m22)])).length) c27, vi (wr (1 + m1)), vi (wr (2 + m3)), vi (wr (1 + m5)), vi (wr (1 + m7)), vi (wr (1 + m9)), vi m11, vi (wr (1 + m13)), vi (wr (1 + m15))])]) (L1 := []) [b20, b21] rfl [0, 2] _ rfl [(0, .v (p)), (2, .p 0 0), (3, .p 1 0), (4, I (wr (1 + m17))), (5, I (i : Int)), (44, .v (.slice a26 ((out ++ ([wr (2 + m22)])).length) c27)), (45, .p 1 0)] ?_ ?_ ?_
   iterate 2 (as_aux_lemma => kernel_rfl)
   refine OUTN (NEXT (REGION [0, 1, 2] rfl (RUN0 2 [2] [(0, .v (p)), (2, .p 0 0), (3, .p 1 0), (4, I (wr (1 + m17))), (37, I (wr ((i : Int) + 1)))] ?_ rfl ?_)))
   · as_aux_lemma => kernel_rfl
   refine CAST (d := 37) (vi (wr ((i : Int) + 1))) (vi ((i + 1 : Nat) : Int)) ?_ (vi_cast (by omega) (by omega)) ?_
   · as_aux_lemma => kernel_rfl
   refine RUN0 1 [] [(0, .v (p)), (2, .p 0 0), (3, .p 1 0), (4, I (wr (1 + m17))), (5, I ((i + 1 : Nat) : Int))] ?_ rfl ?_
   · as_aux_lemma => kernel_rfl
   refine ENDOPS (BACK (i + 1, a26, c27, out ++ ([wr (2 + m22)])) [0, 2, 3, 4, 5] 2 [0, 0] _ ⟨by simp only [List.length_append, List.length_cons, List.length_nil]; omega, by dsimp only; omega⟩ (by dsimp only; omega) ?_ rfl rfl rfl)
   · as_aux_lemma => kernel_rfl
  ·
   refine CALL 29 #[p, vi 12] (some 41) ?_ [2] [curA (d) p] _ rfl (⟨{x : Int // 0 ≤ x ∧ (12 ≤ 0 → x = 0) ∧ (0 < 12 → x < 12)}, fun q => vi q.1, fun q => [curA (d) p]⟩) (fun w hw => l1Below_c w (d) (hd.fr hw.fr hS) p 12) (NO rfl) ?_
   · as_aux_lemma => kernel_rfl
   rintro ⟨m29, hm30⟩
   try dsimp only at hm30
   refine HKEEP (js := [0]) rfl (HPURE (js := [0]) 4 [(0, .v (p)), (2, .e (some ⟨b20, 0, none⟩) 0 0), (3, .e (some ⟨b21, 0, none⟩) 0 0), (4, I (wr (1 + m17))), (5, I (i : Int)), (38, .e (some ⟨b21, 0, none⟩) 0 0), (42, I (wr (2 + m29)))] ?_ ?_ rfl ?_)
   iterate 2 (as_aux_lemma => kernel_rfl)
   refine HALL [1, 5] ?_ (by decide) ⟨?_, ?_⟩
   · as_aux_lemma => kernel_rfl
   ·
    refine LOADE 42 (.tmp 38) 39 42 ?_ (NL rfl) (some ⟨b21, 0, none⟩) 0 0 [.slice oa out.length oc, vi (wr (1 + m1)), vi (wr (2 + m3)), vi (wr (1 + m5)), vi (wr (1 + m7)), vi (wr (1 + m9)), vi m11, vi (wr (1 + m13)), vi (wr (1 + m15))] (.slice oa out.length oc) ?_ (fun w hw => ptC_elem (hw.own 1 rfl)) ?_ ?_
    iterate 3 (as_aux_lemma => kernel_rfl)
    refine HKEEP (js := [0]) rfl (HALL [5] ?_ (by decide) ?_)
    · as_aux_lemma => kernel_rfl
    refine BUILDS 42 1 #[(0, .tmp 42)] 43 42 ?_ (NL rfl) 3 [vi (wr (2 + m29))] ?_ intL [wr (2 + m29)] rfl (by simp only [maxLen]; omega) [] [] _ rfl (flatRep rfl) (fun a31 ha32 => ?_)
    iterate 2 (as_aux_lemma => kernel_rfl)
    refine HKEEP (js := [0]) rfl (HALL [6] ?_ (by decide) ?_)
    · as_aux_lemma => kernel_rfl
    refine APPENDO 42 (.tmp 39) (.tmp 43) 44 42 ?_ (NL rfl) (.slice oa out.length oc) a31 1 1 ?_ ?_ ha32 3 ?_ intL (vi 0) 8 ?_ rfl (by decide) 2 3 out ([wr (2 + m29)]) _ rfl rfl (by first | omega | (simp only [List.length_append, List.length_cons, List.length_nil, List.length_take, List.length_drop] at *; omega)) (by simp only [maxLen]; first | omega | (simp only [List.length_append, List.length_cons, List.length_nil, List.length_take, List.length_drop] at *; omega)) (fun a33 c34 hn35 => ?_)
    iterate 5 (as_aux_lemma => kernel_rfl)
    refine HKEEP (js := [0]) rfl (HPURE (js := [0]) 7 [(0, .v (p)), (2, .e (some ⟨b20, 0, none⟩) 0 0), (3, .e (some ⟨b21, 0, none⟩) 0 0), (4, I (wr (1 + m17))), (5, I (i : Int)), (44, .v (.slice a33 ((out ++ ([wr (2 + m29)])).length) c34)), (45, .e (some ⟨b21, 0, none⟩) 0 0)] ?_ ?_ rfl ?_)
    iterate 2 (as_aux_lemma => kernel_rfl)
    refine HALL [8] ?_ (by decide) ?_
    · as_aux_lemma => kernel_rfl
    refine STOREC 42 (.tmp 45) (.tmp 44) 0 ?_ 1 _ b21 0 51 [.slice oa out.length oc, vi (wr (1 + m1)), vi (wr (2 + m3)), vi (wr (1 + m5)), vi (wr (1 + m7)), vi (wr (1 + m9)), vi m11, vi (wr (1 + m13)), vi (wr (1 + m15))] [.slice a33 ((out ++ ([wr (2 + m29)])).length) c34, vi (wr (1 + m1)), vi (wr (2 + m3)), vi (wr (1 + m5)), vi (wr (1 + m7)), vi (wr (1 + m9)), vi m11, vi (wr (1 + m13)), vi (wr (1 + m15))] rfl (.slice a33 ((out ++ ([wr (2 + m29)])).length) c34) ?_ ?_ ?_ ?_
    iterate 4 (as_aux_lemma => kernel_rfl)
    refine HKEEP (js := [0]) rfl (HEND ?_ ?_)
    · as_aux_lemma => kernel_rfl
    refine IMPORT (L0 := [(51, [.slice none 0 0, vi 0, vi 0, vi 0, vi 0, vi 0, vi 0, vi 0, vi 0]), (51, [.slice a33 ((out ++ ([wr (2 + m29)])).length) c34, vi (wr (1 + m1)), vi (wr (2 + m3)), vi (wr (1 + m5)), vi (wr (1 + m7)), vi (wr (1 + m9)), vi m11, vi (wr (1 + m13)), vi (wr (1 + m15))])]) (L1 := []) [b20, b21] rfl [0, 2] _ rfl [(0, .v (p)), (2, .p 0 0), (3, .p 1 0), (4, I (wr (1 + m17))), (5, I (i : Int)), (44, .v (.slice a33 ((out ++ ([wr (2 + m29)])).length) c34)), (45, .p 1 0)] ?_ ?_ ?_
    iterate 2 (as_aux_lemma => kernel_rfl)
    refine OUTN (NEXT (REGION [0, 1, 2] rfl (RUN0 2 [2] [(0, .v (p)), (2, .p 0 0), (3, .p 1 0), (4, I (wr (1 + m17))), (37, I (wr ((i : Int) + 1)))] ?_ rfl ?_)))
    · as_aux_lemma => kernel_rfl
    refine CAST (d := 37) (vi (wr ((i : Int) + 1))) (vi ((i + 1 : Nat) : Int)) ?_ (vi_cast (by omega) (by omega)) ?_
    · as_aux_lemma => kernel_rfl
    refine RUN0 1 [] [(0, .v (p)), (2, .p 0 0), (3, .p 1 0), (4, I (wr (1 + m17))), (5, I ((i + 1 : Nat) : Int))] ?_ rfl ?_
    · as_aux_lemma => kernel_rfl
    refine ENDOPS (BACK (i + 1, a33, c34, out ++ ([wr (2 + m29)])) [0, 2, 3, 4, 5] 2 [0, 0] _ ⟨by simp only [List.length_append, List.length_cons, List.length_nil]; omega, by dsimp only; omega⟩ (by dsimp only; omega) ?_ rfl rfl rfl)
    · as_aux_lemma => kernel_rfl
   ·
    refine BUILDS 42 1 #[(0, .tmp 42)] 43 42 ?_ (NL rfl) 3 [vi (wr (2 + m29))] ?_ intL [wr (2 + m29)] rfl (by simp only [maxLen]; omega) [] [] _ rfl (flatRep rfl) (fun a36 ha37 => ?_)
    iterate 2 (as_aux_lemma => kernel_rfl)
    refine HKEEP (js := [0]) rfl (HALL [1] ?_ (by decide) ?_)
    · as_aux_lemma => kernel_rfl
    refine LOADE 42 (.tmp 38) 39 42 ?_ (NL rfl) (some ⟨b21, 0, none⟩) 0 0 [.slice oa out.length oc, vi (wr (1 + m1)), vi (wr (2 + m3)), vi (wr (1 + m5)), vi (wr (1 + m7)), vi (wr (1 + m9)), vi m11, vi (wr (1 + m13)), vi (wr (1 + m15))] (.slice oa out.length oc) ?_ (fun w hw => ptC_elem (hw.own 1 rfl)) ?_ ?_
    iterate 3 (as_aux_lemma => kernel_rfl)
    refine HKEEP (js := [0]) rfl (HALL [6] ?_ (by decide) ?_)
    · as_aux_lemma => kernel_rfl
    refine APPENDO 42 (.tmp 39) (.tmp 43) 44 42 ?_ (NL rfl) (.slice oa out.length oc) a36 1 1 ?_ ?_ ha37 3 ?_ intL (vi 0) 8 ?_ rfl (by decide) 2 3 out ([wr (2 + m29)]) _ rfl rfl (by first | omega | (simp only [List.length_append, List.length_cons, List.length_nil, List.length_take, List.length_drop] at *; omega)) (by simp only [maxLen]; first | omega | (simp only [List.length_append, List.length_cons, List.length_nil, List.length_take, List.length_drop] at *; omega)) (fun a38 c39 hn40 => ?_)
    iterate 5 (as_aux_lemma => kernel_rfl)
    refine HKEEP (js := [0]) rfl (HPURE (js := [0]) 7 [(0, .v (p)), (2, .e (some ⟨b20, 0, none⟩) 0 0), (3, .e (some ⟨b21, 0, none⟩) 0 0), (4, I (wr (1 + m17))), (5, I (i : Int)), (44, .v (.slice a38 ((out ++ ([wr (2 + m29)])).length) c39)), (45, .e (some ⟨b21, 0, none⟩) 0 0)] ?_ ?_ rfl ?_)
    iterate 2 (as_aux_lemma => kernel_rfl)
    refine HALL [8] ?_ (by decide) ?_
    · as_aux_lemma => kernel_rfl
    refine STOREC 42 (.tmp 45) (.tmp 44) 0 ?_ 1 _ b21 0 51 [.slice oa out.length oc, vi (wr (1 + m1)), vi (wr (2 + m3)), vi (wr (1 + m5)), vi (wr (1 + m7)), vi (wr (1 + m9)), vi m11, vi (wr (1 + m13)), vi (wr (1 + m15))] [.slice a38 ((out ++ ([wr (2 + m29)])).length) c39, vi (wr (1 + m1)), vi (wr (2 + m3)), vi (wr (1 + m5)), vi (wr (1 + m7)), vi (wr (1 + m9)), vi m11, vi (wr (1 + m13)), vi (wr (1 + m15))] rfl (.slice a38 ((out ++ ([wr (2 + m29)])).length) c39) ?_ ?_ ?_ ?_
    iterate 4 (as_aux_lemma => kernel_rfl)
    refine HKEEP (js := [0]) rfl (HEND ?_ ?_)
    · as_aux_lemma => kernel_rfl
    refine IMPORT (L0 := [(51, [.slice none 0 0, vi 0, vi 0, vi 0, vi 0, vi 0, vi 0, vi 0, vi 0]), (51, [.slice a38 ((out ++ ([wr (2 + m29)])).length) c39, vi (wr (1 + m1)), vi (wr (2 + m3)), vi (wr (1 + m5)), vi (wr (1 + m7)), vi (wr (1 + m9)), vi m11, vi (wr (1 + m13)), vi (wr (1 + m15))])]) (L1 := []) [b20, b21] rfl [0, 2] _ rfl [(0, .v (p)), (2, .p 0 0), (3, .p 1 0), (4, I (wr (1 + m17))), (5, I (i : Int)), (44, .v (.slice a38 ((out ++ ([wr (2 + m29)])).length) c39)), (45, .p 1 0)] ?_ ?_ ?_
    iterate 2 (as_aux_lemma => kernel_rfl)
    refine OUTN (NEXT (REGION [0, 1, 2] rfl (RUN0 2 [2] [(0, .v (p)), (2, .p 0 0), (3, .p 1 0), (4, I (wr (1 + m17))), (37, I (wr ((i : Int) + 1)))] ?_ rfl ?_)))
    · as_aux_lemma => kernel_rfl
    refine CAST (d := 37) (vi (wr ((i : Int) + 1))) (vi ((i + 1 : Nat) : Int)) ?_ (vi_cast (by omega) (by omega)) ?_
    · as_aux_lemma => kernel_rfl
    refine RUN0 1 [] [(0, .v (p)), (2, .p 0 0), (3, .p 1 0), (4, I (wr (1 + m17))), (5, I ((i + 1 : Nat) : Int))] ?_ rfl ?_
    · as_aux_lemma => kernel_rfl
    refine ENDOPS (BACK (i + 1, a38, c39, out ++ ([wr (2 + m29)])) [0, 2, 3, 4, 5] 2 [0, 0] _ ⟨by simp only [List.length_append, List.length_cons, List.length_nil]; omega, by dsimp only; omega⟩ (by dsimp only; omega) ?_ rfl rfl rfl)
    · as_aux_lemma => kernel_rfl
 ·
  have h19 := bh19
  have h19 := of_decide_eq_false h19
  refine EXIT (PASS trivial (PASS trivial (OUT (NEXT (SEQ (REGION [0, 1] rfl (RUN 2 [] [(2, .p 0 0)] [(51, [.slice oa out.length oc, vi (wr (1 + m1)), vi (wr (2 + m3)), vi (wr (1 + m5)), vi (wr (1 + m7)), vi (wr (1 + m9)), vi m11, vi (wr (1 + m13)), vi (wr (1 + m15))]), (51, [.slice oa out.length oc, vi (wr (1 + m1)), vi (wr (2 + m3)), vi (wr (1 + m5)), vi (wr (1 + m7)), vi (wr (1 + m9)), vi m11, vi (wr (1 + m13)), vi (wr (1 + m15))])] ?_ rfl ?_)))))))
  · as_aux_lemma => kernel_rfl
  refine ENDOPS (NEXT (RET (FIN (.agg #[.slice oa out.length oc, vi (wr (1 + m1)), vi (wr (2 + m3)), vi (wr (1 + m5)), vi (wr (1 + m7)), vi (wr (1 + m9)), vi m11, vi (wr (1 + m13)), vi (wr (1 + m15))]) ?_ ⟨((oa, oc), (⟨out, wr (1 + m1), wr (2 + m3), wr (1 + m5), wr (1 + m7), wr (1 + m9), m11, wr (1 + m13), wr (1 + m15)⟩ : Rules)), trivial⟩ ?_ [1, 0] ?_)))
  · as_aux_lemma => kernel_rfl
  · rfl
  · rfl

end SX
end Go.Proofs.YtpdijcbgdalphabGreatDoor
