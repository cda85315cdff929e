/- Walks, printed by program. -/
import Derived.Test.YthnbaikmbgaddaaGreatSxz
import Derived.Test.YthnbaikmbgaddaaGreatMdln
import Derived.Test.YthnbaikmbgaddaaGreatI3
namespace Go.Proofs.YthnbaikmbgaddaaGreat
namespace SX
open Go Go.RowKit
set_option linter.unusedVariables false
set_option linter.unusedSimpArgs false
set_option maxRecDepth 10000
set_option maxHeartbeats 400000
private theorem z3 {p : Prop} (h : p := by simp only [sortGo_len] <;> rfl) : p := h
private theorem z2 {p : Prop} (h : p := by first | (simp_all [RV, cabinOk]; done) | (simp [RV, cabinOk, *]; done)) : p := h
private theorem z1 {p : Prop} (h : p := by first | (simp only [List.length_append, List.length_cons, List.length_nil]; omega) | omega | (dsimp only; omega)) : p := h
theorem iQueueOf_c (W : World) (r : Rules) (r9a : Option Addr) (r9c : Nat) (hr9 : Rd intL W r9a r.seats) (list : List Party) (list_a : Option Addr) (list_c : Nat) (hlist : Rd partyL W list_a list) (cabin : Int) (now : Int) (hb : list.length ≤ 1048576) (hn : (queueRaw r list cabin now).length ≤ 12) : Spec Tryz.prog W [] 216 #[.agg (rC r r9a r9c).toArray, .slice list_a list.length list_c, vi cabin, vi now] (⟨HH, fun p => .slice p.1 ((queueOf r list cabin now).length) p.2, fun p => [slA 142 entryL (.slice p.1 (queueOf r list cabin now).length p.2) (queueOf r list cabin now)]⟩) := by
 refine ENTER0 (N := 42) (vs := [.agg (rC r r9a r9c).toArray, .slice list_a list.length list_c, vi cabin, vi now]) Tryz.func216 rfl rfl (NL rfl) ?_
 have hr9len := hr9.len
 have hlist_len := hlist.len
 refine XG (UL 2 [(4, .p 0 0)] [(26, (rC r r9a r9c))] (NR (UU 1 [(9, .v (.slice none 0 0))] (XN (SEQ (XG (UU 3 [(14, .v (.slice list_a list.length list_c)), (15, I (list.length : Int)), (16, I 0)] (XN (BLOCK (NIL 142 entryL (LOOP (ι := Nat × (List Party) × (Option Addr) × Nat × (List Entry)) (fun j => [(2, I cabin), (3, I now), (4, .p 0 0), (9, .v (.slice j.2.2.1 j.2.2.2.2.length j.2.2.2.1)), (14, .v (.slice list_a list.length list_c)), (15, I (list.length : Int)), (16, I (j.1 : Int))]) (fun j => [(26, (rC r r9a r9c))]) (fun j => [slA 142 entryL (.slice j.2.2.1 j.2.2.2.2.length j.2.2.2.1) j.2.2.2.2]) (fun j => j.1 + j.2.1.length = list.length ∧ list.drop j.1 = j.2.1 ∧ j.2.2.2.2.length ≤ j.1 ∧ j.2.2.2.2 ++ queueRaw r j.2.1 cabin now = queueRaw r list cabin now) (fun j => j.2.1.length) (0, list, none, 0, []) [2, 3, 4, 9, 14, 15, 16] ⟨by simp, rfl, by simp, rfl⟩ KR rfl rfl ?_)))))))))))
 rintro ⟨k, ys, oa, oc, out⟩ ⟨hk, hd, hv0, hv1⟩
 try dsimp only at hk hd hv0 hv1
 refine XG (UU 1 [(17, B (decide ((k : Int) < (list.length : Int))))] (XN (SEQ (IFK (decide ((k : Int) < (list.length : Int))) (dT fun h1 bh1 => ?_) (dF fun h1 bh1 => ?_)))))
 ·
  obtain ⟨y2, ys3, rfl, hx_y2, hd_y2, hl_y2⟩ := drop_cons hd hk LO
  refine XK (SEQ (BLOCK (XG (OPC (IX 28 (.tmp 14) (.tmp 16) 18 0 list_a list.length list_c .i64 (k : Int) 56 10 (Rd.some hlist LO) LO LO (OPC (LE 56 (.tmp 18) 19 56 list_a (k * 10) 0 (partyE y2) (.agg (partyE y2).toArray) (fun w hw => (hlist.fr hw.fr).flat hx_y2) (UL 2 [(11, .p 1 0)] [(26, (rC r r9a r9c)), (56, partyE y2)] (NR (UU 3 [(21, .v (.agg (rC r r9a r9c).toArray)), (22, .v (.agg (partyE y2).toArray)), (23, I now)] (OPC (CX 24 (fun w hw => piEntryOf_c w r r9a r9c (hr9.fr hw.fr) y2 now) ?_))))))))))))
  rintro ⟨⟩
  refine UL 6 [(12, .p 2 0), (13, B (entryOk r y2 now))] [(26, (rC r r9a r9c)), (56, partyE y2), (142, [vi ((entryOf r y2 now).level), vi ((entryOf r y2 now).turn), vi ((entryOf r y2 now).id), vi ((entryOf r y2 now).size)])] (NR (UU 2 [(28, B (entryOk r y2 now))] (SP 28 (entryOk r y2 now) (fun bh4 => ?_) (fun bh4 => ?_))))
  ·
   have h4 := bh4
   refine UU 5 [(33, B (y2.cabin == cabin))] (NI (y2.cabin == cabin) (aT eq_of_beq fun h5 bh5 => ?_) (aT ne_of_beq_false fun h5 bh5 => ?_))
   · refine RG (UU 2 [(34, .v (.slice oa out.length oc)), (35, .v (.agg #[vi ((entryOf r y2 now).level), vi ((entryOf r y2 now).turn), vi ((entryOf r y2 now).id), vi ((entryOf r y2 now).size)]))] (OPC (BU 45 1 #[(0, .tmp 35)] 36 45 142 [vi ((entryOf r y2 now).level), vi ((entryOf r y2 now).turn), vi ((entryOf r y2 now).id), vi ((entryOf r y2 now).size)] entryL [(entryOf r y2 now)] (flatRep rfl) (fun a6 ha7 => (OPC (AO 45 (.tmp 34) (.tmp 36) 37 45 (.slice oa out.length oc) a6 1 1 ha7 142 entryL (.agg #[vi 0, vi 0, vi 0, vi 0]) 32 0 0 out ([(entryOf r y2 now)]) rfl (fun a8 c9 hn10 => (UU 1 [(9, .v (.slice a8 ((out ++ ([(entryOf r y2 now)])).length) c9))] (ENDOPS (OUTN (NEXT (RG (UU 1 [(38, I (wr ((k : Int) + 1)))] (CS 38 (vi (wr ((k : Int) + 1))) (vi ((k + 1 : Nat) : Int)) VC (UU 1 [(16, I ((k + 1 : Nat) : Int))] (ENDOPS (BK (k + 1, ys3, a8, c9, out ++ ([(entryOf r y2 now)])) [2, 3, 4, 9, 14, 15, 16] 1 [0] ⟨hl_y2, hd_y2, z1, (by simp_all [queueRaw])⟩ (by simp))))))))))))))))))
   refine SKIP (OUTN (NEXT (RG (UU 1 [(38, I (wr ((k : Int) + 1)))] (CS 38 (vi (wr ((k : Int) + 1))) (vi ((k + 1 : Nat) : Int)) VC (UU 1 [(16, I ((k + 1 : Nat) : Int))] (ENDOPS (BK (k + 1, ys3, oa, oc, out) [2, 3, 4, 9, 14, 15, 16] 1 [0] ⟨hl_y2, hd_y2, z1, (by simp_all [queueRaw])⟩ (by simp)))))))))
  have h4 := bh4
  refine UU 5 [(33, B false)] (XN (IFF KR (SKIP (OUTN (NEXT (RG (UU 1 [(38, I (wr ((k : Int) + 1)))] (CS 38 (vi (wr ((k : Int) + 1))) (vi ((k + 1 : Nat) : Int)) VC (UU 1 [(16, I ((k + 1 : Nat) : Int))] (ENDOPS (BK (k + 1, ys3, oa, oc, out) [2, 3, 4, 9, 14, 15, 16] 1 [0] ⟨hl_y2, hd_y2, z1, (by simp_all [queueRaw])⟩ (by simp))))))))))))
 obtain rfl := drop_nil hk LO
 have hoq : out = queueRaw r list cabin now := (by simpa [queueRaw] using hv1); have hol : out.length ≤ 12 := (by rw [hoq]; exact hn)
 refine EXIT (PASS trivial (PASS trivial (OUT (NEXT (XG (UU 1 [(39, .v (.slice oa out.length oc))] (FACT (out.length = out.length) (fun w hw => (SlO.lenE (hw.own 0 rfl)).1) (fun hln11 => (OPC (CY 40 [0] (fun w hw => sortStableEntry_c w out oa out.length oc (by first | assumption | omega)) rfl ?_))))))))))
 rintro ⟨⟩
 refine NR (UU 2 [(8, .v (.slice oa out.length oc))] (XN (RET ?_)))
 have efin : queueOf r list cabin now = sortGo entryLess ((out).length - 1) 1 out := by rw [hoq]; exact (queue_sorted r list cabin now).symm
 refine FIN (.slice oa out.length oc) KR (oa, oc) ?_ [0] ?_
 · (rw [efin] <;> first | rfl | exact z3)
 (rw [efin] <;> first | rfl | exact z3)

theorem iPinsIn_c (W : World) (list : List Party) (list_a : Option Addr) (list_c : Nat) (hlist : Rd partyL W list_a list) (cabin : Int) (hb : list.length ≤ 1048576) (hn : (pinsRaw list cabin).length ≤ 12) : Spec Tryz.prog W [] 259 #[.slice list_a list.length list_c, vi cabin] (⟨HH, fun p => .slice p.1 ((pinsGo list cabin []).length) p.2, fun p => [slA 167 pinL (.slice p.1 (pinsGo list cabin []).length p.2) (pinsGo list cabin [])]⟩) := by
 refine ENTER0 (N := 35) (vs := [.slice list_a list.length list_c, vi cabin]) Tryz.func259 rfl rfl (NL rfl) ?_
 have hlist_len := hlist.len
 refine XG (UU 1 [] (NR (UU 1 [(5, .v (.slice none 0 0))] (XN (SEQ (XG (UU 3 [(8, .v (.slice list_a list.length list_c)), (9, I (list.length : Int)), (10, I 0)] (XN (BLOCK (NIL 167 pinL (LOOP (ι := Nat × (List Party) × (Option Addr) × Nat × (List Pin)) (fun j => [(1, I cabin), (5, .v (.slice j.2.2.1 j.2.2.2.2.length j.2.2.2.1)), (8, .v (.slice list_a list.length list_c)), (9, I (list.length : Int)), (10, I (j.1 : Int))]) (fun j => []) (fun j => [slA 167 pinL (.slice j.2.2.1 j.2.2.2.2.length j.2.2.2.1) j.2.2.2.2]) (fun j => j.1 + j.2.1.length = list.length ∧ list.drop j.1 = j.2.1 ∧ j.2.2.2.2.length ≤ j.1 ∧ j.2.2.2.2 ++ pinsRaw j.2.1 cabin = pinsRaw list cabin) (fun j => j.2.1.length) (0, list, none, 0, []) [1, 5, 8, 9, 10] ⟨by simp, rfl, by simp, rfl⟩ KR rfl rfl ?_)))))))))))
 rintro ⟨k, ys, oa, oc, out⟩ ⟨hk, hd, hv0, hv1⟩
 try dsimp only at hk hd hv0 hv1
 refine XG (UU 1 [(11, B (decide ((k : Int) < (list.length : Int))))] (XN (SEQ (IFK (decide ((k : Int) < (list.length : Int))) (dT fun h1 bh1 => ?_) (dF fun h1 bh1 => ?_)))))
 ·
  obtain ⟨y2, ys3, rfl, hx_y2, hd_y2, hl_y2⟩ := drop_cons hd hk LO
  refine XK (SEQ (BLOCK (XG (OPC (IX 28 (.tmp 8) (.tmp 10) 12 0 list_a list.length list_c .i64 (k : Int) 56 10 (Rd.some hlist LO) LO LO (OPC (LE 56 (.tmp 12) 13 56 list_a (k * 10) 0 (partyE y2) (.agg (partyE y2).toArray) (fun w hw => (hlist.fr hw.fr).flat hx_y2) (UL 2 [(7, .p 0 0)] [(56, partyE y2)] (NR (UU 4 [(17, B (y2.state == 2))] (SP 17 (y2.state == 2) (aT eq_of_beq fun h4 bh4 => ?_) (aT ne_of_beq_false fun h4 bh4 => ?_))))))))))))
  ·
   refine UU 5 [(22, B (y2.cabin == cabin))] (NI (y2.cabin == cabin) (aT eq_of_beq fun h5 bh5 => ?_) (aT ne_of_beq_false fun h5 bh5 => ?_))
   · refine RG (UU 6 [(23, .v (.slice oa out.length oc)), (28, .v (.agg #[vi y2.until', vi y2.id]))] (OPC (BU 155 1 #[(0, .tmp 28)] 29 155 167 [vi y2.until', vi y2.id] pinL [(⟨y2.until', y2.id⟩ : Pin)] (flatRep rfl) (fun a6 ha7 => (OPC (AO 155 (.tmp 23) (.tmp 29) 30 155 (.slice oa out.length oc) a6 1 1 ha7 167 pinL (.agg #[vi 0, vi 0]) 16 0 0 out ([(⟨y2.until', y2.id⟩ : Pin)]) rfl (fun a8 c9 hn10 => (UU 1 [(5, .v (.slice a8 ((out ++ ([(⟨y2.until', y2.id⟩ : Pin)])).length) c9))] (ENDOPS (OUTN (NEXT (RG (UU 1 [(31, I (wr ((k : Int) + 1)))] (CS 31 (vi (wr ((k : Int) + 1))) (vi ((k + 1 : Nat) : Int)) VC (UU 1 [(10, I ((k + 1 : Nat) : Int))] (ENDOPS (BK (k + 1, ys3, a8, c9, out ++ ([(⟨y2.until', y2.id⟩ : Pin)])) [1, 5, 8, 9, 10] 0 [0] ⟨hl_y2, hd_y2, z1, (by simp_all [pinsRaw])⟩ (by simp))))))))))))))))))
   refine SKIP (OUTN (NEXT (RG (UU 1 [(31, I (wr ((k : Int) + 1)))] (CS 31 (vi (wr ((k : Int) + 1))) (vi ((k + 1 : Nat) : Int)) VC (UU 1 [(10, I ((k + 1 : Nat) : Int))] (ENDOPS (BK (k + 1, ys3, oa, oc, out) [1, 5, 8, 9, 10] 0 [0] ⟨hl_y2, hd_y2, z1, (by simp_all [pinsRaw])⟩ (by simp)))))))))
  refine UU 5 [(22, B false)] (XN (IFF KR (SKIP (OUTN (NEXT (RG (UU 1 [(31, I (wr ((k : Int) + 1)))] (CS 31 (vi (wr ((k : Int) + 1))) (vi ((k + 1 : Nat) : Int)) VC (UU 1 [(10, I ((k + 1 : Nat) : Int))] (ENDOPS (BK (k + 1, ys3, oa, oc, out) [1, 5, 8, 9, 10] 0 [0] ⟨hl_y2, hd_y2, z1, (by simp_all [pinsRaw])⟩ (by simp))))))))))))
 obtain rfl := drop_nil hk LO
 have hoq : out = pinsRaw list cabin := (by simpa [pinsRaw] using hv1); have hol : out.length ≤ 12 := (by rw [hoq]; exact hn)
 refine EXIT (PASS trivial (PASS trivial (OUT (NEXT (XG (UU 1 [(32, .v (.slice oa out.length oc))] (FACT (out.length = out.length) (fun w hw => (SlO.lenE (hw.own 0 rfl)).1) (fun hln11 => (OPC (CY 33 [0] (fun w hw => sortStablePin_c w out oa out.length oc (by first | assumption | omega)) rfl ?_))))))))))
 rintro ⟨⟩
 refine NR (UU 2 [(4, .v (.slice oa out.length oc))] (XN (RET ?_)))
 have efin : pinsGo list cabin [] = sortGo pinLess ((out).length - 1) 1 out := by rw [hoq]; exact (pins_sorted list cabin).symm
 refine FIN (.slice oa out.length oc) KR (oa, oc) ?_ [0] ?_
 · (rw [efin] <;> first | rfl | exact z3)
 (rw [efin] <;> first | rfl | exact z3)

theorem iPinsOf_c (W : World) (wh : Wheel) (wh8a : Option Addr) (wh8c : Nat) (hwh8 : Rd (sl 167 pinL) W wh8a wh.spoke) (hb : wh.spoke.flatten.length ≤ 4194304) : Spec Tryz.prog W [] 258 #[.agg #[.slice wh8a wh.spoke.length wh8c]] (⟨HH, fun p => .slice p.1 ((pinsOf wh).length) p.2, fun p => [slA 167 pinL (.slice p.1 (pinsOf wh).length p.2) (pinsOf wh)]⟩) := by
 refine ENTER0 (N := 23) (vs := [.agg #[.slice wh8a wh.spoke.length wh8c]]) Tryz.func258 rfl rfl (NL rfl) ?_
 have hwh8len := hwh8.len
 refine XG (UL 2 [(1, .p 0 0)] [(48, [.slice wh8a wh.spoke.length wh8c])] (XN (SEQ (XG (UU 1 [(6, .v (.agg #[.slice wh8a wh.spoke.length wh8c]))] (OPC (CX 7 (fun w hw => iWheelOk_c w wh wh8a wh8c (hwh8.fr hw.fr) LA) ?_)))))))
 rintro ⟨⟩
 refine UU 1 [(8, B (!(wheelOk wh)))] (NI (!(wheelOk wh)) (aT notT fun h1 bh1 => ?_) (aT notF fun h1 bh1 => ?_))
 ·
  refine XG (UU 1 [(2, .v (.slice none 0 0))] (XN (RET (PASS trivial (NIL 167 pinL ?_)))))
  have efin : pinsOf wh = [] := by (first | (simp_all [pinsOf]; done) | (rw [hoq, pinsSort_sorted]; simp_all [pinsOf]))
  refine FIN (.slice none 0 0) KR (none, 0) ?_ [0] ?_
  · (rw [efin] <;> first | rfl | exact z3)
  (rw [efin] <;> first | rfl | exact z3)
 have hw10 := (wheelP_of h1).2.1
 refine XK (XG (UU 1 [(3, .v (.slice none 0 0))] (XN (SEQ (XG (UU 4 [(10, .v (.slice wh8a wh.spoke.length wh8c)), (11, I (wh.spoke.length : Int)), (12, I 0)] (XN (BLOCK (NIL 167 pinL (LOOP (ι := Nat × (List (List Pin)) × (Option Addr) × Nat × (List Pin)) (fun j => [(3, .v (.slice j.2.2.1 j.2.2.2.2.length j.2.2.2.1)), (10, .v (.slice wh8a wh.spoke.length wh8c)), (11, I (wh.spoke.length : Int)), (12, I (j.1 : Int))]) (fun j => [(48, [.slice wh8a wh.spoke.length wh8c])]) (fun j => [slA 167 pinL (.slice j.2.2.1 j.2.2.2.2.length j.2.2.2.1) j.2.2.2.2]) (fun j => j.1 + j.2.1.length = wh.spoke.length ∧ wh.spoke.drop j.1 = j.2.1 ∧ j.2.2.2.2 ++ j.2.1.flatten = wh.spoke.flatten ∧ j.2.2.2.2.length + j.2.1.flatten.length = wh.spoke.flatten.length) (fun j => j.2.1.length) (0, wh.spoke, none, 0, []) [3, 10, 11, 12] ⟨by simp, rfl, rfl, by simp⟩ KR rfl rfl ?_))))))))))
 rintro ⟨k, ys, oa, oc, out⟩ ⟨hk, hd, hv0, hv1⟩
 try dsimp only at hk hd hv0 hv1
 refine XG (UU 1 [(13, B (decide ((k : Int) < (wh.spoke.length : Int))))] (XN (SEQ (IFK (decide ((k : Int) < (wh.spoke.length : Int))) (dT fun h2 bh2 => ?_) (dF fun h2 bh2 => ?_)))))
 ·
  obtain ⟨y3, ys4, rfl, hx_y3, hd_y3, hl_y3⟩ := drop_cons hd hk LO
  have hfy := hv1; simp only [List.flatten_cons, List.length_append] at hfy
  refine XK (SEQ (BLOCK (XG ?_)))
  obtain ⟨a5, c6, hel8, hi7, hi7_cap⟩ := sl_view hwh8 hx_y3
  have hi7_len := hi7.len
  refine OPC (IX 46 (.tmp 10) (.tmp 12) 14 0 wh8a wh.spoke.length wh8c .i64 (k : Int) 155 1 (Rd.some hwh8 LO) LO LO (OPC (LE 155 (.tmp 14) 15 155 wh8a (k * 1) 0 ([.slice a5 y3.length c6]) (.slice a5 y3.length c6) (fun w hw => hel8.fr hw.fr) (UU 1 [(5, .v (.slice a5 y3.length c6))] (XN (RG (UU 2 [(16, .v (.slice oa out.length oc)), (17, .v (.slice a5 y3.length c6))] (OPC (APPENDR 155 (.tmp 16) (.tmp 17) 18 155 KR (NL rfl) (.slice oa out.length oc) a5 y3.length c6 KR KR 167 KR (.agg #[vi 0, vi 0]) 16 KR rfl (by decide) 0 out y3 _ rfl rfl (fun w hw => (hi7.fr hw.fr)) LQ LM (fun a9 c10 hn11 => (UU 1 [(3, .v (.slice a9 ((out ++ y3).length) c10))] (ENDOPS (OUTN (NEXT (RG (UU 1 [(19, I (wr ((k : Int) + 1)))] (CS 19 (vi (wr ((k : Int) + 1))) (vi ((k + 1 : Nat) : Int)) VC (UU 1 [(12, I ((k + 1 : Nat) : Int))] (ENDOPS (BK (k + 1, ys4, a9, c10, out ++ y3) [3, 10, 11, 12] 1 [0] ⟨hl_y3, hd_y3, (by simpa using hv0), (by simp only [List.length_append] at *; omega)⟩ (by simp)))))))))))))))))))))
 obtain rfl := drop_nil hk LO
 have hoq : out = wh.spoke.flatten := (by simpa using hv0); have hol : out.length ≤ 12 := (by rw [hoq]; omega)
 refine EXIT (PASS trivial (PASS trivial (OUT (NEXT (XG (UU 1 [(20, .v (.slice oa out.length oc))] (FACT (out.length = out.length) (fun w hw => (SlO.lenE (hw.own 0 rfl)).1) (fun hln12 => (OPC (CY 21 [0] (fun w hw => sortFPin_c w out oa out.length oc (by first | assumption | omega)) rfl ?_))))))))))
 rintro ⟨⟩
 refine NR (UU 2 [(2, .v (.slice oa out.length oc))] (XN (RET ?_)))
 have efin : pinsOf wh = sortGo pinLess ((out).length - 1) 1 out := by (first | (simp_all [pinsOf]; done) | (rw [hoq, pinsSort_sorted]; simp_all [pinsOf]))
 refine FIN (.slice oa out.length oc) KR (oa, oc) ?_ [0] ?_
 · (rw [efin] <;> first | rfl | exact z3)
 (rw [efin] <;> first | rfl | exact z3)

theorem iCabinOk_c (W : World) (ca : Cabin) (ca6a : Option Addr) (ca6c : Nat) (hca6 : Rd entryL W ca6a ca.row) (ca7a : Option Addr) (ca7c : Nat) (hca7 : Rd (sl 167 pinL) W ca7a ca.wheel.spoke) (hcr : ca.row.length ≤ ca6c) (hb : ca.wheel.spoke.flatten.length ≤ 4194304) : Spec Tryz.prog W [] 255 #[.agg (caC ca ca6a ca6c ca7a ca7c).toArray] (RV (.bool (cabinOk ca))) := by
 refine ENTER0 (N := 16) (vs := [.agg (caC ca ca6a ca6c ca7a ca7c).toArray]) Tryz.func255 rfl rfl (NL rfl) ?_
 have hca6len := hca6.len
 have hca7len := hca7.len
 refine XG (UL 2 [(1, .p 0 0)] [(50, (caC ca ca6a ca6c ca7a ca7c))] (NR (UU 2 [(4, .v (.agg (ledgerE ca.seats).toArray))] (OPC (CX 5 (fun w hw => piLedgerOk_c w ca.seats) ?_)))))
 rintro ⟨⟩
 refine UU 1 [(6, B (ledgerOk ca.seats))] (SP 6 (ledgerOk ca.seats) (fun bh1 => ?_) (fun bh1 => ?_))
 ·
  have h1 := bh1
  refine UU 2 [(8, .v (.slice ca6a ca.row.length ca6c))] (OPC (CX 9 (fun w hw => iQueueOk_c w ca.row ca6a ca6c (hca6.fr hw.fr) LA) ?_))
  rintro ⟨⟩
  refine UU 2 [(11, B (queueOk ca.row))] (SP 11 (queueOk ca.row) (fun bh2 => ?_) (fun bh2 => ?_))
  ·
   have h2 := bh2
   refine UU 2 [(13, .v (.agg #[.slice ca7a ca.wheel.spoke.length ca7c]))] (OPC (CX 14 (fun w hw => iWheelOk_c w ca.wheel ca7a ca7c (hca7.fr hw.fr) LA) ?_))
   rintro ⟨⟩
   refine UU 2 [(2, B (wheelOk ca.wheel))] (XF rfl (.bool (wheelOk ca.wheel)) () [] z2)
  have h2 := bh2
  refine UU 5 [(2, B false)] (XF rfl (.bool false) () [] z2)
 have h1 := bh1
 refine UU 10 [(2, B false)] (XF rfl (.bool false) () [] z2)

theorem iAgrees_c (W : World) (r : Rules) (r9a : Option Addr) (r9c : Nat) (hr9 : Rd intL W r9a r.seats) (ca : Cabin) (ca6a : Option Addr) (ca6c : Nat) (hca6 : Rd entryL W ca6a ca.row) (ca7a : Option Addr) (ca7c : Nat) (hca7 : Rd (sl 167 pinL) W ca7a ca.wheel.spoke) (list : List Party) (list_a : Option Addr) (list_c : Nat) (hlist : Rd partyL W list_a list) (cabin : Int) (now : Int) (hcr : ca.row.length ≤ ca6c) (hb : ca.wheel.spoke.flatten.length ≤ 4194304) (hl : list.length ≤ 1048576) (hq : (queueRaw r list cabin now).length ≤ 12) (hp : (pinsRaw list cabin).length ≤ 12) : Spec Tryz.prog W [] 187 #[.agg (rC r r9a r9c).toArray, .agg (caC ca ca6a ca6c ca7a ca7c).toArray, .slice list_a list.length list_c, vi cabin, vi now] (RV (.bool (agrees r ca list cabin now))) := by
 refine ENTER0 (N := 50) (vs := [.agg (rC r r9a r9c).toArray, .agg (caC ca ca6a ca6c ca7a ca7c).toArray, .slice list_a list.length list_c, vi cabin, vi now]) Tryz.func187 rfl rfl (NL rfl) ?_
 have hr9len := hr9.len
 have hca6len := hca6.len
 have hca7len := hca7.len
 have hlist_len := hlist.len
 refine XG (UL 3 [(5, .p 0 0), (6, .p 1 0)] [(26, (rC r r9a r9c)), (50, (caC ca ca6a ca6c ca7a ca7c))] (XN (SEQ (EXPORT (fun bs hbs => ?_)))))
 obtain ⟨b1, b2, rfl⟩ := len2 hbs
 refine REGIONH KR 40 rfl [ptC b1 26 (rC r r9a r9c), ptC b2 50 (caC ca ca6a ca6c ca7a ca7c)] (HLOADE (i := 0) (js := [0, 0]) 50 (.tmp 6) 11 50 KR (NL rfl) (some ⟨b2, 0, none⟩) 0 0 ((caC ca ca6a ca6c ca7a ca7c)) (.agg (caC ca ca6a ca6c ca7a ca7c).toArray) KR (fun w hw => ptC_elem (hw.own 1 rfl)) KR KR rfl (HALL [1] KR (by decide) (CX 12 (fun w hw => iCabinOk_c w ca ca6a ca6c (hca6.fr hw.fr) ca7a ca7c (hca7.fr hw.fr) LA LA) ?_)))
 rintro ⟨⟩
 refine HW [0, 0] (HP [0, 0] 2 [(13, B (cabinOk ca))] (SP 13 (cabinOk ca) (fun bh3 => ?_) (fun bh3 => ?_)))
 ·
  have h3 := bh3
  refine HP [0, 0] 3 [(14, .e (some ⟨b2, 0, none⟩) 0 5)] (HLOADE (i := 4) (js := [0, 0]) 45 (.tmp 14) 15 45 KR (NL rfl) (some ⟨b2, 0, none⟩) 0 5 ((caC ca ca6a ca6c ca7a ca7c)) (.slice ca6a ca.row.length ca6c) KR (fun w hw => ptC_elem (hw.own 1 rfl)) KR KR rfl (HLOADE (i := 5) (js := [0, 0]) 26 (.tmp 5) 16 26 KR (NL rfl) (some ⟨b1, 0, none⟩) 0 0 ((rC r r9a r9c)) (.agg (rC r r9a r9c).toArray) KR (fun w hw => ptC_elem (hw.own 0 rfl)) KR KR rfl (HP [0, 0] 6 [(17, .v (.slice list_a list.length list_c))] (HP [0, 0] 7 [(18, I cabin)] (HP [0, 0] 8 [(19, I now)] (HALL [9] KR (by decide) (CX 20 (fun w hw => iQueueOf_c w r r9a r9c (hr9.fr hw.fr) list list_a list_c (hlist.fr hw.fr) cabin now LA LA) ?_)))))))
  rintro ⟨a4, c5⟩
  have hr6 := queueOf_len r cabin now list
  refine HK [0, 0] [10] (CX 21 (fun w hw => eqRowG_c w ca.row ca6a ca6c (hca6.fr hw.fr) (queueOf r list cabin now) a4 c5 (hw.rdO 2 rfl)) ?_)
  rintro ⟨⟩
  refine HW [0, 0] (HP [0, 0] 11 [(22, B (sameRow ca.row (queueOf r list cabin now)))] (HP [0, 0] 12 [(23, B (sameRow ca.row (queueOf r list cabin now)))] (SP 23 (sameRow ca.row (queueOf r list cabin now)) (fun bh7 => ?_) (fun bh7 => ?_))))
  ·
   have h7 := bh7
   refine HP [0, 0] 13 [(24, .e (some ⟨b2, 0, none⟩) 0 6)] (HLOADE (i := 14) (js := [0, 0]) 48 (.tmp 24) 25 48 KR (NL rfl) (some ⟨b2, 0, none⟩) 0 6 ((caC ca ca6a ca6c ca7a ca7c)) (.agg #[.slice ca7a ca.wheel.spoke.length ca7c]) KR (fun w hw => ptC_elem (hw.own 1 rfl)) KR KR rfl (HP [0, 0] 16 [(27, .v (.slice list_a list.length list_c))] (HP [0, 0] 17 [(28, I cabin)] (HALL [15] KR (by decide) (CX 26 (fun w hw => iPinsOf_c w ca.wheel ca7a ca7c (hca7.fr hw.fr) LA) ?_)))))
   rintro ⟨a8, c9⟩
   refine HK [0, 0] [18] (CX 29 (fun w hw => iPinsIn_c w list list_a list_c (hlist.fr hw.fr) cabin LA LA) ?_)
   rintro ⟨a10, c11⟩
   refine HK [0, 0] [19] (CX 30 (fun w hw => eqPinsG_c w (pinsOf ca.wheel) a8 c9 (hw.rdO 3 rfl) (pinsGo list cabin []) a10 c11 (hw.rdO 4 rfl)) ?_)
   rintro ⟨⟩
   refine HW [0, 0] (HP [0, 0] 20 [(31, B (samePins (pinsOf ca.wheel) (pinsGo list cabin [])))] (HP [0, 0] 21 [(32, B (samePins (pinsOf ca.wheel) (pinsGo list cabin [])))] (SP 32 (samePins (pinsOf ca.wheel) (pinsGo list cabin [])) (fun bh12 => ?_) (fun bh12 => ?_))))
   ·
    have h12 := bh12
    refine HP [0, 0] 22 [(33, .e (some ⟨b2, 0, none⟩) 0 0)] (HP [0, 0] 23 [(34, .e (some ⟨b2, 0, none⟩) 0 2)] (HLOADE (i := 24) (js := [0, 0]) 3 (.tmp 34) 35 3 KR (NL rfl) (some ⟨b2, 0, none⟩) 0 2 ((caC ca ca6a ca6c ca7a ca7c)) (vi ca.seats.held) KR (fun w hw => ptC_elem (hw.own 1 rfl)) KR KR rfl (HP [0, 0] 25 [(36, .v (.slice list_a list.length list_c))] (HP [0, 0] 26 [(37, I cabin)] (HALL [27] KR (by decide) (CX 38 (fun w hw => piHeldIn_c w list list_a list_c (hlist.fr hw.fr) cabin) ?_))))))
    rintro ⟨⟩
    refine HW [0, 0] (HP [0, 0] 28 [(39, B (ca.seats.held == (heldGo list cabin 0)))] (HP [0, 0] 29 [(40, B (ca.seats.held == (heldGo list cabin 0)))] (HP [0, 0] 30 [(41, B (ca.seats.held == (heldGo list cabin 0)))] (SP 41 (ca.seats.held == (heldGo list cabin 0)) (aT eq_of_beq fun h13 bh13 => ?_) (aT ne_of_beq_false fun h13 bh13 => ?_)))))
    ·
     refine HP [0, 0] 31 [(42, .e (some ⟨b2, 0, none⟩) 0 0)] (HP [0, 0] 32 [(43, .e (some ⟨b2, 0, none⟩) 0 4)] (HLOADE (i := 33) (js := [0, 0]) 3 (.tmp 43) 44 3 KR (NL rfl) (some ⟨b2, 0, none⟩) 0 4 ((caC ca ca6a ca6c ca7a ca7c)) (vi ca.seats.tied) KR (fun w hw => ptC_elem (hw.own 1 rfl)) KR KR rfl (HP [0, 0] 34 [(45, .v (.slice list_a list.length list_c))] (HP [0, 0] 35 [(46, I cabin)] (HALL [36] KR (by decide) (CX 47 (fun w hw => piTiedIn_c w list list_a list_c (hlist.fr hw.fr) cabin) ?_))))))
     rintro ⟨⟩
     refine HW [0, 0] (HP [0, 0] 37 [(48, B (ca.seats.tied == (tiedGo list cabin 0)))] (HP [0, 0] 38 [(49, B (ca.seats.tied == (tiedGo list cabin 0)))] (HP [0, 0] 39 [(10, B (ca.seats.tied == (tiedGo list cabin 0)))] (HDz (IMPORT (L0 := [(26, (rC r r9a r9c)), (50, (caC ca ca6a ca6c ca7a ca7c))]) (L1 := []) [b1, b2] rfl [0, 0] _ rfl [(10, B (ca.seats.tied == (tiedGo list cabin 0)))] KR KR (NEXT (RF rfl (.bool (ca.seats.tied == (tiedGo list cabin 0))) () [] ?_ ?_)))))))
     · (first | (simp_all [RV, agrees]; done) | (simp [RV, agrees, *]; done))
     rfl
    refine HS 31 [0, 0] rfl (HS 32 [0, 0] rfl (HS 33 [0, 0] rfl (HS 34 [0, 0] rfl (HS 35 [0, 0] rfl (HS 36 [0, 0] rfl (HS 37 [0, 0] rfl (HP [0, 0] 38 [(49, B false)] (HP [0, 0] 39 [(10, B false)] (HDz (IMPORT (L0 := [(26, (rC r r9a r9c)), (50, (caC ca ca6a ca6c ca7a ca7c))]) (L1 := []) [b1, b2] rfl [0, 0] _ rfl [(10, B false)] KR KR (NEXT (RF rfl (.bool false) () [] ?_ ?_))))))))))))
    · (first | (simp_all [RV, agrees]; done) | (simp [RV, agrees, *]; done))
    rfl
   have h12 := bh12
   refine HS 22 [0, 0] rfl (HS 23 [0, 0] rfl (HS 24 [0, 0] rfl (HS 25 [0, 0] rfl (HS 26 [0, 0] rfl (HS 27 [0, 0] rfl (HS 28 [0, 0] rfl (HP [0, 0] 29 [(40, B false)] (HP [0, 0] 30 [(41, B false)] (HS 31 [0, 0] rfl (HS 32 [0, 0] rfl (HS 33 [0, 0] rfl (HS 34 [0, 0] rfl (HS 35 [0, 0] rfl (HS 36 [0, 0] rfl (HS 37 [0, 0] rfl (HP [0, 0] 38 [(49, B false)] (HP [0, 0] 39 [(10, B false)] (HDz (IMPORT (L0 := [(26, (rC r r9a r9c)), (50, (caC ca ca6a ca6c ca7a ca7c))]) (L1 := []) [b1, b2] rfl [0, 0] _ rfl [(10, B false)] KR KR (NEXT (RF rfl (.bool false) () [] ?_ ?_)))))))))))))))))))))
   · (first | (simp_all [RV, agrees]; done) | (simp [RV, agrees, *]; done))
   rfl
  have h7 := bh7
  refine HS 13 [0, 0] rfl (HS 14 [0, 0] rfl (HS 15 [0, 0] rfl (HS 16 [0, 0] rfl (HS 17 [0, 0] rfl (HS 18 [0, 0] rfl (HS 19 [0, 0] rfl (HP [0, 0] 20 [(31, B false)] (HP [0, 0] 21 [(32, B false)] (HS 22 [0, 0] rfl (HS 23 [0, 0] rfl (HS 24 [0, 0] rfl (HS 25 [0, 0] rfl (HS 26 [0, 0] rfl (HS 27 [0, 0] rfl (HS 28 [0, 0] rfl (HP [0, 0] 29 [(40, B false)] (HP [0, 0] 30 [(41, B false)] (HS 31 [0, 0] rfl (HS 32 [0, 0] rfl (HS 33 [0, 0] rfl (HS 34 [0, 0] rfl (HS 35 [0, 0] rfl (HS 36 [0, 0] rfl (HS 37 [0, 0] rfl (HP [0, 0] 38 [(49, B false)] (HP [0, 0] 39 [(10, B false)] (HDz (IMPORT (L0 := [(26, (rC r r9a r9c)), (50, (caC ca ca6a ca6c ca7a ca7c))]) (L1 := []) [b1, b2] rfl [0, 0] _ rfl [(10, B false)] KR KR (NEXT (RET ?_))))))))))))))))))))))))))))))
  refine FIN (.bool false) KR () ?_ [] ?_
  · (first | (simp_all [RV, agrees]; done) | (simp [RV, agrees, *]; done))
  rfl
 have h3 := bh3
 refine HS 3 [0, 0] rfl (HS 4 [0, 0] rfl (HS 5 [0, 0] rfl (HS 6 [0, 0] rfl (HS 7 [0, 0] rfl (HS 8 [0, 0] rfl (HS 9 [0, 0] rfl (HS 10 [0, 0] rfl (HP [0, 0] 11 [(22, B false)] (HP [0, 0] 12 [(23, B false)] (HS 13 [0, 0] rfl (HS 14 [0, 0] rfl (HS 15 [0, 0] rfl (HS 16 [0, 0] rfl (HS 17 [0, 0] rfl (HS 18 [0, 0] rfl (HS 19 [0, 0] rfl (HP [0, 0] 20 [(31, B false)] (HP [0, 0] 21 [(32, B false)] (HS 22 [0, 0] rfl (HS 23 [0, 0] rfl (HS 24 [0, 0] rfl (HS 25 [0, 0] rfl (HS 26 [0, 0] rfl (HS 27 [0, 0] rfl (HS 28 [0, 0] rfl (HP [0, 0] 29 [(40, B false)] (HP [0, 0] 30 [(41, B false)] (HS 31 [0, 0] rfl ?_))))))))))))))))))))))))))))
 refine HS 32 [0, 0] rfl (HS 33 [0, 0] rfl (HS 34 [0, 0] rfl (HS 35 [0, 0] rfl (HS 36 [0, 0] rfl (HS 37 [0, 0] rfl (HP [0, 0] 38 [(49, B false)] (HP [0, 0] 39 [(10, B false)] (HDz (IMPORT (L0 := [(26, (rC r r9a r9c)), (50, (caC ca ca6a ca6c ca7a ca7c))]) (L1 := []) [b1, b2] rfl [0, 0] _ rfl [(10, B false)] KR KR (NEXT (RF rfl (.bool false) () [] ?_ ?_)))))))))))
 · (first | (simp_all [RV, agrees]; done) | (simp [RV, agrees, *]; done))
 rfl

end SX
end Go.Proofs.YthnbaikmbgaddaaGreat
