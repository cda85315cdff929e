/- Walks, printed by program. -/
import Derived.Test.YthnbaikmbgaddaaGreatSxz
import Derived.Test.YthnbaikmbgaddaaGreatI2
import Derived.Test.YthnbaikmbgaddaaGreatMdlm
namespace Go.Proofs.YthnbaikmbgaddaaGreat
namespace SX
open Go Go.RowKit
set_option linter.unusedVariables false
set_option linter.unusedSimpArgs false
set_option maxRecDepth 10000
set_option maxHeartbeats 400000
private theorem z5 {p : Prop} (h : p := by first | (exact congrArg Value.bool (queueOk_t ⟨by omega, fun i e he => hv0 i e (by have := (List.getElem?_eq_some_iff.1 he).1; omega) he⟩).symm) | (refine congrArg Value.bool (queueOk_f fun hw9 => ?_).symm; obtain ⟨w1, w2⟩ := hw9; first | omega)) : p := h
private theorem z4 {p : Prop} (h : p := by first | (exact congrArg Value.bool (wheelOk_eq (by rw [beq_iff_eq, wheelP_weak]; exact ⟨fun h9 => ⟨by omega, fun i l hi hl => hv2 i l LO hl, by omega, by rw [← hv1]; omega⟩, fun h9 => by have := h9.2.2.2; rw [← hv1] at this; omega⟩))) | (refine congrArg Value.bool (wheelOk_f fun hw9 => ?_).symm; obtain ⟨w1, w5, w2, w3⟩ := wheelP_weak.1 hw9; first | omega)) : p := h
private theorem z3 {p : Prop} (h : p := by first | (exact congrArg Value.bool (queueOk_t ⟨by omega, fun i e he => hv0 i e (by have := (List.getElem?_eq_some_iff.1 he).1; omega) he⟩).symm) | (refine congrArg Value.bool (queueOk_f fun hw9 => ?_).symm; obtain ⟨w1, w2⟩ := hw9; first | omega | (exact Exists.elim (queueAt_t (l := list) (k := k) (id := y3.id) LS) fun j9 h9 => Exists.elim h9 fun e9 h9 => (w2 k _ hx_y3).2.2 j9 e9 h9.1 h9.2.1 h9.2.2) | (have w6 := (w2 k _ hx_y3).1; simp only [EntryR] at w6; simp_all; done))) : p := h
private theorem z2 {p : Prop} (h : p := by first | (exact congrArg Value.bool (wheelOk_eq (by rw [beq_iff_eq, wheelP_weak]; exact ⟨fun h9 => ⟨by omega, fun i l hi hl => hv2 i l LO hl, by omega, by rw [← hv1]; omega⟩, fun h9 => by have := h9.2.2.2; rw [← hv1] at this; omega⟩))) | (refine congrArg Value.bool (wheelOk_f fun hw9 => ?_).symm; obtain ⟨w1, w5, w2, w3⟩ := wheelP_weak.1 hw9; first | omega | (have w6 := (w5 k _ LO hx_y4 j _ LO hx12).1; simp only [PinR] at w6; simp_all; done) | (have w6 := (w5 k _ LO hx_y4 j _ LO hx12).2.1; simp_all; done))) : p := h
private theorem z1 {p : Prop} (h : p := by first | (exact congrArg Value.bool (queueOk_t ⟨by omega, fun i e he => hv0 i e (by have := (List.getElem?_eq_some_iff.1 he).1; omega) he⟩).symm) | (refine congrArg Value.bool (queueOk_f fun hw9 => ?_).symm; obtain ⟨w1, w2⟩ := hw9; first | omega | (exact Exists.elim (queueAt_t (l := list) (k := k) (id := y3.id) LS) fun j9 h9 => Exists.elim h9 fun e9 h9 => (w2 k _ hx_y3).2.2 j9 e9 h9.1 h9.2.1 h9.2.2) | (have w6 := (w2 k _ hx_y3).2.1 LO _ hx7; simp_all; done) | (have w6 := (w2 k _ hx_y3).1; simp only [EntryR] at w6; simp_all; done))) : p := h
theorem iQueueOk_c (W : World) (list : List Entry) (list_a : Option Addr) (list_c : Nat) (hlist : Rd entryL W list_a list) (hcap : list.length ≤ list_c) : Spec Tryz.prog W [] 329 #[.slice list_a list.length list_c] (RV (.bool (queueOk list))) := by
 refine ENTER0 (N := 59) (vs := [.slice list_a list.length list_c]) Tryz.func329 rfl rfl (NL rfl) ?_
 have w54 : wr (5 - 1) = 4 := rfl
 have hlist_len := hlist.len
 refine XG (UU 1 [] (XN (SEQ (XG (UU 3 [(7, B (decide ((list.length : Int) > 10)))] (NI (decide ((list.length : Int) > 10)) (dT fun h1 bh1 => ?_) (dF fun h1 bh1 => ?_)))))))
 · refine XG (RB rfl 2 false z5)
 refine XK (SEQ (XG (UU 3 [(8, .v (.slice list_a list.length list_c)), (9, I (list.length : Int)), (10, I 0)] (XN (BLOCK (LOOP (ι := Nat × (List Entry)) (fun j => [(0, .v (.slice list_a list.length list_c)), (8, .v (.slice list_a list.length list_c)), (9, I (list.length : Int)), (10, I (j.1 : Int))]) (fun j => []) (fun j => []) (fun j => j.1 + j.2.length = list.length ∧ list.drop j.1 = j.2 ∧ (∀ (i : Nat) (e : Entry), i < j.1 → list[i]? = some e → EntryR e ∧ (0 < i → ∀ y, list[i - 1]? = some y → entryLess y e = true) ∧ ∀ (j : Nat) (y : Entry), j < i → list[j]? = some y → y.id ≠ e.id)) (fun j => j.2.length) (0, list) [0, 8, 9, 10] ⟨by simp, rfl, fun i e hi => absurd hi (Nat.not_lt_zero _)⟩ KR rfl rfl ?_))))))
 rintro ⟨k, ys⟩ ⟨hk, hd, hv0⟩
 try dsimp only at hk hd hv0
 refine XG (UU 1 [(11, B (decide ((k : Int) < (list.length : Int))))] (XN (SEQ (IFK (decide ((k : Int) < (list.length : Int))) (dT fun h2 bh2 => ?_) (dF fun h2 bh2 => ?_)))))
 ·
  obtain ⟨y3, ys4, rfl, hx_y3, hd_y3, hl_y3⟩ := drop_cons hd hk LO
  refine XK (SEQ (BLOCK (XG (UU 1 [(12, I (k : Int))] (OPC (IX 45 (.tmp 8) (.tmp 10) 13 0 list_a list.length list_c .i64 (k : Int) 142 4 (Rd.some hlist LO) LO LO (OPC (LE 142 (.tmp 13) 14 142 list_a (k * 4) 0 (entryE y3) (.agg (entryE y3).toArray) (fun w hw => (hlist.fr hw.fr).flat hx_y3) (UL 3 [(3, I (k : Int)), (4, .p 0 0)] [(142, entryE y3)] (XN (SEQ (SEQ (REGIONQ KR KR (QU 3 [(17, B (decide ((k : Int) > 0)))] (QSP 17 (decide ((k : Int) > 0)) (dT fun h5 bh5 => ?_) (dF fun h5 bh5 => ?_))))))))))))))))
  ·
   refine QU 3 [(18, .v (.slice list_a list.length list_c)), (20, I (wr ((k : Int) - 1)))] (QCAST (d := 20) (vi (wr ((k : Int) - 1))) (vi ((k - 1 : Nat) : Int)) KR VC ?_)
   obtain ⟨x6, hx7⟩ : ∃ y, list[k - 1]? = some y := ⟨_, List.getElem?_eq_getElem LO⟩
   refine QIX 45 (.tmp 18) (.tmp 20) 21 0 list_a list.length list_c .i64 ((k - 1 : Nat) : Int) 142 4 (Rd.some hlist LO) LO LO (QLE 142 (.tmp 21) 22 142 list_a ((k - 1) * 4) 0 (entryE x6) (.agg (entryE x6).toArray) (fun w hw => (hlist.fr hw.fr).flat hx7) (QU 1 [(23, .v (.agg (entryE y3).toArray))] (QX 24 (fun w hw => iEntryLess_c w x6 y3) (QU 3 [(27, B (!(entryLess x6 y3)))] (QSP 27 (!(entryLess x6 y3)) (aT notT fun h8 bh8 => ?_) (aT notF fun h8 bh8 => ?_))))))
   · refine QU 8 [(35, B true)] (QEND rfl (NEXT (XI (XG (RB rfl 2 false z1)))))
   refine QU 2 [(28, .v (.slice list_a list.length list_c)), (29, I (k : Int))] (QCUTH 45 (.tmp 28) (.tmp 29) 30 45 KR (NL rfl) list_a list.length list_c .i64 (k : Int) KR KR 142 entryL list KR KR LO LQ rfl LO (fun a9 hsh10 => ?_))
   have hsh10 : ∀ w, Rd entryL w list_a list → Rd entryL w a9 (list.take k) := hsh10
   have hln11 : (list.take k).length = k := by first | (simp; done) | (simp; omega)
   refine QCAST (d := 30) (.slice a9 k list_c) (.slice a9 ((list.take k).length) list_c) KR (by rw [hln11]) (QU 2 [(32, I y3.id)] (QX 33 (fun w hw => iQueueAt_c w (list.take k) a9 list_c (hsh10 _ (hlist.fr hw.fr)) y3.id) (QU 2 [(35, B (decide ((queueAt (list.take k) y3.id 0) ≥ 0)))] (QEND rfl (NEXT (IFK (decide ((queueAt (list.take k) y3.id 0) ≥ 0)) (dT fun h12 bh12 => ?_) (dF fun h12 bh12 => ?_)))))))
   · refine XG (RB rfl 2 false z1)
   refine XK (XG (UU 2 [(37, I y3.level)] (OPC (CX 38 (fun w hw => isIndex_c w y3.level 5) ?_))))
   rintro ⟨⟩
   refine UU 2 [(40, B (!(inB y3.level 0 (wr (5 - 1)))))] (SP 40 (!(inB y3.level 0 (wr (5 - 1)))) (aT notT fun h13 bh13 => ?_) (aT notF fun h13 bh13 => ?_))
   · refine UU 17 [(57, B true)] (XN (XI (XG (RB rfl 2 false z1))))
   refine UU 2 [(42, I y3.turn)] (OPC (CX 43 (fun w hw => within_c w y3.turn 1 1000000) ?_))
   rintro ⟨⟩
   refine UU 3 [(46, B (!(inB y3.turn 1 1000000)))] (SP 46 (!(inB y3.turn 1 1000000)) (aT notT fun h14 bh14 => ?_) (aT notF fun h14 bh14 => ?_))
   · refine UU 11 [(57, B true)] (XN (XI (XG (RB rfl 2 false z1))))
   refine UU 2 [(48, I y3.id)] (OPC (CX 49 (fun w hw => within_c w y3.id 1 999) ?_))
   rintro ⟨⟩
   refine UU 3 [(52, B (!(inB y3.id 1 999)))] (SP 52 (!(inB y3.id 1 999)) (aT notT fun h15 bh15 => ?_) (aT notF fun h15 bh15 => ?_))
   · refine UU 5 [(57, B true)] (XN (XI (XG (RB rfl 2 false z1))))
   refine UU 2 [(54, I y3.size)] (OPC (CX 55 (fun w hw => within_c w y3.size 1 6) ?_))
   rintro ⟨⟩
   refine UU 2 [(57, B (!(inB y3.size 1 6)))] (NI (!(inB y3.size 1 6)) (aT notT fun h16 bh16 => ?_) (aT notF fun h16 bh16 => ?_))
   · refine XG (RB rfl 2 false z1)
   refine SKIP (OUTN (NEXT (RG (UU 1 [(58, I (wr ((k : Int) + 1)))] (CS 58 (vi (wr ((k : Int) + 1))) (vi ((k + 1 : Nat) : Int)) VC (UU 1 [(10, I ((k + 1 : Nat) : Int))] (ENDOPS (BK (k + 1, ys4) [0, 8, 9, 10] 0 [] ⟨hl_y3, hd_y3, (fun i e hi he => by by_cases h9 : i = k; (subst h9; rw [hx_y3] at he; injection he with he; subst he; exact ⟨by simp_all [EntryR], fun h0 z hz => by rw [hx7] at hz; injection hz with hz; subst hz; assumption, queueAt_n LS⟩); exact hv0 i e LO he)⟩ (by simp)))))))))
  refine QU 12 [(27, B false), (28, .v (.slice list_a list.length list_c)), (29, I (k : Int))] (QCUTH 45 (.tmp 28) (.tmp 29) 30 45 KR (NL rfl) list_a list.length list_c .i64 (k : Int) KR KR 142 entryL list KR KR LO LQ rfl LO (fun a17 hsh18 => ?_))
  have hsh18 : ∀ w, Rd entryL w list_a list → Rd entryL w a17 (list.take k) := hsh18
  have hln19 : (list.take k).length = k := by first | (simp; done) | (simp; omega)
  refine QCAST (d := 30) (.slice a17 k list_c) (.slice a17 ((list.take k).length) list_c) KR (by rw [hln19]) (QU 2 [(32, I y3.id)] (QX 33 (fun w hw => iQueueAt_c w (list.take k) a17 list_c (hsh18 _ (hlist.fr hw.fr)) y3.id) (QU 2 [(35, B (decide ((queueAt (list.take k) y3.id 0) ≥ 0)))] (QEND rfl (NEXT (IFK (decide ((queueAt (list.take k) y3.id 0) ≥ 0)) (dT fun h20 bh20 => ?_) (dF fun h20 bh20 => ?_)))))))
  · refine XG (RB rfl 2 false z3)
  refine XK (XG (UU 2 [(37, I y3.level)] (OPC (CX 38 (fun w hw => isIndex_c w y3.level 5) ?_))))
  rintro ⟨⟩
  refine UU 2 [(40, B (!(inB y3.level 0 (wr (5 - 1)))))] (SP 40 (!(inB y3.level 0 (wr (5 - 1)))) (aT notT fun h21 bh21 => ?_) (aT notF fun h21 bh21 => ?_))
  · refine UU 17 [(57, B true)] (XN (XI (XG (RB rfl 2 false z3))))
  refine UU 2 [(42, I y3.turn)] (OPC (CX 43 (fun w hw => within_c w y3.turn 1 1000000) ?_))
  rintro ⟨⟩
  refine UU 3 [(46, B (!(inB y3.turn 1 1000000)))] (SP 46 (!(inB y3.turn 1 1000000)) (aT notT fun h22 bh22 => ?_) (aT notF fun h22 bh22 => ?_))
  · refine UU 11 [(57, B true)] (XN (XI (XG (RB rfl 2 false z3))))
  refine UU 2 [(48, I y3.id)] (OPC (CX 49 (fun w hw => within_c w y3.id 1 999) ?_))
  rintro ⟨⟩
  refine UU 3 [(52, B (!(inB y3.id 1 999)))] (SP 52 (!(inB y3.id 1 999)) (aT notT fun h23 bh23 => ?_) (aT notF fun h23 bh23 => ?_))
  · refine UU 5 [(57, B true)] (XN (XI (XG (RB rfl 2 false z3))))
  refine UU 2 [(54, I y3.size)] (OPC (CX 55 (fun w hw => within_c w y3.size 1 6) ?_))
  rintro ⟨⟩
  refine UU 2 [(57, B (!(inB y3.size 1 6)))] (NI (!(inB y3.size 1 6)) (aT notT fun h24 bh24 => ?_) (aT notF fun h24 bh24 => ?_))
  · refine XG (RB rfl 2 false z3)
  refine SKIP (OUTN (NEXT (RG (UU 1 [(58, I (wr ((k : Int) + 1)))] (CS 58 (vi (wr ((k : Int) + 1))) (vi ((k + 1 : Nat) : Int)) VC (UU 1 [(10, I ((k + 1 : Nat) : Int))] (ENDOPS (BK (k + 1, ys4) [0, 8, 9, 10] 0 [] ⟨hl_y3, hd_y3, (fun i e hi he => by by_cases h9 : i = k; (subst h9; rw [hx_y3] at he; injection he with he; subst he; exact ⟨by simp_all [EntryR], fun h0 z hz => absurd h0 LO, queueAt_n LS⟩); exact hv0 i e LO he)⟩ (by simp)))))))))
 obtain rfl := drop_nil hk LO
 have hkk : k = list.length := (by simpa using hk)
 refine EXIT (PASS trivial (PASS trivial (OUT (NEXT (XG (RB rfl 2 true z5))))))

theorem iWheelOk_c (W : World) (wh : Wheel) (wh8a : Option Addr) (wh8c : Nat) (hwh8 : Rd (sl 167 pinL) W wh8a wh.spoke) (hb : wh.spoke.flatten.length ≤ 4194304) : Spec Tryz.prog W [] 264 #[.agg #[.slice wh8a wh.spoke.length wh8c]] (RV (.bool (wheelOk wh))) := by
 refine ENTER0 (N := 70) (vs := [.agg #[.slice wh8a wh.spoke.length wh8c]]) Tryz.func264 rfl rfl (NL rfl) ?_
 have hwh8len := hwh8.len
 refine XG (UL 2 [(1, .p 0 0)] [(48, [.slice wh8a wh.spoke.length wh8c])] (XN (SEQ (XG (UU 4 [(12, B ((wh.spoke.length : Int) != 9))] (NI ((wh.spoke.length : Int) != 9) (aT bne_iff_ne.1 fun h1 bh1 => ?_) (aT bneF fun h1 bh1 => ?_)))))))
 · refine XG (RB rfl 2 false z4)
 refine XK (XG (OPC (MAPNEW 253 13 253 KR (NL rfl) (fun mp2 => (UU 1 [(3, .v (.map (some mp2)))] (NR (UU 1 [(4, I 0)] (XN (SEQ (XG (UU 4 [(15, .v (.slice wh8a wh.spoke.length wh8c)), (16, I (wh.spoke.length : Int)), (17, I 0)] (XN (BLOCK (LOOP (ι := Nat × (List (List Pin)) × Nat × (List Int)) (fun j => [(3, .v (.map (some mp2))), (4, I (j.2.2.1 : Int)), (15, .v (.slice wh8a wh.spoke.length wh8c)), (16, I (wh.spoke.length : Int)), (17, I (j.1 : Int))]) (fun j => [(48, [.slice wh8a wh.spoke.length wh8c])]) (fun j => [mapA mp2 j.2.2.2]) (fun j => j.1 + j.2.1.length = wh.spoke.length ∧ wh.spoke.drop j.1 = j.2.1 ∧ j.2.2.1 = (wh.spoke.take j.1).flatten.length ∧ j.2.2.2 = keysOf (wh.spoke.take j.1).flatten [] ∧ (∀ (i : Nat) (l : List Pin), i < j.1 → wh.spoke[i]? = some l → SpokeW i l l.length)) (fun j => j.2.1.length) (0, wh.spoke, 0, ([] : List Int)) [3, 4, 15, 16, 17] ⟨by simp, rfl, by simp, by simp [keysOf], fun i l hi => absurd hi (Nat.not_lt_zero _)⟩ KR rfl rfl ?_))))))))))))))
 rintro ⟨k, ys, cnt, ks⟩ ⟨hk, hd, hv0, hv1, hv2⟩
 try dsimp only at hk hd hv0 hv1 hv2
 refine XG (UU 1 [(18, B (decide ((k : Int) < (wh.spoke.length : Int))))] (XN (SEQ (IFK (decide ((k : Int) < (wh.spoke.length : Int))) (dT fun h3 bh3 => ?_) (dF fun h3 bh3 => ?_)))))
 ·
  obtain ⟨y4, ys5, rfl, hx_y4, hd_y4, hl_y4⟩ := drop_cons hd hk LO
  refine XK (SEQ (BLOCK (XG (UU 1 [(19, I (k : Int))] ?_))))
  obtain ⟨a6, c7, hel9, hi8, hi8_cap⟩ := sl_view hwh8 hx_y4
  have hi8_len := hi8.len
  refine OPC (IX 46 (.tmp 15) (.tmp 17) 20 0 wh8a wh.spoke.length wh8c .i64 (k : Int) 155 1 (Rd.some hwh8 LO) LO LO (OPC (LE 155 (.tmp 20) 21 155 wh8a (k * 1) 0 ([.slice a6 y4.length c7]) (.slice a6 y4.length c7) (fun w hw => hel9.fr hw.fr) (UU 2 [(5, I (k : Int)), (6, .v (.slice a6 y4.length c7))] (NR (UU 3 [(22, .v (.slice a6 y4.length c7)), (23, I (y4.length : Int)), (24, I 0)] (XN (BLOCK (LOOP (ι := Nat × Nat × (List Int)) (fun j => [(3, .v (.map (some mp2))), (4, I (j.2.1 : Int)), (5, I (k : Int)), (6, .v (.slice a6 y4.length c7)), (15, .v (.slice wh8a wh.spoke.length wh8c)), (16, I (wh.spoke.length : Int)), (17, I (k : Int)), (22, .v (.slice a6 y4.length c7)), (23, I (y4.length : Int)), (24, I (j.1 : Int))]) (fun j => [(48, [.slice wh8a wh.spoke.length wh8c])]) (fun j => [mapA mp2 j.2.2]) (fun j => j.1 ≤ y4.length ∧ j.2.1 = (wh.spoke.take k).flatten.length + j.1 ∧ j.2.2 = keysOf ((wh.spoke.take k).flatten ++ y4.take j.1) [] ∧ SpokeW k y4 j.1) (fun j => y4.length - j.1) (0, cnt, ks) [3, 4, 5, 6, 15, 16, 17, 22, 23, 24] ⟨Nat.zero_le _, hv0, by rw [hv1]; simp, fun m x hm => absurd hm (Nat.not_lt_zero _)⟩ KR rfl rfl ?_)))))))))
  rintro ⟨j, cn, ms⟩ ⟨hj, hcn, hms, hsw⟩
  try dsimp only at hj hcn hms hsw
  have hft := flat_take_le2 hx_y4
  refine XG (UU 1 [(25, B (decide ((j : Int) < (y4.length : Int))))] (XN (SEQ (IFK (decide ((j : Int) < (y4.length : Int))) (dT fun h10 bh10 => ?_) (dF fun h10 bh10 => ?_)))))
  ·
   refine XK (SEQ (BLOCK (XG (UU 1 [(26, I (j : Int))] ?_))))
   obtain ⟨x11, hx12⟩ : ∃ y, y4[j]? = some y := ⟨_, List.getElem?_eq_getElem LO⟩
   refine OPC (IX 155 (.tmp 22) (.tmp 24) 27 0 a6 y4.length c7 .i64 (j : Int) 167 2 (Rd.some hi8 LO) LO LO (OPC (LE 167 (.tmp 27) 28 167 a6 (j * 2) 0 (pinE x11) (.agg (pinE x11).toArray) (fun w hw => (hi8.fr hw.fr).flat hx12) (UL 3 [(7, I (j : Int)), (8, .p 1 0)] [(48, [.slice wh8a wh.spoke.length wh8c]), (167, pinE x11)] (XN (SEQ (SEQ (REGIONQ KR KR (QU 1 [(29, .v (.agg (pinE x11).toArray))] (QX 30 (fun w hw => pinOk_c w x11) (QU 2 [(32, B (!(inB (x11).at' 1 1000008 && inB (x11).id 1 999)))] (QSP 32 (!(inB (x11).at' 1 1000008 && inB (x11).id 1 999)) (aT notT fun h13 bh13 => ?_) (aT notF fun h13 bh13 => ?_)))))))))))))
   · refine QU 20 [(52, B true)] (QEND rfl (NEXT (XI (XG (RB rfl 2 false z2)))))
   refine QU 7 [(39, B ((Int.tmod x11.at' 9) != (k : Int)))] (QSP 39 ((Int.tmod x11.at' 9) != (k : Int)) (aT bne_iff_ne.1 fun h14 bh14 => ?_) (aT bneF fun h14 bh14 => ?_))
   · refine QU 13 [(52, B true)] (QEND rfl (NEXT (XI (XG (RB rfl 2 false z2)))))
   refine QU 3 [(42, B (decide ((j : Int) > 0)))] (QSP 42 (decide ((j : Int) > 0)) (dT fun h15 bh15 => ?_) (dF fun h15 bh15 => ?_))
   ·
    refine QU 3 [(43, .v (.slice a6 y4.length c7)), (45, I (wr ((j : Int) - 1)))] (QCAST (d := 45) (vi (wr ((j : Int) - 1))) (vi ((j - 1 : Nat) : Int)) KR VC ?_)
    obtain ⟨x16, hx17⟩ : ∃ y, y4[j - 1]? = some y := ⟨_, List.getElem?_eq_getElem LO⟩
    refine QIX 155 (.tmp 43) (.tmp 45) 46 0 a6 y4.length c7 .i64 ((j - 1 : Nat) : Int) 167 2 (Rd.some hi8 LO) LO LO (QLE 167 (.tmp 46) 47 167 a6 ((j - 1) * 2) 0 (pinE x16) (.agg (pinE x16).toArray) (fun w hw => (hi8.fr hw.fr).flat hx17) (QU 1 [(48, .v (.agg (pinE x11).toArray))] (QX 49 (fun w hw => pcmpPin_c w x16 x11) (QU 3 [(52, B (decide ((cmpPin x16 x11) > 0)))] (QEND rfl (NEXT (IFK (decide ((cmpPin x16 x11) > 0)) (dT fun h18 bh18 => ?_) (dF fun h18 bh18 => ?_))))))))
    · refine XG (RB rfl 2 false (by first | (exact congrArg Value.bool (wheelOk_eq (by rw [beq_iff_eq, wheelP_weak]; exact ⟨fun h9 => ⟨by omega, fun i l hi hl => hv2 i l LO hl, by omega, by rw [← hv1]; omega⟩, fun h9 => by have := h9.2.2.2; rw [← hv1] at this; omega⟩))) | (refine congrArg Value.bool (wheelOk_f fun hw9 => ?_).symm; obtain ⟨w1, w5, w2, w3⟩ := wheelP_weak.1 hw9; first | omega | (have w6 := (w5 k _ LO hx_y4 j _ LO hx12).1; simp only [PinR] at w6; simp_all; done) | (have w6 := (w5 k _ LO hx_y4 j _ LO hx12).2.1; simp_all; done) | (have w6 := (w5 k _ LO hx_y4 j _ LO hx12).2.2 LO _ hx17; rw [← cmpPin_gt] at w6; simp_all; done))))
    refine XK (XG (UU 3 [(53, .v (.map (some mp2))), (55, I x11.id)] (OPC (MAPGET 253 (.tmp 53) (.tmp 55) 56 3 KR (NL rfl) 3 3 KR KR KR mp2 x11.id ms 0 _ rfl KR KR (fun z19 => (UU 1 [(57, I (wr (z19 + 1)))] (OPC (MAPPUT 253 (.tmp 53) (.tmp 55) (.tmp 57) 0 KR 3 3 KR KR mp2 x11.id (wr (z19 + 1)) ms 0 _ rfl KR KR KR (XN (RG (UU 2 [(59, I (wr ((cn : Int) + 1)))] (CS 59 (vi (wr ((cn : Int) + 1))) (vi ((cn + 1 : Nat) : Int)) VC (UU 1 [(4, I ((cn + 1 : Nat) : Int))] (ENDOPS (OUTN (NEXT (RG (UU 1 [(60, I (wr ((j : Int) + 1)))] (CS 60 (vi (wr ((j : Int) + 1))) (vi ((j + 1 : Nat) : Int)) VC (UU 1 [(24, I ((j + 1 : Nat) : Int))] (ENDOPS (BK (j + 1, cn + 1, insK ms x11.id) [3, 4, 5, 6, 15, 16, 17, 22, 23, 24] 1 [0] ⟨by dsimp only; omega, by dsimp only; omega, by rw [List.take_add_one, hx12, hms, ← keysOf_snoc]; simp, fun m z9 hm h9 => by by_cases hmj : m = j; (subst hmj; rw [hx12] at h9; injection h9 with h9; subst h9; exact ⟨by simp_all [PinR], by simp_all, fun h0 z hz => by rw [hx17] at hz; injection hz with hz; subst hz; rw [← cmpPin_gt]; assumption⟩); exact hsw m z9 LO h9⟩ (by dsimp only; omega)))))))))))))))))))))))
   refine QU 10 [(52, B false)] (QEND rfl (NEXT (IFF KR (XK (XG (UU 3 [(53, .v (.map (some mp2))), (55, I x11.id)] (OPC (MAPGET 253 (.tmp 53) (.tmp 55) 56 3 KR (NL rfl) 3 3 KR KR KR mp2 x11.id ms 0 _ rfl KR KR (fun z20 => (UU 1 [(57, I (wr (z20 + 1)))] (OPC (MAPPUT 253 (.tmp 53) (.tmp 55) (.tmp 57) 0 KR 3 3 KR KR mp2 x11.id (wr (z20 + 1)) ms 0 _ rfl KR KR KR (XN (RG (UU 2 [(59, I (wr ((cn : Int) + 1)))] (CS 59 (vi (wr ((cn : Int) + 1))) (vi ((cn + 1 : Nat) : Int)) VC (UU 1 [(4, I ((cn + 1 : Nat) : Int))] (ENDOPS (OUTN (NEXT (RG (UU 1 [(60, I (wr ((j : Int) + 1)))] (CS 60 (vi (wr ((j : Int) + 1))) (vi ((j + 1 : Nat) : Int)) VC (UU 1 [(24, I ((j + 1 : Nat) : Int))] (ENDOPS (BK (j + 1, cn + 1, insK ms x11.id) [3, 4, 5, 6, 15, 16, 17, 22, 23, 24] 1 [0] ⟨by dsimp only; omega, by dsimp only; omega, by rw [List.take_add_one, hx12, hms, ← keysOf_snoc]; simp, fun m z9 hm h9 => by by_cases hmj : m = j; (subst hmj; rw [hx12] at h9; injection h9 with h9; subst h9; exact ⟨by simp_all [PinR], by simp_all, fun h0 z hz => absurd h0 LO⟩); exact hsw m z9 LO h9⟩ (by dsimp only; omega)))))))))))))))))))))))))))
  refine EXIT (PASS trivial (PASS trivial (OUT (OUTN (NEXT (RG (UU 1 [(61, I (wr ((k : Int) + 1)))] (CS 61 (vi (wr ((k : Int) + 1))) (vi ((k + 1 : Nat) : Int)) VC (UU 1 [(17, I ((k + 1 : Nat) : Int))] (ENDOPS (BK (k + 1, ys5, cn, ms) [3, 4, 15, 16, 17] 1 [0] ⟨hl_y4, hd_y4, (by dsimp only; rw [flat_take hx_y4, List.length_append]; omega), (by rw [flat_take hx_y4, hms, show y4.take j = y4 from List.take_of_length_le LO]), (fun i l hi hl => by by_cases h9 : i = k; (subst h9; rw [hx_y4] at hl; injection hl with hl; subst hl; rw [show y4.length = j by omega]; exact hsw); exact hv2 i l LO hl)⟩ (by simp))))))))))))
 obtain rfl := drop_nil hk LO
 have htk : wh.spoke.take k = wh.spoke := List.take_of_length_le (by simp at hk; omega); rw [htk] at hv0 hv1; have hkk : k = wh.spoke.length := (by simpa using hk)
 refine EXIT (PASS trivial (PASS trivial (OUT (NEXT (XG (UU 3 [(64, B (decide ((cnt : Int) ≤ 10)))] (SP 64 (decide ((cnt : Int) ≤ 10)) (dT fun h21 bh21 => ?_) (dF fun h21 bh21 => ?_))))))))
 · refine UU 1 [(65, .v (.map (some mp2)))] (OPC (RUNV (.call { callee := .builtin .len, args := #[.tmp 65], argTypes := #[253] }) 66 3 KR (NL rfl) (vi ks.length) (runs_maplen (kt := 3) (et := 3) (r := mp2) (ks := ks) (j := 0) KR KR rfl) (UU 4 [(2, B ((ks.length : Int) == (cnt : Int)))] (XF rfl (.bool ((ks.length : Int) == (cnt : Int))) () [] z4))))
 refine UU 6 [(2, B false)] (XF rfl (.bool false) () [] z4)

theorem eqRowG_c (W : World) (a : List Entry) (a_a : Option Addr) (a_c : Nat) (ha : Rd entryL W a_a a) (b : List Entry) (b_a : Option Addr) (b_c : Nat) (hb : Rd entryL W b_a b) : Spec Tryz.prog W [] 256 #[.slice a_a a.length a_c, .slice b_a b.length b_c] (RV (.bool (sameRow a b))) := by
 refine ENTER0 (N := 26) (vs := [.slice a_a a.length a_c, .slice b_a b.length b_c]) Tryz.func256 rfl rfl (NL rfl) ?_
 have ha_len := ha.len
 have hb_len := hb.len
 refine XG (UU 1 [] (XN (SEQ (XG (UU 5 [(10, B ((a.length : Int) != (b.length : Int)))] (NI ((a.length : Int) != (b.length : Int)) (aT bne_iff_ne.1 fun h1 bh1 => ?_) (aT bneF fun h1 bh1 => ?_)))))))
 · refine XG (RB rfl 4 false (by simp [RV, sameRow_ne (a := a) (b := b) LO]))
 refine XK (SEQ (XG (UU 3 [(12, I (a.length : Int)), (13, I 0)] (XN (BLOCK (LOOP (ι := Nat × (List Entry)) (fun j => [(0, .v (.slice a_a a.length a_c)), (1, .v (.slice b_a b.length b_c)), (12, I (a.length : Int)), (13, I (j.1 : Int))]) (fun j => []) (fun j => []) (fun j => j.1 + j.2.length = a.length ∧ a.drop j.1 = j.2 ∧ sameRow a b = sameRow j.2 (b.drop j.1)) (fun j => j.2.length) (0, a) [0, 1, 12, 13] ⟨by simp, rfl, rfl⟩ KR rfl rfl ?_))))))
 rintro ⟨k, ys⟩ ⟨hk, hd, hv0⟩
 try dsimp only at hk hd hv0
 refine XG (UU 1 [(14, B (decide ((k : Int) < (a.length : Int))))] (XN (SEQ (IFK (decide ((k : Int) < (a.length : Int))) (dT fun h2 bh2 => ?_) (dF fun h2 bh2 => ?_)))))
 ·
  obtain ⟨y3, ys4, rfl, hx_y3, hd_y3, hl_y3⟩ := drop_cons hd hk LO
  refine XK (SEQ (BLOCK (XG (UU 2 [(5, I (k : Int))] (XN (SEQ (REGIONQ KR KR (QU 2 [(16, .v (.slice a_a a.length a_c)), (17, I (k : Int))] (QIX 45 (.tmp 16) (.tmp 17) 18 0 a_a a.length a_c .i64 (k : Int) 142 4 (Rd.some ha LO) LO LO (QLE 142 (.tmp 18) 19 142 a_a (k * 4) 0 (entryE y3) (.agg (entryE y3).toArray) (fun w hw => (ha.fr hw.fr).flat hx_y3) (QU 2 [(20, .v (.slice b_a b.length b_c)), (21, I (k : Int))] ?_)))))))))))
  obtain ⟨x5, hx6⟩ : ∃ y, b[k]? = some y := ⟨_, List.getElem?_eq_getElem LO⟩
  refine QIX 45 (.tmp 20) (.tmp 21) 22 0 b_a b.length b_c .i64 (k : Int) 142 4 (Rd.some hb LO) LO LO (QLE 142 (.tmp 22) 23 142 b_a (k * 4) 0 (entryE x5) (.agg (entryE x5).toArray) (fun w hw => (hb.fr hw.fr).flat hx6) (QRUNV (.binOp .neq 142 (.tmp 19) (.tmp 23) 142) 24 4 KR (NL rfl) (.bool (!((y3.level == x5.level) && ((y3.turn == x5.turn) && ((y3.id == x5.id) && ((y3.size == x5.size) && true)))))) (runs_neq (xs := [vi y3.level, vi y3.turn, vi y3.id, vi y3.size]) (ys := [vi x5.level, vi x5.turn, vi x5.id, vi x5.size]) (r := (y3.level == x5.level) && ((y3.turn == x5.turn) && ((y3.id == x5.id) && ((y3.size == x5.size) && true)))) KR KR KR) (QEND rfl (NEXT (IFK (!((y3.level == x5.level) && ((y3.turn == x5.turn) && ((y3.id == x5.id) && ((y3.size == x5.size) && true))))) (aT notT fun h7 bh7 => ?_) (aT notF fun h7 bh7 => ?_))))))
  · refine XG (RB rfl 4 false (by simp_all [RV, hv0, drop_get ‹b[k]? = some _›, sameRow]))
  refine SKIP (OUTN (NEXT (RG (UU 1 [(25, I (wr ((k : Int) + 1)))] (CS 25 (vi (wr ((k : Int) + 1))) (vi ((k + 1 : Nat) : Int)) VC (UU 1 [(13, I ((k + 1 : Nat) : Int))] (ENDOPS (BK (k + 1, ys4) [0, 1, 12, 13] 0 [] ⟨hl_y3, hd_y3, (hv0.trans (by simp_all [sameRow, drop_get ‹b[k]? = some _›]))⟩ (by simp)))))))))
 obtain rfl := drop_nil hk LO
 refine EXIT (PASS trivial (PASS trivial (OUT (NEXT (XG (RB rfl 4 true (by simp [RV, hv0, sameRow, List.drop_eq_nil_of_le (show b.length ≤ k by simp at hk; omega)])))))))

theorem eqPinsG_c (W : World) (a : List Pin) (a_a : Option Addr) (a_c : Nat) (ha : Rd pinL W a_a a) (b : List Pin) (b_a : Option Addr) (b_c : Nat) (hb : Rd pinL W b_a b) : Spec Tryz.prog W [] 257 #[.slice a_a a.length a_c, .slice b_a b.length b_c] (RV (.bool (samePins a b))) := by
 refine ENTER0 (N := 26) (vs := [.slice a_a a.length a_c, .slice b_a b.length b_c]) Tryz.func257 rfl rfl (NL rfl) ?_
 have ha_len := ha.len
 have hb_len := hb.len
 refine XG (UU 1 [] (XN (SEQ (XG (UU 5 [(10, B ((a.length : Int) != (b.length : Int)))] (NI ((a.length : Int) != (b.length : Int)) (aT bne_iff_ne.1 fun h1 bh1 => ?_) (aT bneF fun h1 bh1 => ?_)))))))
 · refine XG (RB rfl 4 false (by simp [RV, samePins_ne (a := a) (b := b) LO]))
 refine XK (SEQ (XG (UU 3 [(12, I (a.length : Int)), (13, I 0)] (XN (BLOCK (LOOP (ι := Nat × (List Pin)) (fun j => [(0, .v (.slice a_a a.length a_c)), (1, .v (.slice b_a b.length b_c)), (12, I (a.length : Int)), (13, I (j.1 : Int))]) (fun j => []) (fun j => []) (fun j => j.1 + j.2.length = a.length ∧ a.drop j.1 = j.2 ∧ samePins a b = samePins j.2 (b.drop j.1)) (fun j => j.2.length) (0, a) [0, 1, 12, 13] ⟨by simp, rfl, rfl⟩ KR rfl rfl ?_))))))
 rintro ⟨k, ys⟩ ⟨hk, hd, hv0⟩
 try dsimp only at hk hd hv0
 refine XG (UU 1 [(14, B (decide ((k : Int) < (a.length : Int))))] (XN (SEQ (IFK (decide ((k : Int) < (a.length : Int))) (dT fun h2 bh2 => ?_) (dF fun h2 bh2 => ?_)))))
 ·
  obtain ⟨y3, ys4, rfl, hx_y3, hd_y3, hl_y3⟩ := drop_cons hd hk LO
  refine XK (SEQ (BLOCK (XG (UU 2 [(5, I (k : Int))] (XN (SEQ (REGIONQ KR KR (QU 2 [(16, .v (.slice a_a a.length a_c)), (17, I (k : Int))] (QIX 155 (.tmp 16) (.tmp 17) 18 0 a_a a.length a_c .i64 (k : Int) 167 2 (Rd.some ha LO) LO LO (QLE 167 (.tmp 18) 19 167 a_a (k * 2) 0 (pinE y3) (.agg (pinE y3).toArray) (fun w hw => (ha.fr hw.fr).flat hx_y3) (QU 2 [(20, .v (.slice b_a b.length b_c)), (21, I (k : Int))] ?_)))))))))))
  obtain ⟨x5, hx6⟩ : ∃ y, b[k]? = some y := ⟨_, List.getElem?_eq_getElem LO⟩
  refine QIX 155 (.tmp 20) (.tmp 21) 22 0 b_a b.length b_c .i64 (k : Int) 167 2 (Rd.some hb LO) LO LO (QLE 167 (.tmp 22) 23 167 b_a (k * 2) 0 (pinE x5) (.agg (pinE x5).toArray) (fun w hw => (hb.fr hw.fr).flat hx6) (QRUNV (.binOp .neq 167 (.tmp 19) (.tmp 23) 167) 24 4 KR (NL rfl) (.bool (!((y3.at' == x5.at') && ((y3.id == x5.id) && true)))) (runs_neq (xs := [vi y3.at', vi y3.id]) (ys := [vi x5.at', vi x5.id]) (r := (y3.at' == x5.at') && ((y3.id == x5.id) && true)) KR KR KR) (QEND rfl (NEXT (IFK (!((y3.at' == x5.at') && ((y3.id == x5.id) && true))) (aT notT fun h7 bh7 => ?_) (aT notF fun h7 bh7 => ?_))))))
  · refine XG (RB rfl 4 false (by simp_all [RV, hv0, drop_get ‹b[k]? = some _›, samePins]))
  refine SKIP (OUTN (NEXT (RG (UU 1 [(25, I (wr ((k : Int) + 1)))] (CS 25 (vi (wr ((k : Int) + 1))) (vi ((k + 1 : Nat) : Int)) VC (UU 1 [(13, I ((k + 1 : Nat) : Int))] (ENDOPS (BK (k + 1, ys4) [0, 1, 12, 13] 0 [] ⟨hl_y3, hd_y3, (hv0.trans (by simp_all [samePins, drop_get ‹b[k]? = some _›]))⟩ (by simp)))))))))
 obtain rfl := drop_nil hk LO
 refine EXIT (PASS trivial (PASS trivial (OUT (NEXT (XG (RB rfl 4 true (by simp [RV, hv0, samePins, List.drop_eq_nil_of_le (show b.length ≤ k by simp at hk; omega)])))))))

end SX
end Go.Proofs.YthnbaikmbgaddaaGreat
