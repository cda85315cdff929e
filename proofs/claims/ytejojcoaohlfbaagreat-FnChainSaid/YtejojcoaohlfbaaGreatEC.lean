/- Texts of this claim, put together by program. -/
import Derived.Test.YtejojcoaohlfbaaGreatSx9
import Derived.Test.YtejojcoaohlfbaaGreatIA
import Derived.Test.YtejojcoaohlfbaaGreatMdlm
namespace Go.Proofs.YtejojcoaohlfbaaGreat
namespace SX
open Go Go.RowKit
set_option linter.unusedVariables false
set_option linter.unusedSimpArgs false
set_option maxRecDepth 10000
set_option maxHeartbeats 400000
private theorem z2IW {p : Prop} (h : p := by first | (exact congrArg Value.bool (wheelOk_eq (by rw [beq_iff_eq, wheelP_weak]; exact ⟨fun h9 => ⟨by omega, fun i l hi hl => hv2 i l LO hl, by omega, by rw [← hv1]; omega⟩, fun h9 => by have := h9.2.2.2; rw [← hv1] at this; omega⟩))) | (refine congrArg Value.bool (wheelOk_f fun hw9 => ?_).symm; obtain ⟨w1, w5, w2, w3⟩ := wheelP_weak.1 hw9; first | omega)) : p := h
private theorem z1IW {p : Prop} (h : p := by first | (exact congrArg Value.bool (wheelOk_eq (by rw [beq_iff_eq, wheelP_weak]; exact ⟨fun h9 => ⟨by omega, fun i l hi hl => hv2 i l LO hl, by omega, by rw [← hv1]; omega⟩, fun h9 => by have := h9.2.2.2; rw [← hv1] at this; omega⟩))) | (refine congrArg Value.bool (wheelOk_f fun hw9 => ?_).symm; obtain ⟨w1, w5, w2, w3⟩ := wheelP_weak.1 hw9; first | omega | (have w6 := (w5 k _ LO hx_y4 j _ LO hx12).1; simp only [PinR] at w6; simp_all; done) | (have w6 := (w5 k _ LO hx_y4 j _ LO hx12).2.1; simp_all; done))) : p := h
theorem iWheelOk_c (W : World) (wh : Wheel) (wh8a : Option Addr) (wh8c : Nat) (hwh8 : Rd (sl 166 pinL) W wh8a wh.spoke) (hb : wh.spoke.flatten.length ≤ 4194304) : Spec Tryz.prog W [] 259 #[.agg #[.slice wh8a wh.spoke.length wh8c]] (RV (.bool (wheelOk wh))) := by
 refine ENTER0 (N := 70) (vs := [.agg #[.slice wh8a wh.spoke.length wh8c]]) Tryz.func259 rfl rfl (NL rfl) ?_
 have hwh8len := hwh8.len
 refine XG (UL 2 [(1, .p 0 0)] [(68, [.slice wh8a wh.spoke.length wh8c])] (XN (SEQ (XG (UU 4 [(12, B ((wh.spoke.length : Int) != 9))] (NI ((wh.spoke.length : Int) != 9) (aT bne_iff_ne.1 fun h1 bh1 => ?_) (aT bneF fun h1 bh1 => ?_)))))))
 · refine XG (RB rfl 2 false z2IW)
 refine XK (XG (OPC (MAPNEW 267 13 267 KR (NL rfl) (fun mp2 => (UU 1 [(3, .v (.map (some mp2)))] (NR (UU 1 [(4, I 0)] (XN (SEQ (XG (UU 4 [(15, .v (.slice wh8a wh.spoke.length wh8c)), (16, I (wh.spoke.length : Int)), (17, I 0)] (XN (BLOCK (LOOP (ι := Nat × (List (List Pin)) × Nat × (List Int)) (fun j => [(3, .v (.map (some mp2))), (4, I (j.2.2.1 : Int)), (15, .v (.slice wh8a wh.spoke.length wh8c)), (16, I (wh.spoke.length : Int)), (17, I (j.1 : Int))]) (fun j => [(68, [.slice wh8a wh.spoke.length wh8c])]) (fun j => [mapA mp2 j.2.2.2]) (fun j => j.1 + j.2.1.length = wh.spoke.length ∧ wh.spoke.drop j.1 = j.2.1 ∧ j.2.2.1 = (wh.spoke.take j.1).flatten.length ∧ j.2.2.2 = keysOf (wh.spoke.take j.1).flatten [] ∧ (∀ (i : Nat) (l : List Pin), i < j.1 → wh.spoke[i]? = some l → SpokeW i l l.length)) (fun j => j.2.1.length) (0, wh.spoke, 0, ([] : List Int)) [3, 4, 15, 16, 17] ⟨by simp, rfl, by simp, by simp [keysOf], fun i l hi => absurd hi (Nat.not_lt_zero _)⟩ KR rfl rfl ?_))))))))))))))
 rintro ⟨k, ys, cnt, ks⟩ ⟨hk, hd, hv0, hv1, hv2⟩
 try dsimp only at hk hd hv0 hv1 hv2
 refine XG (UU 1 [(18, B (decide ((k : Int) < (wh.spoke.length : Int))))] (XN (SEQ (IFK (decide ((k : Int) < (wh.spoke.length : Int))) (dT fun h3 bh3 => ?_) (dF fun h3 bh3 => ?_)))))
 ·
  obtain ⟨y4, ys5, rfl, hx_y4, hd_y4, hl_y4⟩ := drop_cons hd hk LO
  refine XK (SEQ (BLOCK (XG (UU 1 [(19, I (k : Int))] ?_))))
  obtain ⟨a6, c7, hel9, hi8, hi8_cap⟩ := sl_view hwh8 hx_y4
  have hi8_len := hi8.len
  refine OPC (IX 66 (.tmp 15) (.tmp 17) 20 0 wh8a wh.spoke.length wh8c .i64 (k : Int) 199 1 (Rd.some hwh8 LO) LO LO (OPC (LE 199 (.tmp 20) 21 199 wh8a (k * 1) 0 ([.slice a6 y4.length c7]) (.slice a6 y4.length c7) (fun w hw => hel9.fr hw.fr) (UU 2 [(5, I (k : Int)), (6, .v (.slice a6 y4.length c7))] (NR (UU 3 [(22, .v (.slice a6 y4.length c7)), (23, I (y4.length : Int)), (24, I 0)] (XN (BLOCK (LOOP (ι := Nat × Nat × (List Int)) (fun j => [(3, .v (.map (some mp2))), (4, I (j.2.1 : Int)), (5, I (k : Int)), (6, .v (.slice a6 y4.length c7)), (15, .v (.slice wh8a wh.spoke.length wh8c)), (16, I (wh.spoke.length : Int)), (17, I (k : Int)), (22, .v (.slice a6 y4.length c7)), (23, I (y4.length : Int)), (24, I (j.1 : Int))]) (fun j => [(68, [.slice wh8a wh.spoke.length wh8c])]) (fun j => [mapA mp2 j.2.2]) (fun j => j.1 ≤ y4.length ∧ j.2.1 = (wh.spoke.take k).flatten.length + j.1 ∧ j.2.2 = keysOf ((wh.spoke.take k).flatten ++ y4.take j.1) [] ∧ SpokeW k y4 j.1) (fun j => y4.length - j.1) (0, cnt, ks) [3, 4, 5, 6, 15, 16, 17, 22, 23, 24] ⟨Nat.zero_le _, hv0, by rw [hv1]; simp, fun m x hm => absurd hm (Nat.not_lt_zero _)⟩ KR rfl rfl ?_)))))))))
  rintro ⟨j, cn, ms⟩ ⟨hj, hcn, hms, hsw⟩
  try dsimp only at hj hcn hms hsw
  have hft := flat_take_le2 hx_y4
  refine XG (UU 1 [(25, B (decide ((j : Int) < (y4.length : Int))))] (XN (SEQ (IFK (decide ((j : Int) < (y4.length : Int))) (dT fun h10 bh10 => ?_) (dF fun h10 bh10 => ?_)))))
  ·
   refine XK (SEQ (BLOCK (XG (UU 1 [(26, I (j : Int))] ?_))))
   obtain ⟨x11, hx12⟩ : ∃ y, y4[j]? = some y := ⟨_, List.getElem?_eq_getElem LO⟩
   refine OPC (IX 199 (.tmp 22) (.tmp 24) 27 0 a6 y4.length c7 .i64 (j : Int) 166 2 (Rd.some hi8 LO) LO LO (OPC (LE 166 (.tmp 27) 28 166 a6 (j * 2) 0 (pinE x11) (.agg (pinE x11).toArray) (fun w hw => (hi8.fr hw.fr).flat hx12) (UL 3 [(7, I (j : Int)), (8, .p 1 0)] [(68, [.slice wh8a wh.spoke.length wh8c]), (166, pinE x11)] (XN (SEQ (SEQ (REGIONQ KR KR (QU 1 [(29, .v (.agg (pinE x11).toArray))] (QX 30 (fun w hw => pinOk_c w x11) (QU 2 [(32, B (!(inB (x11).at' 1 1000008 && inB (x11).id 1 999)))] (QSP 32 (!(inB (x11).at' 1 1000008 && inB (x11).id 1 999)) (aT notT fun h13 bh13 => ?_) (aT notF fun h13 bh13 => ?_)))))))))))))
   · refine QU 20 [(52, B true)] (QEND rfl (NEXT (XI (XG (RB rfl 2 false z1IW)))))
   refine QU 7 [(39, B ((Int.tmod x11.at' 9) != (k : Int)))] (QSP 39 ((Int.tmod x11.at' 9) != (k : Int)) (aT bne_iff_ne.1 fun h14 bh14 => ?_) (aT bneF fun h14 bh14 => ?_))
   · refine QU 13 [(52, B true)] (QEND rfl (NEXT (XI (XG (RB rfl 2 false z1IW)))))
   refine QU 3 [(42, B (decide ((j : Int) > 0)))] (QSP 42 (decide ((j : Int) > 0)) (dT fun h15 bh15 => ?_) (dF fun h15 bh15 => ?_))
   ·
    refine QU 3 [(43, .v (.slice a6 y4.length c7)), (45, I (wr ((j : Int) - 1)))] (QCAST (d := 45) (vi (wr ((j : Int) - 1))) (vi ((j - 1 : Nat) : Int)) KR VC ?_)
    obtain ⟨x16, hx17⟩ : ∃ y, y4[j - 1]? = some y := ⟨_, List.getElem?_eq_getElem LO⟩
    refine QIX 199 (.tmp 43) (.tmp 45) 46 0 a6 y4.length c7 .i64 ((j - 1 : Nat) : Int) 166 2 (Rd.some hi8 LO) LO LO (QLE 166 (.tmp 46) 47 166 a6 ((j - 1) * 2) 0 (pinE x16) (.agg (pinE x16).toArray) (fun w hw => (hi8.fr hw.fr).flat hx17) (QU 1 [(48, .v (.agg (pinE x11).toArray))] (QX 49 (fun w hw => pcmpPin_c w x16 x11) (QU 3 [(52, B (decide ((cmpPin x16 x11) > 0)))] (QEND rfl (NEXT (IFK (decide ((cmpPin x16 x11) > 0)) (dT fun h18 bh18 => ?_) (dF fun h18 bh18 => ?_))))))))
    · refine XG (RB rfl 2 false (by first | (exact congrArg Value.bool (wheelOk_eq (by rw [beq_iff_eq, wheelP_weak]; exact ⟨fun h9 => ⟨by omega, fun i l hi hl => hv2 i l LO hl, by omega, by rw [← hv1]; omega⟩, fun h9 => by have := h9.2.2.2; rw [← hv1] at this; omega⟩))) | (refine congrArg Value.bool (wheelOk_f fun hw9 => ?_).symm; obtain ⟨w1, w5, w2, w3⟩ := wheelP_weak.1 hw9; first | omega | (have w6 := (w5 k _ LO hx_y4 j _ LO hx12).1; simp only [PinR] at w6; simp_all; done) | (have w6 := (w5 k _ LO hx_y4 j _ LO hx12).2.1; simp_all; done) | (have w6 := (w5 k _ LO hx_y4 j _ LO hx12).2.2 LO _ hx17; rw [← cmpPin_gt] at w6; simp_all; done))))
    refine XK (XG (UU 3 [(53, .v (.map (some mp2))), (55, I x11.id)] (OPC (MAPGET 267 (.tmp 53) (.tmp 55) 56 3 KR (NL rfl) 3 3 KR KR KR mp2 x11.id ms 0 _ rfl KR KR (fun z19 => (UU 1 [(57, I (wr (z19 + 1)))] (OPC (MAPPUT 267 (.tmp 53) (.tmp 55) (.tmp 57) 0 KR 3 3 KR KR mp2 x11.id (wr (z19 + 1)) ms 0 _ rfl KR KR KR (XN (RG (UU 2 [(59, I (wr ((cn : Int) + 1)))] (CS 59 (vi (wr ((cn : Int) + 1))) (vi ((cn + 1 : Nat) : Int)) VC (UU 1 [(4, I ((cn + 1 : Nat) : Int))] (ENDOPS (OUTN (NEXT (RG (UU 1 [(60, I (wr ((j : Int) + 1)))] (CS 60 (vi (wr ((j : Int) + 1))) (vi ((j + 1 : Nat) : Int)) VC (UU 1 [(24, I ((j + 1 : Nat) : Int))] (ENDOPS (BK (j + 1, cn + 1, insK ms x11.id) [3, 4, 5, 6, 15, 16, 17, 22, 23, 24] 1 [0] ⟨by dsimp only; omega, by dsimp only; omega, by rw [List.take_add_one, hx12, hms, ← keysOf_snoc]; simp, fun m z9 hm h9 => by by_cases hmj : m = j; (subst hmj; rw [hx12] at h9; injection h9 with h9; subst h9; exact ⟨by simp_all [PinR], by simp_all, fun h0 z hz => by rw [hx17] at hz; injection hz with hz; subst hz; rw [← cmpPin_gt]; assumption⟩); exact hsw m z9 LO h9⟩ (by dsimp only; omega)))))))))))))))))))))))
   refine QU 10 [(52, B false)] (QEND rfl (NEXT (IFF KR (XK (XG (UU 3 [(53, .v (.map (some mp2))), (55, I x11.id)] (OPC (MAPGET 267 (.tmp 53) (.tmp 55) 56 3 KR (NL rfl) 3 3 KR KR KR mp2 x11.id ms 0 _ rfl KR KR (fun z20 => (UU 1 [(57, I (wr (z20 + 1)))] (OPC (MAPPUT 267 (.tmp 53) (.tmp 55) (.tmp 57) 0 KR 3 3 KR KR mp2 x11.id (wr (z20 + 1)) ms 0 _ rfl KR KR KR (XN (RG (UU 2 [(59, I (wr ((cn : Int) + 1)))] (CS 59 (vi (wr ((cn : Int) + 1))) (vi ((cn + 1 : Nat) : Int)) VC (UU 1 [(4, I ((cn + 1 : Nat) : Int))] (ENDOPS (OUTN (NEXT (RG (UU 1 [(60, I (wr ((j : Int) + 1)))] (CS 60 (vi (wr ((j : Int) + 1))) (vi ((j + 1 : Nat) : Int)) VC (UU 1 [(24, I ((j + 1 : Nat) : Int))] (ENDOPS (BK (j + 1, cn + 1, insK ms x11.id) [3, 4, 5, 6, 15, 16, 17, 22, 23, 24] 1 [0] ⟨by dsimp only; omega, by dsimp only; omega, by rw [List.take_add_one, hx12, hms, ← keysOf_snoc]; simp, fun m z9 hm h9 => by by_cases hmj : m = j; (subst hmj; rw [hx12] at h9; injection h9 with h9; subst h9; exact ⟨by simp_all [PinR], by simp_all, fun h0 z hz => absurd h0 LO⟩); exact hsw m z9 LO h9⟩ (by dsimp only; omega)))))))))))))))))))))))))))
  refine EXIT (PASS trivial (PASS trivial (OUT (OUTN (NEXT (RG (UU 1 [(61, I (wr ((k : Int) + 1)))] (CS 61 (vi (wr ((k : Int) + 1))) (vi ((k + 1 : Nat) : Int)) VC (UU 1 [(17, I ((k + 1 : Nat) : Int))] (ENDOPS (BK (k + 1, ys5, cn, ms) [3, 4, 15, 16, 17] 1 [0] ⟨hl_y4, hd_y4, (by dsimp only; rw [flat_take hx_y4, List.length_append]; omega), (by rw [flat_take hx_y4, hms, show y4.take j = y4 from List.take_of_length_le LO]), (fun i l hi hl => by by_cases h9 : i = k; (subst h9; rw [hx_y4] at hl; injection hl with hl; subst hl; rw [show y4.length = j by omega]; exact hsw); exact hv2 i l LO hl)⟩ (by simp))))))))))))
 obtain rfl := drop_nil hk LO
 have htk : wh.spoke.take k = wh.spoke := List.take_of_length_le (by simp at hk; omega); rw [htk] at hv0 hv1; have hkk : k = wh.spoke.length := (by simpa using hk)
 refine EXIT (PASS trivial (PASS trivial (OUT (NEXT (XG (UU 3 [(64, B (decide ((cnt : Int) ≤ 10)))] (SP 64 (decide ((cnt : Int) ≤ 10)) (dT fun h21 bh21 => ?_) (dF fun h21 bh21 => ?_))))))))
 · refine UU 1 [(65, .v (.map (some mp2)))] (OPC (RUNV (.call { callee := .builtin .len, args := #[.tmp 65], argTypes := #[267] }) 66 3 KR (NL rfl) (vi ks.length) (runs_maplen (kt := 3) (et := 3) (r := mp2) (ks := ks) (j := 0) KR KR rfl) (UU 4 [(2, B ((ks.length : Int) == (cnt : Int)))] (XF rfl (.bool ((ks.length : Int) == (cnt : Int))) () [] z2IW))))
 refine UU 6 [(2, B false)] (XF rfl (.bool false) () [] z2IW)
private theorem z4I2 {p : Prop} (h : p := by dsimp only; omega) : p := h
private theorem z3I2 {p : Prop} (h : p := by first | assumption | omega) : p := h
private theorem z2I2 {p : Prop} (h : p := by first | assumption | rfl | omega) : p := h
private theorem z1I2 {p : Prop} (h : p := by simp only [List.length_set]; omega) : p := h
theorem insSortEntry_c (W : World) (data : List Entry) (data_a : Option Addr) (data_n data_c : Nat) (a : Int) (b : Int) (ha : a = 0) (hb : b = (data.length : Int)) (hl : data.length ≤ 1048576) : Spec Tryz.prog W [slA 159 entryL (.slice data_a data_n data_c) data] 375 #[.slice data_a data_n data_c, vi a, vi b, .func (.func 267) #[] #[]] (⟨Unit, fun _ => .tuple #[], fun _ => [slA 159 entryL (.slice data_a data_n data_c) (sortGo entryLess ((data).length - 1) 1 data)]⟩) := by
 refine ENTER (N := 53) (vs := [.slice data_a data_n data_c, vi a, vi b, .func (.func 267) #[] #[]]) Tryz.func375 rfl rfl (NL rfl) (fun S0 => ?_)
 refine FACT (data_n = data.length ∧ data.length ≤ 9223372036854775807) (fun w hw => SlO.lenE (hw.own 0 rfl)) (fun hdata_len => (XG (UU 3 [(8, I (wr (a + 1)))] (XN (BLOCK (CS 8 (vi (wr (a + 1))) (vi (1 : Int)) ((by rw [ha]; rfl)) (LOOP (ι := Nat × (List Entry)) (fun j => [(0, .v (.slice data_a data_n data_c)), (1, I a), (2, I b), (3, .v (.func (.func 267) #[] #[])), (8, I (j.1 : Int))]) (fun j => []) (fun j => [slA 159 entryL (.slice data_a data_n data_c) j.2]) (fun j => j.2.length = data.length ∧ 1 ≤ j.1 ∧ sortGo entryLess (data.length - 1) 1 data = sortGo entryLess (data.length - j.1) j.1 j.2) (fun j => data.length - j.1) (1, data) [0, 1, 2, 3, 8] ⟨rfl, Nat.le_refl _, rfl⟩ KR rfl rfl ?_)))))))
 rintro ⟨i, xs⟩ ⟨hxl, hi1, hso⟩
 try dsimp only at hxl hi1 hso
 refine SEQ (XG (UU 3 [(14, B (decide ((i : Int) < b)))] (NI (decide ((i : Int) < b)) (dT fun h1 bh1 => ?_) (dF fun h1 bh1 => ?_))))
 ·
  refine XK (SEQ (BLOCK (XG (UU 2 [(9, I (i : Int))] (XN (BLOCK (LOOP (ι := Nat × (List Entry)) (fun j => [(0, .v (.slice data_a data_n data_c)), (1, I a), (2, I b), (3, .v (.func (.func 267) #[] #[])), (8, I (i : Int)), (9, I (j.1 : Int))]) (fun j => []) (fun j => [slA 159 entryL (.slice data_a data_n data_c) j.2]) (fun j => j.2.length = data.length ∧ j.1 ≤ i ∧ sink entryLess i xs = sink entryLess j.1 j.2) (fun j => j.1) (i, xs) [0, 1, 2, 3, 8, 9] ⟨hxl, Nat.le_refl _, rfl⟩ KR rfl rfl ?_)))))))
  rintro ⟨j, ys⟩ ⟨hyl, hji, hsk⟩
  try dsimp only at hyl hji hsk
  refine SEQ (SEQ (FACT (data_a.isSome = true) (fun w hw => SlO.isS (hw.own 0 rfl) LD) (fun hso2 => (REGIONQ KR KR (QU 4 [(21, B (decide ((j : Int) > a)))] (QSP 21 (decide ((j : Int) > a)) (dT fun h3 bh3 => ?_) (dF fun h3 bh3 => ?_)))))))
  ·
   refine QU 3 [(22, .v (.func (.func 267) #[] #[])), (23, .v (.slice data_a data_n data_c)), (24, I (j : Int))] ?_
   obtain ⟨x4, hx5⟩ : ∃ y, ys[j]? = some y := ⟨_, List.getElem?_eq_getElem LO⟩
   refine QIX 65 (.tmp 23) (.tmp 24) 25 0 data_a data_n data_c .i64 (j : Int) 159 4 hso2 LO LO (QLE 159 (.tmp 25) 26 159 data_a (j * 4) 0 (entryE x4) (.agg (entryE x4).toArray) (fun w hw => (hw.rdO 0 rfl).flat hx5) (QU 3 [(27, .v (.slice data_a data_n data_c)), (29, I (wr ((j : Int) - 1)))] (QCAST (d := 29) (vi (wr ((j : Int) - 1))) (vi ((j - 1 : Nat) : Int)) KR VC ?_)))
   obtain ⟨x6, hx7⟩ : ∃ y, ys[j - 1]? = some y := ⟨_, List.getElem?_eq_getElem LO⟩
   refine QIX 65 (.tmp 27) (.tmp 29) 30 0 data_a data_n data_c .i64 ((j - 1 : Nat) : Int) 159 4 hso2 LO LO (QLE 159 (.tmp 30) 31 159 data_a ((j - 1) * 4) 0 (entryE x6) (.agg (entryE x6).toArray) (fun w hw => (hw.rdO 0 rfl).flat hx7) (QX 32 (fun w hw => pcmpEntry_c w x4 x6) (QU 2 [(34, B (decide ((cmpEntry x4 x6) < 0)))] (QEND rfl (NEXT (IFK (decide ((cmpEntry x4 x6) < 0)) (dT fun h8 bh8 => ?_) (dF fun h8 bh8 => ?_)))))))
   ·
    refine XK (SEQ (BLOCK (REGIONH KR 18 rfl [] (HP [] 0 [(37, .v (.slice data_a data_n data_c))] (HP [] 1 [(38, I (j : Int))] (HP [] 2 [(39, .v (.slice data_a data_n data_c))] (HP [] 3 [(40, I (j : Int))] (HP [] 4 [(41, I (wr ((j : Int) - 1)))] (HCAST (d := 41) (vi (wr ((j : Int) - 1))) (vi ((j - 1 : Nat) : Int)) KR VC (HP [] 5 [(42, .v (.slice data_a data_n data_c))] (HP [] 6 [(43, I (j : Int))] (HP [] 7 [(44, I (wr ((j : Int) - 1)))] (HCAST (d := 44) (vi (wr ((j : Int) - 1))) (vi ((j - 1 : Nat) : Int)) KR VC (HINDEX (i := 8) (js := []) 65 (.tmp 42) (.tmp 44) 45 0 KR (NL rfl) data_a data_n data_c .i64 ((j - 1 : Nat) : Int) 159 4 KR KR KR KR hso2 LO LO KR rfl (HP [] 10 [(47, .v (.slice data_a data_n data_c))] (HP [] 11 [(48, I (j : Int))] (HINDEX (i := 12) (js := []) 65 (.tmp 47) (.tmp 48) 49 0 KR (NL rfl) data_a data_n data_c .i64 (j : Int) 159 4 KR KR KR KR hso2 LO LO KR rfl (HALL [9, 13] KR (by decide) ⟨?_, ?_⟩))))))))))))))))))
    ·
     refine LE 159 (.tmp 45) 46 159 data_a ((j - 1) * 4) 0 (entryE x6) (.agg (entryE x6).toArray) (fun w hw => (hw.rdO 0 rfl).flat hx7) (HK [] [13] (LE 159 (.tmp 49) 50 159 data_a (j * 4) 0 (entryE x4) (.agg (entryE x4).toArray) (fun w hw => (hw.rdO 0 rfl).flat hx5) (HW [] (HINDEX (i := 14) (js := []) 65 (.tmp 37) (.tmp 38) 51 0 KR (NL rfl) data_a data_n data_c .i64 (j : Int) 159 4 KR KR KR KR hso2 LO LO KR rfl (HALL [15] KR (by decide) (STOREF 159 (.tmp 51) (.tmp 46) 0 KR 0 _ 159 data_a data_n data_c j 0 ys rfl x4 x6 hx5 (.agg #[vi x6.level, vi x6.turn, vi x6.id, vi x6.size]) KR KR KR (HW [] (FACT (data_n = (ys.set j x6).length) (fun w hw => (SlO.lenE (hw.own 0 rfl)).1) (fun hln9 => ?_)))))))))
     obtain ⟨x10, hx11⟩ : ∃ y, (ys.set j x6)[j - 1]? = some y := ⟨_, List.getElem?_eq_getElem z1I2⟩
     refine HINDEX (i := 16) (js := []) 65 (.tmp 39) (.tmp 41) 52 0 KR (NL rfl) data_a data_n data_c .i64 ((j - 1 : Nat) : Int) 159 4 KR KR KR KR hso2 LO LO KR rfl (HALL [17] KR (by decide) (STOREF 159 (.tmp 52) (.tmp 50) 0 KR 0 _ 159 data_a data_n data_c (j - 1) 0 (ys.set j x6) rfl x10 x4 hx11 (.agg #[vi x4.level, vi x4.turn, vi x4.id, vi x4.size]) KR KR KR (HW [] (HDz (OUTN (NEXT (RG (UU 2 [(36, I (wr ((j : Int) - 1)))] (CS 36 (vi (wr ((j : Int) - 1))) (vi ((j - 1 : Nat) : Int)) VC (UU 1 [(9, I ((j - 1 : Nat) : Int))] (ENDOPS (BK (j - 1, (ys.set j x6).set (j - 1) x4) [0, 1, 2, 3, 8, 9] 0 [0] ⟨by simp only [List.length_set]; exact hyl, by dsimp only; omega, hsk.trans (sink_step hx5 hx7 LO (by rw [← cmpEntry_lt]; assumption))⟩ z4I2))))))))))))
    refine LE 159 (.tmp 49) 50 159 data_a (j * 4) 0 (entryE x4) (.agg (entryE x4).toArray) (fun w hw => (hw.rdO 0 rfl).flat hx5) (HK [] [9] (LE 159 (.tmp 45) 46 159 data_a ((j - 1) * 4) 0 (entryE x6) (.agg (entryE x6).toArray) (fun w hw => (hw.rdO 0 rfl).flat hx7) (HW [] (HINDEX (i := 14) (js := []) 65 (.tmp 37) (.tmp 38) 51 0 KR (NL rfl) data_a data_n data_c .i64 (j : Int) 159 4 KR KR KR KR hso2 LO LO KR rfl (HALL [15] KR (by decide) (STOREF 159 (.tmp 51) (.tmp 46) 0 KR 0 _ 159 data_a data_n data_c j 0 ys rfl x4 x6 hx5 (.agg #[vi x6.level, vi x6.turn, vi x6.id, vi x6.size]) KR KR KR (HW [] (FACT (data_n = (ys.set j x6).length) (fun w hw => (SlO.lenE (hw.own 0 rfl)).1) (fun hln12 => ?_)))))))))
    obtain ⟨x13, hx14⟩ : ∃ y, (ys.set j x6)[j - 1]? = some y := ⟨_, List.getElem?_eq_getElem z1I2⟩
    refine HINDEX (i := 16) (js := []) 65 (.tmp 39) (.tmp 41) 52 0 KR (NL rfl) data_a data_n data_c .i64 ((j - 1 : Nat) : Int) 159 4 KR KR KR KR hso2 LO LO KR rfl (HALL [17] KR (by decide) (STOREF 159 (.tmp 52) (.tmp 50) 0 KR 0 _ 159 data_a data_n data_c (j - 1) 0 (ys.set j x6) rfl x13 x4 hx14 (.agg #[vi x4.level, vi x4.turn, vi x4.id, vi x4.size]) KR KR KR (HW [] (HDz (OUTN (NEXT (RG (UU 2 [(36, I (wr ((j : Int) - 1)))] (CS 36 (vi (wr ((j : Int) - 1))) (vi ((j - 1 : Nat) : Int)) VC (UU 1 [(9, I ((j - 1 : Nat) : Int))] (ENDOPS (BK (j - 1, (ys.set j x6).set (j - 1) x4) [0, 1, 2, 3, 8, 9] 0 [0] ⟨by simp only [List.length_set]; exact hyl, by dsimp only; omega, hsk.trans (sink_step hx5 hx7 LO (by rw [← cmpEntry_lt]; assumption))⟩ z4I2))))))))))))
   have hend : sink entryLess j ys = ys := sink_stop hx5 hx7 LO (by rw [← cmpEntry_lt]; exact bh8)
   refine EXIT (PASS trivial (PASS trivial (OUT (OUTN (NEXT (RG (UU 2 [(16, I (wr ((i : Int) + 1)))] (CS 16 (vi (wr ((i : Int) + 1))) (vi ((i + 1 : Nat) : Int)) VC (UU 1 [(8, I ((i + 1 : Nat) : Int))] (ENDOPS (BK (i + 1, ys) [0, 1, 2, 3, 8] 0 [0] ⟨by dsimp only; omega, by dsimp only; omega, hso.trans ((sortGo_step LO).trans (by rw [hsk, hend]))⟩ z4I2)))))))))))
  have hend : sink entryLess j ys = ys := by rw [show j = 0 by omega]; rfl
  refine QU 13 [(34, B false)] (QEND rfl (NEXT (IFF KR (EXIT (PASS trivial (PASS trivial (OUT (OUTN (NEXT (RG (UU 2 [(16, I (wr ((i : Int) + 1)))] (CS 16 (vi (wr ((i : Int) + 1))) (vi ((i + 1 : Nat) : Int)) VC (UU 1 [(8, I ((i + 1 : Nat) : Int))] (ENDOPS (BK (i + 1, ys) [0, 1, 2, 3, 8] 0 [0] ⟨by dsimp only; omega, by dsimp only; omega, hso.trans ((sortGo_step LO).trans (by rw [hsk, hend]))⟩ z4I2)))))))))))))))
 refine EXIT (PASS trivial (PASS trivial (OUT (FINN (.tuple #[]) KR () ?_ [0] ?_))))
 · rfl
 (rw [show sortGo entryLess (data.length - 1) 1 data = xs from hso.trans (sortGo_stop LO)]; rfl)
theorem insSortPin_c (W : World) (data : List Pin) (data_a : Option Addr) (data_n data_c : Nat) (a : Int) (b : Int) (ha : a = 0) (hb : b = (data.length : Int)) (hl : data.length ≤ 1048576) : Spec Tryz.prog W [slA 166 pinL (.slice data_a data_n data_c) data] 390 #[.slice data_a data_n data_c, vi a, vi b, .func (.func 301) #[] #[]] (⟨Unit, fun _ => .tuple #[], fun _ => [slA 166 pinL (.slice data_a data_n data_c) (sortGo pinLess ((data).length - 1) 1 data)]⟩) := by
 refine ENTER (N := 53) (vs := [.slice data_a data_n data_c, vi a, vi b, .func (.func 301) #[] #[]]) Tryz.func390 rfl rfl (NL rfl) (fun S0 => ?_)
 refine FACT (data_n = data.length ∧ data.length ≤ 9223372036854775807) (fun w hw => SlO.lenE (hw.own 0 rfl)) (fun hdata_len => (XG (UU 3 [(8, I (wr (a + 1)))] (XN (BLOCK (CS 8 (vi (wr (a + 1))) (vi (1 : Int)) ((by rw [ha]; rfl)) (LOOP (ι := Nat × (List Pin)) (fun j => [(0, .v (.slice data_a data_n data_c)), (1, I a), (2, I b), (3, .v (.func (.func 301) #[] #[])), (8, I (j.1 : Int))]) (fun j => []) (fun j => [slA 166 pinL (.slice data_a data_n data_c) j.2]) (fun j => j.2.length = data.length ∧ 1 ≤ j.1 ∧ sortGo pinLess (data.length - 1) 1 data = sortGo pinLess (data.length - j.1) j.1 j.2) (fun j => data.length - j.1) (1, data) [0, 1, 2, 3, 8] ⟨rfl, Nat.le_refl _, rfl⟩ KR rfl rfl ?_)))))))
 rintro ⟨i, xs⟩ ⟨hxl, hi1, hso⟩
 try dsimp only at hxl hi1 hso
 refine SEQ (XG (UU 3 [(14, B (decide ((i : Int) < b)))] (NI (decide ((i : Int) < b)) (dT fun h1 bh1 => ?_) (dF fun h1 bh1 => ?_))))
 ·
  refine XK (SEQ (BLOCK (XG (UU 2 [(9, I (i : Int))] (XN (BLOCK (LOOP (ι := Nat × (List Pin)) (fun j => [(0, .v (.slice data_a data_n data_c)), (1, I a), (2, I b), (3, .v (.func (.func 301) #[] #[])), (8, I (i : Int)), (9, I (j.1 : Int))]) (fun j => []) (fun j => [slA 166 pinL (.slice data_a data_n data_c) j.2]) (fun j => j.2.length = data.length ∧ j.1 ≤ i ∧ sink pinLess i xs = sink pinLess j.1 j.2) (fun j => j.1) (i, xs) [0, 1, 2, 3, 8, 9] ⟨hxl, Nat.le_refl _, rfl⟩ KR rfl rfl ?_)))))))
  rintro ⟨j, ys⟩ ⟨hyl, hji, hsk⟩
  try dsimp only at hyl hji hsk
  refine SEQ (SEQ (FACT (data_a.isSome = true) (fun w hw => SlO.isS (hw.own 0 rfl) LD) (fun hso2 => (REGIONQ KR KR (QU 4 [(21, B (decide ((j : Int) > a)))] (QSP 21 (decide ((j : Int) > a)) (dT fun h3 bh3 => ?_) (dF fun h3 bh3 => ?_)))))))
  ·
   refine QU 3 [(22, .v (.func (.func 301) #[] #[])), (23, .v (.slice data_a data_n data_c)), (24, I (j : Int))] ?_
   obtain ⟨x4, hx5⟩ : ∃ y, ys[j]? = some y := ⟨_, List.getElem?_eq_getElem LO⟩
   refine QIX 199 (.tmp 23) (.tmp 24) 25 0 data_a data_n data_c .i64 (j : Int) 166 2 hso2 LO LO (QLE 166 (.tmp 25) 26 166 data_a (j * 2) 0 (pinE x4) (.agg (pinE x4).toArray) (fun w hw => (hw.rdO 0 rfl).flat hx5) (QU 3 [(27, .v (.slice data_a data_n data_c)), (29, I (wr ((j : Int) - 1)))] (QCAST (d := 29) (vi (wr ((j : Int) - 1))) (vi ((j - 1 : Nat) : Int)) KR VC ?_)))
   obtain ⟨x6, hx7⟩ : ∃ y, ys[j - 1]? = some y := ⟨_, List.getElem?_eq_getElem LO⟩
   refine QIX 199 (.tmp 27) (.tmp 29) 30 0 data_a data_n data_c .i64 ((j - 1 : Nat) : Int) 166 2 hso2 LO LO (QLE 166 (.tmp 30) 31 166 data_a ((j - 1) * 2) 0 (pinE x6) (.agg (pinE x6).toArray) (fun w hw => (hw.rdO 0 rfl).flat hx7) (QX 32 (fun w hw => pcmpPin_c w x4 x6) (QU 2 [(34, B (decide ((cmpPin x4 x6) < 0)))] (QEND rfl (NEXT (IFK (decide ((cmpPin x4 x6) < 0)) (dT fun h8 bh8 => ?_) (dF fun h8 bh8 => ?_)))))))
   ·
    refine XK (SEQ (BLOCK (REGIONH KR 18 rfl [] (HP [] 0 [(37, .v (.slice data_a data_n data_c))] (HP [] 1 [(38, I (j : Int))] (HP [] 2 [(39, .v (.slice data_a data_n data_c))] (HP [] 3 [(40, I (j : Int))] (HP [] 4 [(41, I (wr ((j : Int) - 1)))] (HCAST (d := 41) (vi (wr ((j : Int) - 1))) (vi ((j - 1 : Nat) : Int)) KR VC (HP [] 5 [(42, .v (.slice data_a data_n data_c))] (HP [] 6 [(43, I (j : Int))] (HP [] 7 [(44, I (wr ((j : Int) - 1)))] (HCAST (d := 44) (vi (wr ((j : Int) - 1))) (vi ((j - 1 : Nat) : Int)) KR VC (HINDEX (i := 8) (js := []) 199 (.tmp 42) (.tmp 44) 45 0 KR (NL rfl) data_a data_n data_c .i64 ((j - 1 : Nat) : Int) 166 2 KR KR KR KR hso2 LO LO KR rfl (HP [] 10 [(47, .v (.slice data_a data_n data_c))] (HP [] 11 [(48, I (j : Int))] (HINDEX (i := 12) (js := []) 199 (.tmp 47) (.tmp 48) 49 0 KR (NL rfl) data_a data_n data_c .i64 (j : Int) 166 2 KR KR KR KR hso2 LO LO KR rfl (HALL [9, 13] KR (by decide) ⟨?_, ?_⟩))))))))))))))))))
    ·
     refine LE 166 (.tmp 45) 46 166 data_a ((j - 1) * 2) 0 (pinE x6) (.agg (pinE x6).toArray) (fun w hw => (hw.rdO 0 rfl).flat hx7) (HK [] [13] (LE 166 (.tmp 49) 50 166 data_a (j * 2) 0 (pinE x4) (.agg (pinE x4).toArray) (fun w hw => (hw.rdO 0 rfl).flat hx5) (HW [] (HINDEX (i := 14) (js := []) 199 (.tmp 37) (.tmp 38) 51 0 KR (NL rfl) data_a data_n data_c .i64 (j : Int) 166 2 KR KR KR KR hso2 LO LO KR rfl (HALL [15] KR (by decide) (STOREF 166 (.tmp 51) (.tmp 46) 0 KR 0 _ 166 data_a data_n data_c j 0 ys rfl x4 x6 hx5 (.agg #[vi x6.at', vi x6.id]) KR KR KR (HW [] (FACT (data_n = (ys.set j x6).length) (fun w hw => (SlO.lenE (hw.own 0 rfl)).1) (fun hln9 => ?_)))))))))
     obtain ⟨x10, hx11⟩ : ∃ y, (ys.set j x6)[j - 1]? = some y := ⟨_, List.getElem?_eq_getElem z1I2⟩
     refine HINDEX (i := 16) (js := []) 199 (.tmp 39) (.tmp 41) 52 0 KR (NL rfl) data_a data_n data_c .i64 ((j - 1 : Nat) : Int) 166 2 KR KR KR KR hso2 LO LO KR rfl (HALL [17] KR (by decide) (STOREF 166 (.tmp 52) (.tmp 50) 0 KR 0 _ 166 data_a data_n data_c (j - 1) 0 (ys.set j x6) rfl x10 x4 hx11 (.agg #[vi x4.at', vi x4.id]) KR KR KR (HW [] (HDz (OUTN (NEXT (RG (UU 2 [(36, I (wr ((j : Int) - 1)))] (CS 36 (vi (wr ((j : Int) - 1))) (vi ((j - 1 : Nat) : Int)) VC (UU 1 [(9, I ((j - 1 : Nat) : Int))] (ENDOPS (BK (j - 1, (ys.set j x6).set (j - 1) x4) [0, 1, 2, 3, 8, 9] 0 [0] ⟨by simp only [List.length_set]; exact hyl, by dsimp only; omega, hsk.trans (sink_step hx5 hx7 LO (by rw [← cmpPin_lt]; assumption))⟩ z4I2))))))))))))
    refine LE 166 (.tmp 49) 50 166 data_a (j * 2) 0 (pinE x4) (.agg (pinE x4).toArray) (fun w hw => (hw.rdO 0 rfl).flat hx5) (HK [] [9] (LE 166 (.tmp 45) 46 166 data_a ((j - 1) * 2) 0 (pinE x6) (.agg (pinE x6).toArray) (fun w hw => (hw.rdO 0 rfl).flat hx7) (HW [] (HINDEX (i := 14) (js := []) 199 (.tmp 37) (.tmp 38) 51 0 KR (NL rfl) data_a data_n data_c .i64 (j : Int) 166 2 KR KR KR KR hso2 LO LO KR rfl (HALL [15] KR (by decide) (STOREF 166 (.tmp 51) (.tmp 46) 0 KR 0 _ 166 data_a data_n data_c j 0 ys rfl x4 x6 hx5 (.agg #[vi x6.at', vi x6.id]) KR KR KR (HW [] (FACT (data_n = (ys.set j x6).length) (fun w hw => (SlO.lenE (hw.own 0 rfl)).1) (fun hln12 => ?_)))))))))
    obtain ⟨x13, hx14⟩ : ∃ y, (ys.set j x6)[j - 1]? = some y := ⟨_, List.getElem?_eq_getElem z1I2⟩
    refine HINDEX (i := 16) (js := []) 199 (.tmp 39) (.tmp 41) 52 0 KR (NL rfl) data_a data_n data_c .i64 ((j - 1 : Nat) : Int) 166 2 KR KR KR KR hso2 LO LO KR rfl (HALL [17] KR (by decide) (STOREF 166 (.tmp 52) (.tmp 50) 0 KR 0 _ 166 data_a data_n data_c (j - 1) 0 (ys.set j x6) rfl x13 x4 hx14 (.agg #[vi x4.at', vi x4.id]) KR KR KR (HW [] (HDz (OUTN (NEXT (RG (UU 2 [(36, I (wr ((j : Int) - 1)))] (CS 36 (vi (wr ((j : Int) - 1))) (vi ((j - 1 : Nat) : Int)) VC (UU 1 [(9, I ((j - 1 : Nat) : Int))] (ENDOPS (BK (j - 1, (ys.set j x6).set (j - 1) x4) [0, 1, 2, 3, 8, 9] 0 [0] ⟨by simp only [List.length_set]; exact hyl, by dsimp only; omega, hsk.trans (sink_step hx5 hx7 LO (by rw [← cmpPin_lt]; assumption))⟩ z4I2))))))))))))
   have hend : sink pinLess j ys = ys := sink_stop hx5 hx7 LO (by rw [← cmpPin_lt]; exact bh8)
   refine EXIT (PASS trivial (PASS trivial (OUT (OUTN (NEXT (RG (UU 2 [(16, I (wr ((i : Int) + 1)))] (CS 16 (vi (wr ((i : Int) + 1))) (vi ((i + 1 : Nat) : Int)) VC (UU 1 [(8, I ((i + 1 : Nat) : Int))] (ENDOPS (BK (i + 1, ys) [0, 1, 2, 3, 8] 0 [0] ⟨by dsimp only; omega, by dsimp only; omega, hso.trans ((sortGo_step LO).trans (by rw [hsk, hend]))⟩ z4I2)))))))))))
  have hend : sink pinLess j ys = ys := by rw [show j = 0 by omega]; rfl
  refine QU 13 [(34, B false)] (QEND rfl (NEXT (IFF KR (EXIT (PASS trivial (PASS trivial (OUT (OUTN (NEXT (RG (UU 2 [(16, I (wr ((i : Int) + 1)))] (CS 16 (vi (wr ((i : Int) + 1))) (vi ((i + 1 : Nat) : Int)) VC (UU 1 [(8, I ((i + 1 : Nat) : Int))] (ENDOPS (BK (i + 1, ys) [0, 1, 2, 3, 8] 0 [0] ⟨by dsimp only; omega, by dsimp only; omega, hso.trans ((sortGo_step LO).trans (by rw [hsk, hend]))⟩ z4I2)))))))))))))))
 refine EXIT (PASS trivial (PASS trivial (OUT (FINN (.tuple #[]) KR () ?_ [0] ?_))))
 · rfl
 (rw [show sortGo pinLess (data.length - 1) 1 data = xs from hso.trans (sortGo_stop LO)]; rfl)
theorem stableSortEntry_c (W : World) (data : List Entry) (data_a : Option Addr) (data_n data_c : Nat) (n : Int) (hn : n = (data.length : Int)) (hl : data.length ≤ 12) : Spec Tryz.prog W [slA 159 entryL (.slice data_a data_n data_c) data] 340 #[.slice data_a data_n data_c, vi n, .func (.func 267) #[] #[]] (⟨Unit, fun _ => .tuple #[], fun _ => [slA 159 entryL (.slice data_a data_n data_c) (sortGo entryLess ((data).length - 1) 1 data)]⟩) := by
 refine ENTER (N := 63) (vs := [.slice data_a data_n data_c, vi n, .func (.func 267) #[] #[]]) Tryz.func340 rfl rfl (NL rfl) (fun S0 => ?_)
 refine FACT (data_n = data.length ∧ data.length ≤ 9223372036854775807) (fun w hw => SlO.lenE (hw.own 0 rfl)) (fun hdata_len => (XG (UU 1 [(6, I 20)] (NR (UU 3 [(7, I 0), (8, I 20)] (XN (SEQ (BLOCK (LOOP (ι := Unit) (fun j => [(0, .v (.slice data_a data_n data_c)), (1, I n), (2, .v (.func (.func 267) #[] #[])), (6, I 20), (7, I 0), (8, I 20)]) (fun j => []) (fun j => [slA 159 entryL (.slice data_a data_n data_c) data]) (fun j => True) (fun j => 0) (()) [0, 1, 2, 6, 7, 8] trivial KR rfl rfl ?_)))))))))
 rintro u hu
 try dsimp only at hu
 refine SEQ (XG (UU 3 [(13, B (decide (20 ≤ n)))] (NI (decide (20 ≤ n)) (fun bh1 => ?_) (fun bh1 => ?_))))
 · have bh1 := of_decide_eq_true bh1; exfalso; omega
 have h1 := of_decide_eq_false bh1
 refine EXIT (PASS trivial (PASS trivial (OUT (NEXT (XG (UU 4 [(23, .v (.slice data_a data_n data_c)), (24, I 0), (25, I n), (26, .v (.func (.func 267) #[] #[]))] (FACT (data_n = data.length) (fun w hw => (SlO.lenE (hw.own 0 rfl)).1) (fun hln2 => (OPC (CY 27 [0] (fun w hw => insSortEntry_c w data data_a data_n data_c 0 n z2I2 z3I2 LO) rfl ?_))))))))))
 rintro ⟨⟩
 refine XN (BLOCK (LOOP (ι := Unit) (fun j => [(0, .v (.slice data_a data_n data_c)), (1, I n), (2, .v (.func (.func 267) #[] #[])), (6, I 20)]) (fun j => []) (fun j => [slA 159 entryL (.slice data_a data_n data_c) (sortGo entryLess ((data).length - 1) 1 data)]) (fun j => True) (fun j => 0) (()) [0, 1, 2, 6] trivial KR rfl rfl ?_))
 rintro u hu
 try dsimp only at hu
 refine SEQ (XG (UU 3 [(30, B (decide (20 < n)))] (NI (decide (20 < n)) (fun bh3 => ?_) (fun bh3 => ?_))))
 · have bh3 := of_decide_eq_true bh3; exfalso; omega
 have h3 := of_decide_eq_false bh3
 refine EXIT (PASS trivial (PASS trivial (OUT (FINN (.tuple #[]) KR () ?_ [0] ?_))))
 · rfl
 rfl
theorem stableSortPin_c (W : World) (data : List Pin) (data_a : Option Addr) (data_n data_c : Nat) (n : Int) (hn : n = (data.length : Int)) (hl : data.length ≤ 12) : Spec Tryz.prog W [slA 166 pinL (.slice data_a data_n data_c) data] 380 #[.slice data_a data_n data_c, vi n, .func (.func 301) #[] #[]] (⟨Unit, fun _ => .tuple #[], fun _ => [slA 166 pinL (.slice data_a data_n data_c) (sortGo pinLess ((data).length - 1) 1 data)]⟩) := by
 refine ENTER (N := 63) (vs := [.slice data_a data_n data_c, vi n, .func (.func 301) #[] #[]]) Tryz.func380 rfl rfl (NL rfl) (fun S0 => ?_)
 refine FACT (data_n = data.length ∧ data.length ≤ 9223372036854775807) (fun w hw => SlO.lenE (hw.own 0 rfl)) (fun hdata_len => (XG (UU 1 [(6, I 20)] (NR (UU 3 [(7, I 0), (8, I 20)] (XN (SEQ (BLOCK (LOOP (ι := Unit) (fun j => [(0, .v (.slice data_a data_n data_c)), (1, I n), (2, .v (.func (.func 301) #[] #[])), (6, I 20), (7, I 0), (8, I 20)]) (fun j => []) (fun j => [slA 166 pinL (.slice data_a data_n data_c) data]) (fun j => True) (fun j => 0) (()) [0, 1, 2, 6, 7, 8] trivial KR rfl rfl ?_)))))))))
 rintro u hu
 try dsimp only at hu
 refine SEQ (XG (UU 3 [(13, B (decide (20 ≤ n)))] (NI (decide (20 ≤ n)) (fun bh1 => ?_) (fun bh1 => ?_))))
 · have bh1 := of_decide_eq_true bh1; exfalso; omega
 have h1 := of_decide_eq_false bh1
 refine EXIT (PASS trivial (PASS trivial (OUT (NEXT (XG (UU 4 [(23, .v (.slice data_a data_n data_c)), (24, I 0), (25, I n), (26, .v (.func (.func 301) #[] #[]))] (FACT (data_n = data.length) (fun w hw => (SlO.lenE (hw.own 0 rfl)).1) (fun hln2 => (OPC (CY 27 [0] (fun w hw => insSortPin_c w data data_a data_n data_c 0 n z2I2 z3I2 LO) rfl ?_))))))))))
 rintro ⟨⟩
 refine XN (BLOCK (LOOP (ι := Unit) (fun j => [(0, .v (.slice data_a data_n data_c)), (1, I n), (2, .v (.func (.func 301) #[] #[])), (6, I 20)]) (fun j => []) (fun j => [slA 166 pinL (.slice data_a data_n data_c) (sortGo pinLess ((data).length - 1) 1 data)]) (fun j => True) (fun j => 0) (()) [0, 1, 2, 6] trivial KR rfl rfl ?_))
 rintro u hu
 try dsimp only at hu
 refine SEQ (XG (UU 3 [(30, B (decide (20 < n)))] (NI (decide (20 < n)) (fun bh3 => ?_) (fun bh3 => ?_))))
 · have bh3 := of_decide_eq_true bh3; exfalso; omega
 have h3 := of_decide_eq_false bh3
 refine EXIT (PASS trivial (PASS trivial (OUT (FINN (.tuple #[]) KR () ?_ [0] ?_))))
 · rfl
 rfl
theorem sortStableEntry_c (W : World) (data : List Entry) (data_a : Option Addr) (data_n data_c : Nat) (hl : data.length ≤ 12) : Spec Tryz.prog W [slA 159 entryL (.slice data_a data_n data_c) data] 266 #[.slice data_a data_n data_c, .func (.func 267) #[] #[]] (⟨Unit, fun _ => .tuple #[], fun _ => [slA 159 entryL (.slice data_a data_n data_c) (sortGo entryLess ((data).length - 1) 1 data)]⟩) := by
 refine ENTER (N := 9) (vs := [.slice data_a data_n data_c, .func (.func 267) #[] #[]]) Tryz.func266 rfl rfl (NL rfl) (fun S0 => ?_)
 refine FACT (data_n = data.length ∧ data.length ≤ 9223372036854775807) (fun w hw => SlO.lenE (hw.own 0 rfl)) (fun hdata_len => (RG (UU 4 [(4, .v (.slice data_a data_n data_c)), (6, I (data_n : Int)), (7, .v (.func (.func 267) #[] #[]))] (FACT (data_n = data.length) (fun w hw => (SlO.lenE (hw.own 0 rfl)).1) (fun hln1 => (OPC (CY 8 [0] (fun w hw => stableSortEntry_c w data data_a data_n data_c (data_n : Int) z2I2 z3I2) rfl ?_)))))))
 rintro ⟨⟩
 refine ENDOPS (FINN (.tuple #[]) KR () ?_ [0] ?_)
 · rfl
 rfl
theorem sortStablePin_c (W : World) (data : List Pin) (data_a : Option Addr) (data_n data_c : Nat) (hl : data.length ≤ 12) : Spec Tryz.prog W [slA 166 pinL (.slice data_a data_n data_c) data] 350 #[.slice data_a data_n data_c, .func (.func 301) #[] #[]] (⟨Unit, fun _ => .tuple #[], fun _ => [slA 166 pinL (.slice data_a data_n data_c) (sortGo pinLess ((data).length - 1) 1 data)]⟩) := by
 refine ENTER (N := 9) (vs := [.slice data_a data_n data_c, .func (.func 301) #[] #[]]) Tryz.func350 rfl rfl (NL rfl) (fun S0 => ?_)
 refine FACT (data_n = data.length ∧ data.length ≤ 9223372036854775807) (fun w hw => SlO.lenE (hw.own 0 rfl)) (fun hdata_len => (RG (UU 4 [(4, .v (.slice data_a data_n data_c)), (6, I (data_n : Int)), (7, .v (.func (.func 301) #[] #[]))] (FACT (data_n = data.length) (fun w hw => (SlO.lenE (hw.own 0 rfl)).1) (fun hln1 => (OPC (CY 8 [0] (fun w hw => stableSortPin_c w data data_a data_n data_c (data_n : Int) z2I2 z3I2) rfl ?_)))))))
 rintro ⟨⟩
 refine ENDOPS (FINN (.tuple #[]) KR () ?_ [0] ?_)
 · rfl
 rfl
theorem len64_c (W : World) (x : Int) : Spec Tryz.prog W [] 339 #[.int .u64 x] (⟨{x : Int // True}, fun q => vi q.1, fun q => []⟩) := by
 refine ENTER0 (N := 25) (vs := [.int .u64 x]) Tryz.func339 rfl rfl (NL rfl) ?_
 have h8 := len8_len
 refine XG (UU 1 [(2, I 0)] (XN (SEQ (XG (UU 2 [(4, B (decide (x ≥ 4294967296)))] (NI (decide (x ≥ 4294967296)) (dT fun h1 bh1 => ?_) (dF fun h1 bh1 => ?_)))))))
 ·
  refine XG (UU 3 [(0, .v (.int .u64 (Int.fdiv x (2 ^ 32))))] (XN (RG (UU 1 [(2, I 32)] (XN (SEQ (XG (UU 2 [(8, B (decide ((Int.fdiv x (2 ^ 32)) ≥ 65536)))] (NI (decide ((Int.fdiv x (2 ^ 32)) ≥ 65536)) (dT fun h2 bh2 => ?_) (dF fun h2 bh2 => ?_))))))))))
  ·
   refine XG (UU 3 [(0, .v (.int .u64 (Int.fdiv (Int.fdiv x (2 ^ 32)) (2 ^ 16))))] (XN (RG (UU 3 [(2, I (wr (32 + 16)))] (XN (SEQ (XG (UU 2 [(14, B (decide ((Int.fdiv (Int.fdiv x (2 ^ 32)) (2 ^ 16)) ≥ 256)))] (NI (decide ((Int.fdiv (Int.fdiv x (2 ^ 32)) (2 ^ 16)) ≥ 256)) (dT fun h3 bh3 => ?_) (dF fun h3 bh3 => ?_))))))))))
   ·
    refine XG (UU 3 [(0, .v (.int .u64 (Int.fdiv (Int.fdiv (Int.fdiv x (2 ^ 32)) (2 ^ 16)) (2 ^ 8))))] (XN (RG (UU 3 [(2, I (wr ((wr (32 + 16)) + 8)))] (NR (UU 3 [(19, I (wr ((wr (32 + 16)) + 8))), (21, .v (.int .u8 (IntKind.wrap .u8 (Int.fdiv (Int.fdiv (Int.fdiv x (2 ^ 32)) (2 ^ 16)) (2 ^ 8)))))] (CS 21 (.int .u8 (IntKind.wrap .u8 (Int.fdiv (Int.fdiv (Int.fdiv x (2 ^ 32)) (2 ^ 16)) (2 ^ 8)))) (.int .u8 (((byteOf (Int.fdiv (Int.fdiv (Int.fdiv x (2 ^ 32)) (2 ^ 16)) (2 ^ 8))).toNat : Nat) : Int)) (v8 (Int.fdiv (Int.fdiv (Int.fdiv x (2 ^ 32)) (2 ^ 16)) (2 ^ 8))) ?_)))))))
    have := UInt8.toNat_lt (byteOf (Int.fdiv (Int.fdiv (Int.fdiv x (2 ^ 32)) (2 ^ 16)) (2 ^ 8)))
    obtain ⟨x4, hx5⟩ : ∃ y, len8tab[(byteOf (Int.fdiv (Int.fdiv (Int.fdiv x (2 ^ 32)) (2 ^ 16)) (2 ^ 8))).toNat]? = some y := ⟨_, List.getElem?_eq_getElem LQ⟩
    refine OPC (RUNV (.index 9 (.const (.string (bs len8tab))) (.tmp 21)) 22 5 KR (NL rfl) (.int .u8 (x4.toNat : Int)) (runs_sidx (s := len8tab) (kd := .u8) (z := (((byteOf (Int.fdiv (Int.fdiv (Int.fdiv x (2 ^ 32)) (2 ^ 16)) (2 ^ 8))).toNat : Nat) : Int)) (k := (byteOf (Int.fdiv (Int.fdiv (Int.fdiv x (2 ^ 32)) (2 ^ 16)) (2 ^ 8))).toNat) KR KR KR LO rfl hx5) (UU 1 [(23, I (IntKind.wrap .i64 (x4.toNat : Int)))] (CS 23 (vi (IntKind.wrap .i64 (x4.toNat : Int))) (vi (x4.toNat : Int)) (vi_u8 x4) (UU 2 [(2, I (wr ((wr ((wr (32 + 16)) + 8)) + (x4.toNat : Int))))] (XF rfl (vi (wr ((wr ((wr (32 + 16)) + 8)) + (x4.toNat : Int)))) ⟨wr ((wr ((wr (32 + 16)) + 8)) + (x4.toNat : Int)), trivial⟩ [] rfl)))))
   refine XK (XG (UU 3 [(19, I (wr (32 + 16))), (21, .v (.int .u8 (IntKind.wrap .u8 (Int.fdiv (Int.fdiv x (2 ^ 32)) (2 ^ 16)))))] (CS 21 (.int .u8 (IntKind.wrap .u8 (Int.fdiv (Int.fdiv x (2 ^ 32)) (2 ^ 16)))) (.int .u8 (((byteOf (Int.fdiv (Int.fdiv x (2 ^ 32)) (2 ^ 16))).toNat : Nat) : Int)) (v8 (Int.fdiv (Int.fdiv x (2 ^ 32)) (2 ^ 16))) ?_)))
   have := UInt8.toNat_lt (byteOf (Int.fdiv (Int.fdiv x (2 ^ 32)) (2 ^ 16)))
   obtain ⟨x6, hx7⟩ : ∃ y, len8tab[(byteOf (Int.fdiv (Int.fdiv x (2 ^ 32)) (2 ^ 16))).toNat]? = some y := ⟨_, List.getElem?_eq_getElem LQ⟩
   refine OPC (RUNV (.index 9 (.const (.string (bs len8tab))) (.tmp 21)) 22 5 KR (NL rfl) (.int .u8 (x6.toNat : Int)) (runs_sidx (s := len8tab) (kd := .u8) (z := (((byteOf (Int.fdiv (Int.fdiv x (2 ^ 32)) (2 ^ 16))).toNat : Nat) : Int)) (k := (byteOf (Int.fdiv (Int.fdiv x (2 ^ 32)) (2 ^ 16))).toNat) KR KR KR LO rfl hx7) (UU 1 [(23, I (IntKind.wrap .i64 (x6.toNat : Int)))] (CS 23 (vi (IntKind.wrap .i64 (x6.toNat : Int))) (vi (x6.toNat : Int)) (vi_u8 x6) (UU 2 [(2, I (wr ((wr (32 + 16)) + (x6.toNat : Int))))] (XF rfl (vi (wr ((wr (32 + 16)) + (x6.toNat : Int)))) ⟨wr ((wr (32 + 16)) + (x6.toNat : Int)), trivial⟩ [] rfl)))))
  refine XK (SEQ (XG (UU 2 [(14, B (decide ((Int.fdiv x (2 ^ 32)) ≥ 256)))] (NI (decide ((Int.fdiv x (2 ^ 32)) ≥ 256)) (dT fun h8 bh8 => ?_) (dF fun h8 bh8 => ?_)))))
  ·
   refine XG (UU 3 [(0, .v (.int .u64 (Int.fdiv (Int.fdiv x (2 ^ 32)) (2 ^ 8))))] (XN (RG (UU 3 [(2, I (wr (32 + 8)))] (NR (UU 3 [(19, I (wr (32 + 8))), (21, .v (.int .u8 (IntKind.wrap .u8 (Int.fdiv (Int.fdiv x (2 ^ 32)) (2 ^ 8)))))] (CS 21 (.int .u8 (IntKind.wrap .u8 (Int.fdiv (Int.fdiv x (2 ^ 32)) (2 ^ 8)))) (.int .u8 (((byteOf (Int.fdiv (Int.fdiv x (2 ^ 32)) (2 ^ 8))).toNat : Nat) : Int)) (v8 (Int.fdiv (Int.fdiv x (2 ^ 32)) (2 ^ 8))) ?_)))))))
   have := UInt8.toNat_lt (byteOf (Int.fdiv (Int.fdiv x (2 ^ 32)) (2 ^ 8)))
   obtain ⟨x9, hx10⟩ : ∃ y, len8tab[(byteOf (Int.fdiv (Int.fdiv x (2 ^ 32)) (2 ^ 8))).toNat]? = some y := ⟨_, List.getElem?_eq_getElem LQ⟩
   refine OPC (RUNV (.index 9 (.const (.string (bs len8tab))) (.tmp 21)) 22 5 KR (NL rfl) (.int .u8 (x9.toNat : Int)) (runs_sidx (s := len8tab) (kd := .u8) (z := (((byteOf (Int.fdiv (Int.fdiv x (2 ^ 32)) (2 ^ 8))).toNat : Nat) : Int)) (k := (byteOf (Int.fdiv (Int.fdiv x (2 ^ 32)) (2 ^ 8))).toNat) KR KR KR LO rfl hx10) (UU 1 [(23, I (IntKind.wrap .i64 (x9.toNat : Int)))] (CS 23 (vi (IntKind.wrap .i64 (x9.toNat : Int))) (vi (x9.toNat : Int)) (vi_u8 x9) (UU 2 [(2, I (wr ((wr (32 + 8)) + (x9.toNat : Int))))] (XF rfl (vi (wr ((wr (32 + 8)) + (x9.toNat : Int)))) ⟨wr ((wr (32 + 8)) + (x9.toNat : Int)), trivial⟩ [] rfl)))))
  refine XK (XG (UU 3 [(19, I 32), (21, .v (.int .u8 (IntKind.wrap .u8 (Int.fdiv x (2 ^ 32)))))] (CS 21 (.int .u8 (IntKind.wrap .u8 (Int.fdiv x (2 ^ 32)))) (.int .u8 (((byteOf (Int.fdiv x (2 ^ 32))).toNat : Nat) : Int)) (v8 (Int.fdiv x (2 ^ 32))) ?_)))
  have := UInt8.toNat_lt (byteOf (Int.fdiv x (2 ^ 32)))
  obtain ⟨x11, hx12⟩ : ∃ y, len8tab[(byteOf (Int.fdiv x (2 ^ 32))).toNat]? = some y := ⟨_, List.getElem?_eq_getElem LQ⟩
  refine OPC (RUNV (.index 9 (.const (.string (bs len8tab))) (.tmp 21)) 22 5 KR (NL rfl) (.int .u8 (x11.toNat : Int)) (runs_sidx (s := len8tab) (kd := .u8) (z := (((byteOf (Int.fdiv x (2 ^ 32))).toNat : Nat) : Int)) (k := (byteOf (Int.fdiv x (2 ^ 32))).toNat) KR KR KR LO rfl hx12) (UU 1 [(23, I (IntKind.wrap .i64 (x11.toNat : Int)))] (CS 23 (vi (IntKind.wrap .i64 (x11.toNat : Int))) (vi (x11.toNat : Int)) (vi_u8 x11) (UU 2 [(2, I (wr (32 + (x11.toNat : Int))))] (XF rfl (vi (wr (32 + (x11.toNat : Int)))) ⟨wr (32 + (x11.toNat : Int)), trivial⟩ [] rfl)))))
 refine XK (SEQ (XG (UU 2 [(8, B (decide (x ≥ 65536)))] (NI (decide (x ≥ 65536)) (dT fun h13 bh13 => ?_) (dF fun h13 bh13 => ?_)))))
 ·
  refine XG (UU 3 [(0, .v (.int .u64 (Int.fdiv x (2 ^ 16))))] (XN (RG (UU 3 [(2, I (wr (0 + 16)))] (XN (SEQ (XG (UU 2 [(14, B (decide ((Int.fdiv x (2 ^ 16)) ≥ 256)))] (NI (decide ((Int.fdiv x (2 ^ 16)) ≥ 256)) (dT fun h14 bh14 => ?_) (dF fun h14 bh14 => ?_))))))))))
  ·
   refine XG (UU 3 [(0, .v (.int .u64 (Int.fdiv (Int.fdiv x (2 ^ 16)) (2 ^ 8))))] (XN (RG (UU 3 [(2, I (wr ((wr (0 + 16)) + 8)))] (NR (UU 3 [(19, I (wr ((wr (0 + 16)) + 8))), (21, .v (.int .u8 (IntKind.wrap .u8 (Int.fdiv (Int.fdiv x (2 ^ 16)) (2 ^ 8)))))] (CS 21 (.int .u8 (IntKind.wrap .u8 (Int.fdiv (Int.fdiv x (2 ^ 16)) (2 ^ 8)))) (.int .u8 (((byteOf (Int.fdiv (Int.fdiv x (2 ^ 16)) (2 ^ 8))).toNat : Nat) : Int)) (v8 (Int.fdiv (Int.fdiv x (2 ^ 16)) (2 ^ 8))) ?_)))))))
   have := UInt8.toNat_lt (byteOf (Int.fdiv (Int.fdiv x (2 ^ 16)) (2 ^ 8)))
   obtain ⟨x15, hx16⟩ : ∃ y, len8tab[(byteOf (Int.fdiv (Int.fdiv x (2 ^ 16)) (2 ^ 8))).toNat]? = some y := ⟨_, List.getElem?_eq_getElem LQ⟩
   refine OPC (RUNV (.index 9 (.const (.string (bs len8tab))) (.tmp 21)) 22 5 KR (NL rfl) (.int .u8 (x15.toNat : Int)) (runs_sidx (s := len8tab) (kd := .u8) (z := (((byteOf (Int.fdiv (Int.fdiv x (2 ^ 16)) (2 ^ 8))).toNat : Nat) : Int)) (k := (byteOf (Int.fdiv (Int.fdiv x (2 ^ 16)) (2 ^ 8))).toNat) KR KR KR LO rfl hx16) (UU 1 [(23, I (IntKind.wrap .i64 (x15.toNat : Int)))] (CS 23 (vi (IntKind.wrap .i64 (x15.toNat : Int))) (vi (x15.toNat : Int)) (vi_u8 x15) (UU 2 [(2, I (wr ((wr ((wr (0 + 16)) + 8)) + (x15.toNat : Int))))] (XF rfl (vi (wr ((wr ((wr (0 + 16)) + 8)) + (x15.toNat : Int)))) ⟨wr ((wr ((wr (0 + 16)) + 8)) + (x15.toNat : Int)), trivial⟩ [] rfl)))))
  refine XK (XG (UU 3 [(19, I (wr (0 + 16))), (21, .v (.int .u8 (IntKind.wrap .u8 (Int.fdiv x (2 ^ 16)))))] (CS 21 (.int .u8 (IntKind.wrap .u8 (Int.fdiv x (2 ^ 16)))) (.int .u8 (((byteOf (Int.fdiv x (2 ^ 16))).toNat : Nat) : Int)) (v8 (Int.fdiv x (2 ^ 16))) ?_)))
  have := UInt8.toNat_lt (byteOf (Int.fdiv x (2 ^ 16)))
  obtain ⟨x17, hx18⟩ : ∃ y, len8tab[(byteOf (Int.fdiv x (2 ^ 16))).toNat]? = some y := ⟨_, List.getElem?_eq_getElem LQ⟩
  refine OPC (RUNV (.index 9 (.const (.string (bs len8tab))) (.tmp 21)) 22 5 KR (NL rfl) (.int .u8 (x17.toNat : Int)) (runs_sidx (s := len8tab) (kd := .u8) (z := (((byteOf (Int.fdiv x (2 ^ 16))).toNat : Nat) : Int)) (k := (byteOf (Int.fdiv x (2 ^ 16))).toNat) KR KR KR LO rfl hx18) (UU 1 [(23, I (IntKind.wrap .i64 (x17.toNat : Int)))] (CS 23 (vi (IntKind.wrap .i64 (x17.toNat : Int))) (vi (x17.toNat : Int)) (vi_u8 x17) (UU 2 [(2, I (wr ((wr (0 + 16)) + (x17.toNat : Int))))] (XF rfl (vi (wr ((wr (0 + 16)) + (x17.toNat : Int)))) ⟨wr ((wr (0 + 16)) + (x17.toNat : Int)), trivial⟩ [] rfl)))))
 refine XK (SEQ (XG (UU 2 [(14, B (decide (x ≥ 256)))] (NI (decide (x ≥ 256)) (dT fun h19 bh19 => ?_) (dF fun h19 bh19 => ?_)))))
 ·
  refine XG (UU 3 [(0, .v (.int .u64 (Int.fdiv x (2 ^ 8))))] (XN (RG (UU 3 [(2, I (wr (0 + 8)))] (NR (UU 3 [(19, I (wr (0 + 8))), (21, .v (.int .u8 (IntKind.wrap .u8 (Int.fdiv x (2 ^ 8)))))] (CS 21 (.int .u8 (IntKind.wrap .u8 (Int.fdiv x (2 ^ 8)))) (.int .u8 (((byteOf (Int.fdiv x (2 ^ 8))).toNat : Nat) : Int)) (v8 (Int.fdiv x (2 ^ 8))) ?_)))))))
  have := UInt8.toNat_lt (byteOf (Int.fdiv x (2 ^ 8)))
  obtain ⟨x20, hx21⟩ : ∃ y, len8tab[(byteOf (Int.fdiv x (2 ^ 8))).toNat]? = some y := ⟨_, List.getElem?_eq_getElem LQ⟩
  refine OPC (RUNV (.index 9 (.const (.string (bs len8tab))) (.tmp 21)) 22 5 KR (NL rfl) (.int .u8 (x20.toNat : Int)) (runs_sidx (s := len8tab) (kd := .u8) (z := (((byteOf (Int.fdiv x (2 ^ 8))).toNat : Nat) : Int)) (k := (byteOf (Int.fdiv x (2 ^ 8))).toNat) KR KR KR LO rfl hx21) (UU 1 [(23, I (IntKind.wrap .i64 (x20.toNat : Int)))] (CS 23 (vi (IntKind.wrap .i64 (x20.toNat : Int))) (vi (x20.toNat : Int)) (vi_u8 x20) (UU 2 [(2, I (wr ((wr (0 + 8)) + (x20.toNat : Int))))] (XF rfl (vi (wr ((wr (0 + 8)) + (x20.toNat : Int)))) ⟨wr ((wr (0 + 8)) + (x20.toNat : Int)), trivial⟩ [] rfl)))))
 refine XK (XG (UU 3 [(19, I 0), (21, .v (.int .u8 (IntKind.wrap .u8 x)))] (CS 21 (.int .u8 (IntKind.wrap .u8 x)) (.int .u8 (((byteOf x).toNat : Nat) : Int)) (v8 x) ?_)))
 have := UInt8.toNat_lt (byteOf x)
 obtain ⟨x22, hx23⟩ : ∃ y, len8tab[(byteOf x).toNat]? = some y := ⟨_, List.getElem?_eq_getElem LQ⟩
 refine OPC (RUNV (.index 9 (.const (.string (bs len8tab))) (.tmp 21)) 22 5 KR (NL rfl) (.int .u8 (x22.toNat : Int)) (runs_sidx (s := len8tab) (kd := .u8) (z := (((byteOf x).toNat : Nat) : Int)) (k := (byteOf x).toNat) KR KR KR LO rfl hx23) (UU 1 [(23, I (IntKind.wrap .i64 (x22.toNat : Int)))] (CS 23 (vi (IntKind.wrap .i64 (x22.toNat : Int))) (vi (x22.toNat : Int)) (vi_u8 x22) (UU 2 [(2, I (wr (0 + (x22.toNat : Int))))] (XF rfl (vi (wr (0 + (x22.toNat : Int)))) ⟨wr (0 + (x22.toNat : Int)), trivial⟩ [] rfl)))))
theorem bitsLen_c (W : World) (x : Int) : Spec Tryz.prog W [] 251 #[.int .u64 x] (⟨{x : Int // True}, fun q => vi q.1, fun q => []⟩) := by
 refine ENTER0 (N := 8) (vs := [.int .u64 x]) Tryz.func251 rfl rfl (NL rfl) ?_
 refine XG (UU 1 [] (XN (SEQ (IFF KR (XK (XG (UU 1 [(6, .v (.int .u64 x))] (OPC (CX 7 (fun w hw => len64_c w x) ?_)))))))))
 rintro ⟨m1, hm2⟩
 try dsimp only at hm2
 refine UU 1 [(2, I m1)] (XF rfl (vi m1) ⟨m1, trivial⟩ [] rfl)
theorem pdqPin_c (W : World) (data : List Pin) (data_a : Option Addr) (data_n data_c : Nat) (a : Int) (b : Int) (limit : Int) (ha : a = 0) (hb : b = (data.length : Int)) (hl : data.length ≤ 12) : Spec Tryz.prog W [slA 166 pinL (.slice data_a data_n data_c) data] 379 #[.slice data_a data_n data_c, vi a, vi b, vi limit, .func (.func 301) #[] #[]] (⟨Unit, fun _ => .tuple #[], fun _ => [slA 166 pinL (.slice data_a data_n data_c) (sortGo pinLess ((data).length - 1) 1 data)]⟩) := by
 refine ENTER (N := 148) (vs := [.slice data_a data_n data_c, vi a, vi b, vi limit, .func (.func 301) #[] #[]]) Tryz.func379 rfl rfl (NL rfl) (fun S0 => ?_)
 refine FACT (data_n = data.length ∧ data.length ≤ 9223372036854775807) (fun w hw => SlO.lenE (hw.own 0 rfl)) (fun hdata_len => (XG (UU 1 [(10, B true)] (NR (UU 1 [(11, B true)] (XN (BLOCK (LOOP (ι := Unit) (fun j => [(0, .v (.slice data_a data_n data_c)), (1, I a), (2, I b), (3, I limit), (4, .v (.func (.func 301) #[] #[])), (10, B true), (11, B true)]) (fun j => []) (fun j => [slA 166 pinL (.slice data_a data_n data_c) data]) (fun j => True) (fun j => 0) (()) [0, 1, 2, 3, 4, 10, 11] trivial KR rfl rfl ?_))))))))
 rintro u hu
 try dsimp only at hu
 refine BLOCK (XG (UU 4 [(12, I (wr (b - a)))] (XN (SEQ (XG (UU 2 [(25, B (decide ((wr (b - a)) ≤ 12)))] (NI (decide ((wr (b - a)) ≤ 12)) (fun bh1 => ?_) (fun bh1 => ?_))))))))
 ·
  have h1 := of_decide_eq_true bh1
  refine XG (UU 4 [(26, .v (.slice data_a data_n data_c)), (27, I a), (28, I b), (29, .v (.func (.func 301) #[] #[]))] (FACT (data_n = data.length) (fun w hw => (SlO.lenE (hw.own 0 rfl)).1) (fun hln2 => (OPC (CY 30 [0] (fun w hw => insSortPin_c w data data_a data_n data_c a b z2I2 z3I2 LO) rfl ?_)))))
  rintro ⟨⟩
  refine XF rfl (.tuple #[]) () [0] rfl
 have bh1 := of_decide_eq_false bh1; rw [wr_of LO LO] at bh1; exfalso; omega
theorem sortFPin_c (W : World) (data : List Pin) (data_a : Option Addr) (data_n data_c : Nat) (hl : data.length ≤ 12) : Spec Tryz.prog W [slA 166 pinL (.slice data_a data_n data_c) data] 349 #[.slice data_a data_n data_c, .func (.func 301) #[] #[]] (⟨Unit, fun _ => .tuple #[], fun _ => [slA 166 pinL (.slice data_a data_n data_c) (sortGo pinLess ((data).length - 1) 1 data)]⟩) := by
 refine ENTER (N := 14) (vs := [.slice data_a data_n data_c, .func (.func 301) #[] #[]]) Tryz.func349 rfl rfl (NL rfl) (fun S0 => ?_)
 refine FACT (data_n = data.length ∧ data.length ≤ 9223372036854775807) (fun w hw => SlO.lenE (hw.own 0 rfl)) (fun hdata_len => (XG (UU 3 [(4, I (data_n : Int))] (XN (RG (UU 4 [(7, .v (.slice data_a data_n data_c)), (8, I (data_n : Int)), (10, .v (.int .u64 (IntKind.wrap .u64 (data_n : Int))))] (OPC (CX 11 (fun w hw => bitsLen_c w (IntKind.wrap .u64 (data_n : Int))) ?_))))))))
 rintro ⟨m1, hm2⟩
 try dsimp only at hm2
 refine UU 1 [(12, .v (.func (.func 301) #[] #[]))] (FACT (data_n = data.length) (fun w hw => (SlO.lenE (hw.own 0 rfl)).1) (fun hln3 => (OPC (CY 13 [0] (fun w hw => pdqPin_c w data data_a data_n data_c 0 (data_n : Int) m1 z2I2 z3I2 LO) rfl ?_))))
 rintro ⟨⟩
 refine ENDOPS (FINN (.tuple #[]) KR () ?_ [0] ?_)
 · rfl
 rfl
set_option maxHeartbeats 1000000
attribute [local irreducible] CD DN OPL AT QL QT CND RETG BKP HL HT HO slA slHo slP ptC pull pulls
instance hSortE_c : HC 266 (∀ (W : World) (data : List Entry) (a : Option Addr) (n c : Nat), data.length ≤ 12 →Sp W [slA 159 entryL (.slice a n c) data] 266 #[.slice a n c, .func (.func 267) #[] #[]] (⟨Unit, fun _ => .tuple #[], fun _ => [slA 159 entryL (.slice a n c) (sortGo entryLess (data.length - 1) 1 data)]⟩)) := by
 exact ⟨fun W data a n c hl => sortStableEntry_c W data a n c hl⟩
instance hSortP_c : HC 350 (∀ (W : World) (data : List Pin) (a : Option Addr) (n c : Nat), data.length ≤ 12 →Sp W [slA 166 pinL (.slice a n c) data] 350 #[.slice a n c, .func (.func 301) #[] #[]] (⟨Unit, fun _ => .tuple #[], fun _ => [slA 166 pinL (.slice a n c) (sortGo pinLess (data.length - 1) 1 data)]⟩)) := by
 exact ⟨fun W data a n c hl => sortStablePin_c W data a n c hl⟩
instance hSortF_c : HC 349 (∀ (W : World) (data : List Pin) (a : Option Addr) (n c : Nat), data.length ≤ 12 →Sp W [slA 166 pinL (.slice a n c) data] 349 #[.slice a n c, .func (.func 301) #[] #[]] (⟨Unit, fun _ => .tuple #[], fun _ => [slA 166 pinL (.slice a n c) (sortGo pinLess (data.length - 1) 1 data)]⟩)) := by
 exact ⟨fun W data a n c hl => sortFPin_c W data a n c hl⟩
instance hWheelOk_c : HC 259 (∀ (W : World) (w : Wheel) (v : Value), Rs (sl 166 pinL) W v w.spoke → w.spoke.flatten.length ≤ 4194304 →Sp W [] 259 #[.agg #[v]] (RV (.bool (wheelOk w)))) := by
 refine ⟨fun W w v ⟨a, c, e, hc, hr⟩ hb => ?_⟩
 subst e
 exact iWheelOk_c W w a c hr hb
theorem ro_len {α : Type} {e : TypeId} {La : Lay α} {xs ys : List α} (h : xs = ys) (n : Nat) (hn : ys.length = n) : RO e La xs = ⟨HH, fun p => .slice p.1 n p.2, fun p => [slA e La (.slice p.1 n p.2) ys]⟩ := by subst h hn; rfl
instance hQueueOf_c : HC 171 (∀ (W : World) (cs : List Value) (r : Rules) (list : List Party) (v : Value) (cabin now : Int), RulesR W cs r → Rs partyL W v list → list.length ≤ 1048576 → (queueRaw r list cabin now).length ≤ 12 →Sp W [] 171 #[.agg cs.toArray, v, vi cabin, vi now] (RO 159 entryL (queueOf r list cabin now))) := by
 refine ⟨fun W cs r list v cabin now hr0 ⟨a, c, e, hc, hr⟩ hb hn => ?_⟩
 subst e; have hl := hr.len
 have hr1 := hr0; obtain ⟨a3, c3, rfl, h5, h6⟩ := hr0
 rw [ro_len (queue_sorted r list cabin now).symm (queueRaw r list cabin now).length (sortGo_len _ _ _)]
 refine gENT (vs := [_, _, _, _]) Tryz.func171 (gNILN 159 entryL ?_)
 repeat' first | refine ST ?_ | refine ST2 ?_ | intro _ | apply And.intro
 refine gFORO 16 list.length 9 (fun _ : Unit => []) (fun k _ xs => xs.length ≤ k ∧ xs ++ queueRaw r (list.drop k) cabin now = queueRaw r list cabin now) () (h0 := ⟨Nat.le_refl _, by simp⟩) (body := fun k _ a c9 xs hk ⟨hl2, hv⟩ => ?_)
 by_cases hkl : k < list.length
 · rw [List.drop_eq_getElem_cons hkl, queueRaw] at hv
   repeat' first | refine ST ?_ | refine ST2 ?_ | intro _ | apply And.intro
   all_goals first | exact LEN | (exfalso; omega) | (simp_all; done) | trace_state
 · have hx : xs = queueRaw r list cabin now := by rw [← hv, List.drop_eq_nil_of_le (by omega)]; simp [queueRaw]
   subst hx
   repeat' first | refine ST ?_ | refine ST2 ?_ | intro _ | apply And.intro
   all_goals first | (exfalso; omega) | exact rEX (a, c9) (plS PU pl0) rfl | trace_state
instance hPinsIn_c : HC 284 (∀ (W : World) (list : List Party) (v : Value) (cabin : Int), Rs partyL W v list → list.length ≤ 1048576 → (pinsRaw list cabin).length ≤ 12 →Sp W [] 284 #[v, vi cabin] (RO 166 pinL (pinsGo list cabin []))) := by
 refine ⟨fun W list v cabin ⟨a, c, e, hc, hr⟩ hb hn => ?_⟩
 subst e; have hl := hr.len
 rw [ro_len (pins_sorted list cabin).symm (pinsRaw list cabin).length (sortGo_len _ _ _)]
 refine gENT (vs := [_, _]) Tryz.func284 (gNILN 166 pinL ?_)
 repeat' first | refine ST ?_ | refine ST2 ?_ | intro _ | apply And.intro
 refine gFORO 10 list.length 5 (fun _ : Unit => []) (fun k _ xs => xs.length ≤ k ∧ xs ++ pinsRaw (list.drop k) cabin = pinsRaw list cabin) () (h0 := ⟨Nat.le_refl _, by simp⟩) (body := fun k _ a c9 xs hk ⟨hl2, hv⟩ => ?_)
 by_cases hkl : k < list.length
 · rw [List.drop_eq_getElem_cons hkl, pinsRaw] at hv
   repeat' first | refine ST ?_ | refine ST2 ?_ | intro _ | apply And.intro
   all_goals first | exact LEN | (exfalso; omega) | (simp_all; done) | trace_state
 · have hx : xs = pinsRaw list cabin := by rw [← hv, List.drop_eq_nil_of_le (by omega)]; simp [pinsRaw]
   subst hx
   repeat' first | refine ST ?_ | refine ST2 ?_ | intro _ | apply And.intro
   all_goals first | (exfalso; omega) | exact rEX (a, c9) (plS PU pl0) rfl | trace_state
instance hPinsOf_c : HC 283 (∀ (W : World) (w : Wheel) (v : Value), Rs (sl 166 pinL) W v w.spoke → w.spoke.flatten.length ≤ 4194304 →Sp W [] 283 #[.agg #[v]] (RO 166 pinL (pinsOf w))) := by
 refine ⟨fun W w v hv0 hb => ?_⟩
 have hv1 := hv0; obtain ⟨a, c, rfl, hc, hr⟩ := hv0; have hl := hr.len
 by_cases hwo : wheelOk w = true
 · have h10 := (wheelP_of hwo).2.1
   have hps : pinsOf w = sortGo pinLess (w.spoke.flatten.length - 1) 1 w.spoke.flatten := by rw [pinsSort_sorted]; simp [pinsOf, hwo]
   rw [ro_len hps w.spoke.flatten.length (sortGo_len _ _ _)]
   refine gENT (vs := [_]) Tryz.func283 (gNILN 166 pinL ?_)
   repeat' first | refine ST ?_ | refine ST2 ?_ | intro _ | apply And.intro
   · exact absurd (‹wheelOk w = false›.symm.trans hwo) (by decide)
   refine gFORO 12 w.spoke.length 3 (fun _ : Unit => []) (fun k _ xs => xs = (w.spoke.take k).flatten) () (h0 := rfl) (body := fun k _ a c9 xs hk hv => ?_)
   by_cases hkl : k < w.spoke.length
   · have h8 : xs.length + w.spoke[k].length ≤ 10 := by
      have h1 : ((w.spoke.take k).flatten ++ (w.spoke[k] ++ (w.spoke.drop (k + 1)).flatten)) = w.spoke.flatten := by
       rw [← List.flatten_cons, ← List.drop_eq_getElem_cons hkl, ← List.flatten_append, List.take_append_drop]
      have h2 := congrArg List.length h1
      simp only [List.length_append] at h2
      rw [hv]; omega
     repeat' first | refine ST ?_ | refine ST2 ?_ | intro _ | apply And.intro
     all_goals first | exact LEN | (exfalso; omega) | (rw [hv]; exact (flat_take (List.getElem?_eq_getElem hkl)).symm) | trace_state
   · rw [List.take_of_length_le (by omega)] at hv
     subst hv
     repeat' first | refine ST ?_ | refine ST2 ?_ | intro _ | apply And.intro
     all_goals first | (exfalso; omega) | exact rEX (a, c9) (plS PU pl0) rfl | trace_state
 · have hps : pinsOf w = [] := by simp [pinsOf, hwo]
   rw [hps]
   refine gENT (vs := [_]) Tryz.func283 (gNILN 166 pinL ?_)
   repeat' first | (exfalso; contradiction) | refine ST ?_ | intro _ | apply And.intro
   all_goals first | exact absurd ‹wheelOk w = true› hwo | rfl | trace_state
instance iCabinOk_c : HC 280 (∀ (W : World) (cs : List Value) (x : Cabin), CabinR 166 W cs x → x.wheel.spoke.flatten.length ≤ 1048576 →Sp W [] 280 #[.agg cs.toArray] (RV (.bool (cabinOk x)))) := by
 refine ⟨fun W cs x hx hb => ?_⟩
 have hx1 := hx; obtain ⟨a1, c1, a2, c2, rfl, h1, h2, h3, h4⟩ := hx
 have hb4 : x.wheel.spoke.flatten.length ≤ 4194304 := by omega
 refine gENT (vs := [_]) Tryz.func280 ?_
 repeat' first | refine ST ?_ | refine ST2 ?_ | intro _ | apply And.intro
 all_goals simp [cabinOk, *]
instance iAgrees_c : HC 186 (∀ (W : World) (cr : List Value) (r : Rules) (cs : List Value) (x : Cabin) (list : List Party) (v : Value) (cabin now : Int), RulesR W cr r → CabinR 166 W cs x → Rs partyL W v list → x.wheel.spoke.flatten.length ≤ 1048576 → list.length ≤ 1000000 → (queueRaw r list cabin now).length ≤ 12 → (pinsRaw list cabin).length ≤ 12 →Sp W [] 186 #[.agg cr.toArray, .agg cs.toArray, v, vi cabin, vi now] (RV (.bool (agrees r x list cabin now)))) := by
 refine ⟨fun W cr r cs x list v cabin now hrr hx ⟨a, c, e, hc, hr⟩ hb hb2 hq hp => ?_⟩
 subst e
 have hx1 := hx; obtain ⟨a1, c1, a2, c2, rfl, h1, h2, h3, h4⟩ := hx
 have hr1 := hrr; obtain ⟨a3, c3, rfl, h5, h6⟩ := hrr
 have hb4 : x.wheel.spoke.flatten.length ≤ 4194304 := by omega
 refine gENT (vs := [_, _, _, _, _]) Tryz.func186 ?_
 repeat' first | refine ST ?_ | refine ST2 ?_ | intro _ | apply And.intro
 all_goals simp [agrees, *]
end SX
end Go.Proofs.YtejojcoaohlfbaaGreat
