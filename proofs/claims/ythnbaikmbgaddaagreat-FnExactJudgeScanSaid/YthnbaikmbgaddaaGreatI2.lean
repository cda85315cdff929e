/- Walks, printed by program. -/
import Derived.Test.YthnbaikmbgaddaaGreatSxz
import Derived.Test.YthnbaikmbgaddaaGreatI1
namespace Go.Proofs.YthnbaikmbgaddaaGreat
namespace SX
open Go Go.RowKit
set_option linter.unusedVariables false
set_option linter.unusedSimpArgs false
set_option maxRecDepth 10000
set_option maxHeartbeats 400000
private theorem z4 {p : Prop} (h : p := by dsimp only; omega) : p := h
private theorem z3 {p : Prop} (h : p := by first | assumption | omega) : p := h
private theorem z2 {p : Prop} (h : p := by first | assumption | rfl | omega) : p := h
private theorem z1 {p : Prop} (h : p := by simp only [List.length_set]; omega) : p := h
theorem insSortEntry_c (W : World) (data : List Entry) (data_a : Option Addr) (data_n data_c : Nat) (a : Int) (b : Int) (ha : a = 0) (hb : b = (data.length : Int)) (hl : data.length ≤ 1048576) : Spec Tryz.prog W [slA 142 entryL (.slice data_a data_n data_c) data] 370 #[.slice data_a data_n data_c, vi a, vi b, .func (.func 302) #[] #[]] (⟨Unit, fun _ => .tuple #[], fun _ => [slA 142 entryL (.slice data_a data_n data_c) (sortGo entryLess ((data).length - 1) 1 data)]⟩) := by
 refine ENTER (N := 53) (vs := [.slice data_a data_n data_c, vi a, vi b, .func (.func 302) #[] #[]]) Tryz.func370 rfl rfl (NL rfl) (fun S0 => ?_)
 refine FACT (data_n = data.length ∧ data.length ≤ 9223372036854775807) (fun w hw => SlO.lenE (hw.own 0 rfl)) (fun hdata_len => (XG (UU 3 [(8, I (wr (a + 1)))] (XN (BLOCK (CS 8 (vi (wr (a + 1))) (vi (1 : Int)) ((by rw [ha]; rfl)) (LOOP (ι := Nat × (List Entry)) (fun j => [(0, .v (.slice data_a data_n data_c)), (1, I a), (2, I b), (3, .v (.func (.func 302) #[] #[])), (8, I (j.1 : Int))]) (fun j => []) (fun j => [slA 142 entryL (.slice data_a data_n data_c) j.2]) (fun j => j.2.length = data.length ∧ 1 ≤ j.1 ∧ sortGo entryLess (data.length - 1) 1 data = sortGo entryLess (data.length - j.1) j.1 j.2) (fun j => data.length - j.1) (1, data) [0, 1, 2, 3, 8] ⟨rfl, Nat.le_refl _, rfl⟩ KR rfl rfl ?_)))))))
 rintro ⟨i, xs⟩ ⟨hxl, hi1, hso⟩
 try dsimp only at hxl hi1 hso
 refine SEQ (XG (UU 3 [(14, B (decide ((i : Int) < b)))] (NI (decide ((i : Int) < b)) (dT fun h1 bh1 => ?_) (dF fun h1 bh1 => ?_))))
 ·
  refine XK (SEQ (BLOCK (XG (UU 2 [(9, I (i : Int))] (XN (BLOCK (LOOP (ι := Nat × (List Entry)) (fun j => [(0, .v (.slice data_a data_n data_c)), (1, I a), (2, I b), (3, .v (.func (.func 302) #[] #[])), (8, I (i : Int)), (9, I (j.1 : Int))]) (fun j => []) (fun j => [slA 142 entryL (.slice data_a data_n data_c) j.2]) (fun j => j.2.length = data.length ∧ j.1 ≤ i ∧ sink entryLess i xs = sink entryLess j.1 j.2) (fun j => j.1) (i, xs) [0, 1, 2, 3, 8, 9] ⟨hxl, Nat.le_refl _, rfl⟩ KR rfl rfl ?_)))))))
  rintro ⟨j, ys⟩ ⟨hyl, hji, hsk⟩
  try dsimp only at hyl hji hsk
  refine SEQ (SEQ (FACT (data_a.isSome = true) (fun w hw => SlO.isS (hw.own 0 rfl) LD) (fun hso2 => (REGIONQ KR KR (QU 4 [(21, B (decide ((j : Int) > a)))] (QSP 21 (decide ((j : Int) > a)) (dT fun h3 bh3 => ?_) (dF fun h3 bh3 => ?_)))))))
  ·
   refine QU 3 [(22, .v (.func (.func 302) #[] #[])), (23, .v (.slice data_a data_n data_c)), (24, I (j : Int))] ?_
   obtain ⟨x4, hx5⟩ : ∃ y, ys[j]? = some y := ⟨_, List.getElem?_eq_getElem LO⟩
   refine QIX 45 (.tmp 23) (.tmp 24) 25 0 data_a data_n data_c .i64 (j : Int) 142 4 hso2 LO LO (QLE 142 (.tmp 25) 26 142 data_a (j * 4) 0 (entryE x4) (.agg (entryE x4).toArray) (fun w hw => (hw.rdO 0 rfl).flat hx5) (QU 3 [(27, .v (.slice data_a data_n data_c)), (29, I (wr ((j : Int) - 1)))] (QCAST (d := 29) (vi (wr ((j : Int) - 1))) (vi ((j - 1 : Nat) : Int)) KR VC ?_)))
   obtain ⟨x6, hx7⟩ : ∃ y, ys[j - 1]? = some y := ⟨_, List.getElem?_eq_getElem LO⟩
   refine QIX 45 (.tmp 27) (.tmp 29) 30 0 data_a data_n data_c .i64 ((j - 1 : Nat) : Int) 142 4 hso2 LO LO (QLE 142 (.tmp 30) 31 142 data_a ((j - 1) * 4) 0 (entryE x6) (.agg (entryE x6).toArray) (fun w hw => (hw.rdO 0 rfl).flat hx7) (QX 32 (fun w hw => pcmpEntry_c w x4 x6) (QU 2 [(34, B (decide ((cmpEntry x4 x6) < 0)))] (QEND rfl (NEXT (IFK (decide ((cmpEntry x4 x6) < 0)) (dT fun h8 bh8 => ?_) (dF fun h8 bh8 => ?_)))))))
   ·
    refine XK (SEQ (BLOCK (REGIONH KR 18 rfl [] (HP [] 0 [(37, .v (.slice data_a data_n data_c))] (HP [] 1 [(38, I (j : Int))] (HP [] 2 [(39, .v (.slice data_a data_n data_c))] (HP [] 3 [(40, I (j : Int))] (HP [] 4 [(41, I (wr ((j : Int) - 1)))] (HCAST (d := 41) (vi (wr ((j : Int) - 1))) (vi ((j - 1 : Nat) : Int)) KR VC (HP [] 5 [(42, .v (.slice data_a data_n data_c))] (HP [] 6 [(43, I (j : Int))] (HP [] 7 [(44, I (wr ((j : Int) - 1)))] (HCAST (d := 44) (vi (wr ((j : Int) - 1))) (vi ((j - 1 : Nat) : Int)) KR VC (HINDEX (i := 8) (js := []) 45 (.tmp 42) (.tmp 44) 45 0 KR (NL rfl) data_a data_n data_c .i64 ((j - 1 : Nat) : Int) 142 4 KR KR KR KR hso2 LO LO KR rfl (HP [] 10 [(47, .v (.slice data_a data_n data_c))] (HP [] 11 [(48, I (j : Int))] (HINDEX (i := 12) (js := []) 45 (.tmp 47) (.tmp 48) 49 0 KR (NL rfl) data_a data_n data_c .i64 (j : Int) 142 4 KR KR KR KR hso2 LO LO KR rfl (HALL [9, 13] KR (by decide) ⟨?_, ?_⟩))))))))))))))))))
    ·
     refine LE 142 (.tmp 45) 46 142 data_a ((j - 1) * 4) 0 (entryE x6) (.agg (entryE x6).toArray) (fun w hw => (hw.rdO 0 rfl).flat hx7) (HK [] [13] (LE 142 (.tmp 49) 50 142 data_a (j * 4) 0 (entryE x4) (.agg (entryE x4).toArray) (fun w hw => (hw.rdO 0 rfl).flat hx5) (HW [] (HINDEX (i := 14) (js := []) 45 (.tmp 37) (.tmp 38) 51 0 KR (NL rfl) data_a data_n data_c .i64 (j : Int) 142 4 KR KR KR KR hso2 LO LO KR rfl (HALL [15] KR (by decide) (STOREF 142 (.tmp 51) (.tmp 46) 0 KR 0 _ 142 data_a data_n data_c j 0 ys rfl x4 x6 hx5 (.agg #[vi x6.level, vi x6.turn, vi x6.id, vi x6.size]) KR KR KR (HW [] (FACT (data_n = (ys.set j x6).length) (fun w hw => (SlO.lenE (hw.own 0 rfl)).1) (fun hln9 => ?_)))))))))
     obtain ⟨x10, hx11⟩ : ∃ y, (ys.set j x6)[j - 1]? = some y := ⟨_, List.getElem?_eq_getElem z1⟩
     refine HINDEX (i := 16) (js := []) 45 (.tmp 39) (.tmp 41) 52 0 KR (NL rfl) data_a data_n data_c .i64 ((j - 1 : Nat) : Int) 142 4 KR KR KR KR hso2 LO LO KR rfl (HALL [17] KR (by decide) (STOREF 142 (.tmp 52) (.tmp 50) 0 KR 0 _ 142 data_a data_n data_c (j - 1) 0 (ys.set j x6) rfl x10 x4 hx11 (.agg #[vi x4.level, vi x4.turn, vi x4.id, vi x4.size]) KR KR KR (HW [] (HDz (OUTN (NEXT (RG (UU 2 [(36, I (wr ((j : Int) - 1)))] (CS 36 (vi (wr ((j : Int) - 1))) (vi ((j - 1 : Nat) : Int)) VC (UU 1 [(9, I ((j - 1 : Nat) : Int))] (ENDOPS (BK (j - 1, (ys.set j x6).set (j - 1) x4) [0, 1, 2, 3, 8, 9] 0 [0] ⟨by simp only [List.length_set]; exact hyl, by dsimp only; omega, hsk.trans (sink_step hx5 hx7 LO (by rw [← cmpEntry_lt]; assumption))⟩ z4))))))))))))
    refine LE 142 (.tmp 49) 50 142 data_a (j * 4) 0 (entryE x4) (.agg (entryE x4).toArray) (fun w hw => (hw.rdO 0 rfl).flat hx5) (HK [] [9] (LE 142 (.tmp 45) 46 142 data_a ((j - 1) * 4) 0 (entryE x6) (.agg (entryE x6).toArray) (fun w hw => (hw.rdO 0 rfl).flat hx7) (HW [] (HINDEX (i := 14) (js := []) 45 (.tmp 37) (.tmp 38) 51 0 KR (NL rfl) data_a data_n data_c .i64 (j : Int) 142 4 KR KR KR KR hso2 LO LO KR rfl (HALL [15] KR (by decide) (STOREF 142 (.tmp 51) (.tmp 46) 0 KR 0 _ 142 data_a data_n data_c j 0 ys rfl x4 x6 hx5 (.agg #[vi x6.level, vi x6.turn, vi x6.id, vi x6.size]) KR KR KR (HW [] (FACT (data_n = (ys.set j x6).length) (fun w hw => (SlO.lenE (hw.own 0 rfl)).1) (fun hln12 => ?_)))))))))
    obtain ⟨x13, hx14⟩ : ∃ y, (ys.set j x6)[j - 1]? = some y := ⟨_, List.getElem?_eq_getElem z1⟩
    refine HINDEX (i := 16) (js := []) 45 (.tmp 39) (.tmp 41) 52 0 KR (NL rfl) data_a data_n data_c .i64 ((j - 1 : Nat) : Int) 142 4 KR KR KR KR hso2 LO LO KR rfl (HALL [17] KR (by decide) (STOREF 142 (.tmp 52) (.tmp 50) 0 KR 0 _ 142 data_a data_n data_c (j - 1) 0 (ys.set j x6) rfl x13 x4 hx14 (.agg #[vi x4.level, vi x4.turn, vi x4.id, vi x4.size]) KR KR KR (HW [] (HDz (OUTN (NEXT (RG (UU 2 [(36, I (wr ((j : Int) - 1)))] (CS 36 (vi (wr ((j : Int) - 1))) (vi ((j - 1 : Nat) : Int)) VC (UU 1 [(9, I ((j - 1 : Nat) : Int))] (ENDOPS (BK (j - 1, (ys.set j x6).set (j - 1) x4) [0, 1, 2, 3, 8, 9] 0 [0] ⟨by simp only [List.length_set]; exact hyl, by dsimp only; omega, hsk.trans (sink_step hx5 hx7 LO (by rw [← cmpEntry_lt]; assumption))⟩ z4))))))))))))
   have hend : sink entryLess j ys = ys := sink_stop hx5 hx7 LO (by rw [← cmpEntry_lt]; exact bh8)
   refine EXIT (PASS trivial (PASS trivial (OUT (OUTN (NEXT (RG (UU 2 [(16, I (wr ((i : Int) + 1)))] (CS 16 (vi (wr ((i : Int) + 1))) (vi ((i + 1 : Nat) : Int)) VC (UU 1 [(8, I ((i + 1 : Nat) : Int))] (ENDOPS (BK (i + 1, ys) [0, 1, 2, 3, 8] 0 [0] ⟨by dsimp only; omega, by dsimp only; omega, hso.trans ((sortGo_step LO).trans (by rw [hsk, hend]))⟩ z4)))))))))))
  have hend : sink entryLess j ys = ys := by rw [show j = 0 by omega]; rfl
  refine QU 13 [(34, B false)] (QEND rfl (NEXT (IFF KR (EXIT (PASS trivial (PASS trivial (OUT (OUTN (NEXT (RG (UU 2 [(16, I (wr ((i : Int) + 1)))] (CS 16 (vi (wr ((i : Int) + 1))) (vi ((i + 1 : Nat) : Int)) VC (UU 1 [(8, I ((i + 1 : Nat) : Int))] (ENDOPS (BK (i + 1, ys) [0, 1, 2, 3, 8] 0 [0] ⟨by dsimp only; omega, by dsimp only; omega, hso.trans ((sortGo_step LO).trans (by rw [hsk, hend]))⟩ z4)))))))))))))))
 refine EXIT (PASS trivial (PASS trivial (OUT (FINN (.tuple #[]) KR () ?_ [0] ?_))))
 · rfl
 (rw [show sortGo entryLess (data.length - 1) 1 data = xs from hso.trans (sortGo_stop LO)]; rfl)

theorem insSortPin_c (W : World) (data : List Pin) (data_a : Option Addr) (data_n data_c : Nat) (a : Int) (b : Int) (ha : a = 0) (hb : b = (data.length : Int)) (hl : data.length ≤ 1048576) : Spec Tryz.prog W [slA 167 pinL (.slice data_a data_n data_c) data] 373 #[.slice data_a data_n data_c, vi a, vi b, .func (.func 298) #[] #[]] (⟨Unit, fun _ => .tuple #[], fun _ => [slA 167 pinL (.slice data_a data_n data_c) (sortGo pinLess ((data).length - 1) 1 data)]⟩) := by
 refine ENTER (N := 53) (vs := [.slice data_a data_n data_c, vi a, vi b, .func (.func 298) #[] #[]]) Tryz.func373 rfl rfl (NL rfl) (fun S0 => ?_)
 refine FACT (data_n = data.length ∧ data.length ≤ 9223372036854775807) (fun w hw => SlO.lenE (hw.own 0 rfl)) (fun hdata_len => (XG (UU 3 [(8, I (wr (a + 1)))] (XN (BLOCK (CS 8 (vi (wr (a + 1))) (vi (1 : Int)) ((by rw [ha]; rfl)) (LOOP (ι := Nat × (List Pin)) (fun j => [(0, .v (.slice data_a data_n data_c)), (1, I a), (2, I b), (3, .v (.func (.func 298) #[] #[])), (8, I (j.1 : Int))]) (fun j => []) (fun j => [slA 167 pinL (.slice data_a data_n data_c) j.2]) (fun j => j.2.length = data.length ∧ 1 ≤ j.1 ∧ sortGo pinLess (data.length - 1) 1 data = sortGo pinLess (data.length - j.1) j.1 j.2) (fun j => data.length - j.1) (1, data) [0, 1, 2, 3, 8] ⟨rfl, Nat.le_refl _, rfl⟩ KR rfl rfl ?_)))))))
 rintro ⟨i, xs⟩ ⟨hxl, hi1, hso⟩
 try dsimp only at hxl hi1 hso
 refine SEQ (XG (UU 3 [(14, B (decide ((i : Int) < b)))] (NI (decide ((i : Int) < b)) (dT fun h1 bh1 => ?_) (dF fun h1 bh1 => ?_))))
 ·
  refine XK (SEQ (BLOCK (XG (UU 2 [(9, I (i : Int))] (XN (BLOCK (LOOP (ι := Nat × (List Pin)) (fun j => [(0, .v (.slice data_a data_n data_c)), (1, I a), (2, I b), (3, .v (.func (.func 298) #[] #[])), (8, I (i : Int)), (9, I (j.1 : Int))]) (fun j => []) (fun j => [slA 167 pinL (.slice data_a data_n data_c) j.2]) (fun j => j.2.length = data.length ∧ j.1 ≤ i ∧ sink pinLess i xs = sink pinLess j.1 j.2) (fun j => j.1) (i, xs) [0, 1, 2, 3, 8, 9] ⟨hxl, Nat.le_refl _, rfl⟩ KR rfl rfl ?_)))))))
  rintro ⟨j, ys⟩ ⟨hyl, hji, hsk⟩
  try dsimp only at hyl hji hsk
  refine SEQ (SEQ (FACT (data_a.isSome = true) (fun w hw => SlO.isS (hw.own 0 rfl) LD) (fun hso2 => (REGIONQ KR KR (QU 4 [(21, B (decide ((j : Int) > a)))] (QSP 21 (decide ((j : Int) > a)) (dT fun h3 bh3 => ?_) (dF fun h3 bh3 => ?_)))))))
  ·
   refine QU 3 [(22, .v (.func (.func 298) #[] #[])), (23, .v (.slice data_a data_n data_c)), (24, I (j : Int))] ?_
   obtain ⟨x4, hx5⟩ : ∃ y, ys[j]? = some y := ⟨_, List.getElem?_eq_getElem LO⟩
   refine QIX 155 (.tmp 23) (.tmp 24) 25 0 data_a data_n data_c .i64 (j : Int) 167 2 hso2 LO LO (QLE 167 (.tmp 25) 26 167 data_a (j * 2) 0 (pinE x4) (.agg (pinE x4).toArray) (fun w hw => (hw.rdO 0 rfl).flat hx5) (QU 3 [(27, .v (.slice data_a data_n data_c)), (29, I (wr ((j : Int) - 1)))] (QCAST (d := 29) (vi (wr ((j : Int) - 1))) (vi ((j - 1 : Nat) : Int)) KR VC ?_)))
   obtain ⟨x6, hx7⟩ : ∃ y, ys[j - 1]? = some y := ⟨_, List.getElem?_eq_getElem LO⟩
   refine QIX 155 (.tmp 27) (.tmp 29) 30 0 data_a data_n data_c .i64 ((j - 1 : Nat) : Int) 167 2 hso2 LO LO (QLE 167 (.tmp 30) 31 167 data_a ((j - 1) * 2) 0 (pinE x6) (.agg (pinE x6).toArray) (fun w hw => (hw.rdO 0 rfl).flat hx7) (QX 32 (fun w hw => pcmpPin_c w x4 x6) (QU 2 [(34, B (decide ((cmpPin x4 x6) < 0)))] (QEND rfl (NEXT (IFK (decide ((cmpPin x4 x6) < 0)) (dT fun h8 bh8 => ?_) (dF fun h8 bh8 => ?_)))))))
   ·
    refine XK (SEQ (BLOCK (REGIONH KR 18 rfl [] (HP [] 0 [(37, .v (.slice data_a data_n data_c))] (HP [] 1 [(38, I (j : Int))] (HP [] 2 [(39, .v (.slice data_a data_n data_c))] (HP [] 3 [(40, I (j : Int))] (HP [] 4 [(41, I (wr ((j : Int) - 1)))] (HCAST (d := 41) (vi (wr ((j : Int) - 1))) (vi ((j - 1 : Nat) : Int)) KR VC (HP [] 5 [(42, .v (.slice data_a data_n data_c))] (HP [] 6 [(43, I (j : Int))] (HP [] 7 [(44, I (wr ((j : Int) - 1)))] (HCAST (d := 44) (vi (wr ((j : Int) - 1))) (vi ((j - 1 : Nat) : Int)) KR VC (HINDEX (i := 8) (js := []) 155 (.tmp 42) (.tmp 44) 45 0 KR (NL rfl) data_a data_n data_c .i64 ((j - 1 : Nat) : Int) 167 2 KR KR KR KR hso2 LO LO KR rfl (HP [] 10 [(47, .v (.slice data_a data_n data_c))] (HP [] 11 [(48, I (j : Int))] (HINDEX (i := 12) (js := []) 155 (.tmp 47) (.tmp 48) 49 0 KR (NL rfl) data_a data_n data_c .i64 (j : Int) 167 2 KR KR KR KR hso2 LO LO KR rfl (HALL [9, 13] KR (by decide) ⟨?_, ?_⟩))))))))))))))))))
    ·
     refine LE 167 (.tmp 45) 46 167 data_a ((j - 1) * 2) 0 (pinE x6) (.agg (pinE x6).toArray) (fun w hw => (hw.rdO 0 rfl).flat hx7) (HK [] [13] (LE 167 (.tmp 49) 50 167 data_a (j * 2) 0 (pinE x4) (.agg (pinE x4).toArray) (fun w hw => (hw.rdO 0 rfl).flat hx5) (HW [] (HINDEX (i := 14) (js := []) 155 (.tmp 37) (.tmp 38) 51 0 KR (NL rfl) data_a data_n data_c .i64 (j : Int) 167 2 KR KR KR KR hso2 LO LO KR rfl (HALL [15] KR (by decide) (STOREF 167 (.tmp 51) (.tmp 46) 0 KR 0 _ 167 data_a data_n data_c j 0 ys rfl x4 x6 hx5 (.agg #[vi x6.at', vi x6.id]) KR KR KR (HW [] (FACT (data_n = (ys.set j x6).length) (fun w hw => (SlO.lenE (hw.own 0 rfl)).1) (fun hln9 => ?_)))))))))
     obtain ⟨x10, hx11⟩ : ∃ y, (ys.set j x6)[j - 1]? = some y := ⟨_, List.getElem?_eq_getElem z1⟩
     refine HINDEX (i := 16) (js := []) 155 (.tmp 39) (.tmp 41) 52 0 KR (NL rfl) data_a data_n data_c .i64 ((j - 1 : Nat) : Int) 167 2 KR KR KR KR hso2 LO LO KR rfl (HALL [17] KR (by decide) (STOREF 167 (.tmp 52) (.tmp 50) 0 KR 0 _ 167 data_a data_n data_c (j - 1) 0 (ys.set j x6) rfl x10 x4 hx11 (.agg #[vi x4.at', vi x4.id]) KR KR KR (HW [] (HDz (OUTN (NEXT (RG (UU 2 [(36, I (wr ((j : Int) - 1)))] (CS 36 (vi (wr ((j : Int) - 1))) (vi ((j - 1 : Nat) : Int)) VC (UU 1 [(9, I ((j - 1 : Nat) : Int))] (ENDOPS (BK (j - 1, (ys.set j x6).set (j - 1) x4) [0, 1, 2, 3, 8, 9] 0 [0] ⟨by simp only [List.length_set]; exact hyl, by dsimp only; omega, hsk.trans (sink_step hx5 hx7 LO (by rw [← cmpPin_lt]; assumption))⟩ z4))))))))))))
    refine LE 167 (.tmp 49) 50 167 data_a (j * 2) 0 (pinE x4) (.agg (pinE x4).toArray) (fun w hw => (hw.rdO 0 rfl).flat hx5) (HK [] [9] (LE 167 (.tmp 45) 46 167 data_a ((j - 1) * 2) 0 (pinE x6) (.agg (pinE x6).toArray) (fun w hw => (hw.rdO 0 rfl).flat hx7) (HW [] (HINDEX (i := 14) (js := []) 155 (.tmp 37) (.tmp 38) 51 0 KR (NL rfl) data_a data_n data_c .i64 (j : Int) 167 2 KR KR KR KR hso2 LO LO KR rfl (HALL [15] KR (by decide) (STOREF 167 (.tmp 51) (.tmp 46) 0 KR 0 _ 167 data_a data_n data_c j 0 ys rfl x4 x6 hx5 (.agg #[vi x6.at', vi x6.id]) KR KR KR (HW [] (FACT (data_n = (ys.set j x6).length) (fun w hw => (SlO.lenE (hw.own 0 rfl)).1) (fun hln12 => ?_)))))))))
    obtain ⟨x13, hx14⟩ : ∃ y, (ys.set j x6)[j - 1]? = some y := ⟨_, List.getElem?_eq_getElem z1⟩
    refine HINDEX (i := 16) (js := []) 155 (.tmp 39) (.tmp 41) 52 0 KR (NL rfl) data_a data_n data_c .i64 ((j - 1 : Nat) : Int) 167 2 KR KR KR KR hso2 LO LO KR rfl (HALL [17] KR (by decide) (STOREF 167 (.tmp 52) (.tmp 50) 0 KR 0 _ 167 data_a data_n data_c (j - 1) 0 (ys.set j x6) rfl x13 x4 hx14 (.agg #[vi x4.at', vi x4.id]) KR KR KR (HW [] (HDz (OUTN (NEXT (RG (UU 2 [(36, I (wr ((j : Int) - 1)))] (CS 36 (vi (wr ((j : Int) - 1))) (vi ((j - 1 : Nat) : Int)) VC (UU 1 [(9, I ((j - 1 : Nat) : Int))] (ENDOPS (BK (j - 1, (ys.set j x6).set (j - 1) x4) [0, 1, 2, 3, 8, 9] 0 [0] ⟨by simp only [List.length_set]; exact hyl, by dsimp only; omega, hsk.trans (sink_step hx5 hx7 LO (by rw [← cmpPin_lt]; assumption))⟩ z4))))))))))))
   have hend : sink pinLess j ys = ys := sink_stop hx5 hx7 LO (by rw [← cmpPin_lt]; exact bh8)
   refine EXIT (PASS trivial (PASS trivial (OUT (OUTN (NEXT (RG (UU 2 [(16, I (wr ((i : Int) + 1)))] (CS 16 (vi (wr ((i : Int) + 1))) (vi ((i + 1 : Nat) : Int)) VC (UU 1 [(8, I ((i + 1 : Nat) : Int))] (ENDOPS (BK (i + 1, ys) [0, 1, 2, 3, 8] 0 [0] ⟨by dsimp only; omega, by dsimp only; omega, hso.trans ((sortGo_step LO).trans (by rw [hsk, hend]))⟩ z4)))))))))))
  have hend : sink pinLess j ys = ys := by rw [show j = 0 by omega]; rfl
  refine QU 13 [(34, B false)] (QEND rfl (NEXT (IFF KR (EXIT (PASS trivial (PASS trivial (OUT (OUTN (NEXT (RG (UU 2 [(16, I (wr ((i : Int) + 1)))] (CS 16 (vi (wr ((i : Int) + 1))) (vi ((i + 1 : Nat) : Int)) VC (UU 1 [(8, I ((i + 1 : Nat) : Int))] (ENDOPS (BK (i + 1, ys) [0, 1, 2, 3, 8] 0 [0] ⟨by dsimp only; omega, by dsimp only; omega, hso.trans ((sortGo_step LO).trans (by rw [hsk, hend]))⟩ z4)))))))))))))))
 refine EXIT (PASS trivial (PASS trivial (OUT (FINN (.tuple #[]) KR () ?_ [0] ?_))))
 · rfl
 (rw [show sortGo pinLess (data.length - 1) 1 data = xs from hso.trans (sortGo_stop LO)]; rfl)

theorem stableSortEntry_c (W : World) (data : List Entry) (data_a : Option Addr) (data_n data_c : Nat) (n : Int) (hn : n = (data.length : Int)) (hl : data.length ≤ 12) : Spec Tryz.prog W [slA 142 entryL (.slice data_a data_n data_c) data] 351 #[.slice data_a data_n data_c, vi n, .func (.func 302) #[] #[]] (⟨Unit, fun _ => .tuple #[], fun _ => [slA 142 entryL (.slice data_a data_n data_c) (sortGo entryLess ((data).length - 1) 1 data)]⟩) := by
 refine ENTER (N := 63) (vs := [.slice data_a data_n data_c, vi n, .func (.func 302) #[] #[]]) Tryz.func351 rfl rfl (NL rfl) (fun S0 => ?_)
 refine FACT (data_n = data.length ∧ data.length ≤ 9223372036854775807) (fun w hw => SlO.lenE (hw.own 0 rfl)) (fun hdata_len => (XG (UU 1 [(6, I 20)] (NR (UU 3 [(7, I 0), (8, I 20)] (XN (SEQ (BLOCK (LOOP (ι := Unit) (fun j => [(0, .v (.slice data_a data_n data_c)), (1, I n), (2, .v (.func (.func 302) #[] #[])), (6, I 20), (7, I 0), (8, I 20)]) (fun j => []) (fun j => [slA 142 entryL (.slice data_a data_n data_c) data]) (fun j => True) (fun j => 0) (()) [0, 1, 2, 6, 7, 8] trivial KR rfl rfl ?_)))))))))
 rintro u hu
 try dsimp only at hu
 refine SEQ (XG (UU 3 [(13, B (decide (20 ≤ n)))] (NI (decide (20 ≤ n)) (fun bh1 => ?_) (fun bh1 => ?_))))
 · have bh1 := of_decide_eq_true bh1; exfalso; omega
 have h1 := of_decide_eq_false bh1
 refine EXIT (PASS trivial (PASS trivial (OUT (NEXT (XG (UU 4 [(23, .v (.slice data_a data_n data_c)), (24, I 0), (25, I n), (26, .v (.func (.func 302) #[] #[]))] (FACT (data_n = data.length) (fun w hw => (SlO.lenE (hw.own 0 rfl)).1) (fun hln2 => (OPC (CY 27 [0] (fun w hw => insSortEntry_c w data data_a data_n data_c 0 n z2 z3 LO) rfl ?_))))))))))
 rintro ⟨⟩
 refine XN (BLOCK (LOOP (ι := Unit) (fun j => [(0, .v (.slice data_a data_n data_c)), (1, I n), (2, .v (.func (.func 302) #[] #[])), (6, I 20)]) (fun j => []) (fun j => [slA 142 entryL (.slice data_a data_n data_c) (sortGo entryLess ((data).length - 1) 1 data)]) (fun j => True) (fun j => 0) (()) [0, 1, 2, 6] trivial KR rfl rfl ?_))
 rintro u hu
 try dsimp only at hu
 refine SEQ (XG (UU 3 [(30, B (decide (20 < n)))] (NI (decide (20 < n)) (fun bh3 => ?_) (fun bh3 => ?_))))
 · have bh3 := of_decide_eq_true bh3; exfalso; omega
 have h3 := of_decide_eq_false bh3
 refine EXIT (PASS trivial (PASS trivial (OUT (FINN (.tuple #[]) KR () ?_ [0] ?_))))
 · rfl
 rfl

theorem stableSortPin_c (W : World) (data : List Pin) (data_a : Option Addr) (data_n data_c : Nat) (n : Int) (hn : n = (data.length : Int)) (hl : data.length ≤ 12) : Spec Tryz.prog W [slA 167 pinL (.slice data_a data_n data_c) data] 362 #[.slice data_a data_n data_c, vi n, .func (.func 298) #[] #[]] (⟨Unit, fun _ => .tuple #[], fun _ => [slA 167 pinL (.slice data_a data_n data_c) (sortGo pinLess ((data).length - 1) 1 data)]⟩) := by
 refine ENTER (N := 63) (vs := [.slice data_a data_n data_c, vi n, .func (.func 298) #[] #[]]) Tryz.func362 rfl rfl (NL rfl) (fun S0 => ?_)
 refine FACT (data_n = data.length ∧ data.length ≤ 9223372036854775807) (fun w hw => SlO.lenE (hw.own 0 rfl)) (fun hdata_len => (XG (UU 1 [(6, I 20)] (NR (UU 3 [(7, I 0), (8, I 20)] (XN (SEQ (BLOCK (LOOP (ι := Unit) (fun j => [(0, .v (.slice data_a data_n data_c)), (1, I n), (2, .v (.func (.func 298) #[] #[])), (6, I 20), (7, I 0), (8, I 20)]) (fun j => []) (fun j => [slA 167 pinL (.slice data_a data_n data_c) data]) (fun j => True) (fun j => 0) (()) [0, 1, 2, 6, 7, 8] trivial KR rfl rfl ?_)))))))))
 rintro u hu
 try dsimp only at hu
 refine SEQ (XG (UU 3 [(13, B (decide (20 ≤ n)))] (NI (decide (20 ≤ n)) (fun bh1 => ?_) (fun bh1 => ?_))))
 · have bh1 := of_decide_eq_true bh1; exfalso; omega
 have h1 := of_decide_eq_false bh1
 refine EXIT (PASS trivial (PASS trivial (OUT (NEXT (XG (UU 4 [(23, .v (.slice data_a data_n data_c)), (24, I 0), (25, I n), (26, .v (.func (.func 298) #[] #[]))] (FACT (data_n = data.length) (fun w hw => (SlO.lenE (hw.own 0 rfl)).1) (fun hln2 => (OPC (CY 27 [0] (fun w hw => insSortPin_c w data data_a data_n data_c 0 n z2 z3 LO) rfl ?_))))))))))
 rintro ⟨⟩
 refine XN (BLOCK (LOOP (ι := Unit) (fun j => [(0, .v (.slice data_a data_n data_c)), (1, I n), (2, .v (.func (.func 298) #[] #[])), (6, I 20)]) (fun j => []) (fun j => [slA 167 pinL (.slice data_a data_n data_c) (sortGo pinLess ((data).length - 1) 1 data)]) (fun j => True) (fun j => 0) (()) [0, 1, 2, 6] trivial KR rfl rfl ?_))
 rintro u hu
 try dsimp only at hu
 refine SEQ (XG (UU 3 [(30, B (decide (20 < n)))] (NI (decide (20 < n)) (fun bh3 => ?_) (fun bh3 => ?_))))
 · have bh3 := of_decide_eq_true bh3; exfalso; omega
 have h3 := of_decide_eq_false bh3
 refine EXIT (PASS trivial (PASS trivial (OUT (FINN (.tuple #[]) KR () ?_ [0] ?_))))
 · rfl
 rfl

theorem sortStableEntry_c (W : World) (data : List Entry) (data_a : Option Addr) (data_n data_c : Nat) (hl : data.length ≤ 12) : Spec Tryz.prog W [slA 142 entryL (.slice data_a data_n data_c) data] 301 #[.slice data_a data_n data_c, .func (.func 302) #[] #[]] (⟨Unit, fun _ => .tuple #[], fun _ => [slA 142 entryL (.slice data_a data_n data_c) (sortGo entryLess ((data).length - 1) 1 data)]⟩) := by
 refine ENTER (N := 9) (vs := [.slice data_a data_n data_c, .func (.func 302) #[] #[]]) Tryz.func301 rfl rfl (NL rfl) (fun S0 => ?_)
 refine FACT (data_n = data.length ∧ data.length ≤ 9223372036854775807) (fun w hw => SlO.lenE (hw.own 0 rfl)) (fun hdata_len => (RG (UU 4 [(4, .v (.slice data_a data_n data_c)), (6, I (data_n : Int)), (7, .v (.func (.func 302) #[] #[]))] (FACT (data_n = data.length) (fun w hw => (SlO.lenE (hw.own 0 rfl)).1) (fun hln1 => (OPC (CY 8 [0] (fun w hw => stableSortEntry_c w data data_a data_n data_c (data_n : Int) z2 z3) rfl ?_)))))))
 rintro ⟨⟩
 refine ENDOPS (FINN (.tuple #[]) KR () ?_ [0] ?_)
 · rfl
 rfl

theorem sortStablePin_c (W : World) (data : List Pin) (data_a : Option Addr) (data_n data_c : Nat) (hl : data.length ≤ 12) : Spec Tryz.prog W [slA 167 pinL (.slice data_a data_n data_c) data] 331 #[.slice data_a data_n data_c, .func (.func 298) #[] #[]] (⟨Unit, fun _ => .tuple #[], fun _ => [slA 167 pinL (.slice data_a data_n data_c) (sortGo pinLess ((data).length - 1) 1 data)]⟩) := by
 refine ENTER (N := 9) (vs := [.slice data_a data_n data_c, .func (.func 298) #[] #[]]) Tryz.func331 rfl rfl (NL rfl) (fun S0 => ?_)
 refine FACT (data_n = data.length ∧ data.length ≤ 9223372036854775807) (fun w hw => SlO.lenE (hw.own 0 rfl)) (fun hdata_len => (RG (UU 4 [(4, .v (.slice data_a data_n data_c)), (6, I (data_n : Int)), (7, .v (.func (.func 298) #[] #[]))] (FACT (data_n = data.length) (fun w hw => (SlO.lenE (hw.own 0 rfl)).1) (fun hln1 => (OPC (CY 8 [0] (fun w hw => stableSortPin_c w data data_a data_n data_c (data_n : Int) z2 z3) rfl ?_)))))))
 rintro ⟨⟩
 refine ENDOPS (FINN (.tuple #[]) KR () ?_ [0] ?_)
 · rfl
 rfl

theorem len64_c (W : World) (x : Int) : Spec Tryz.prog W [] 316 #[.int .u64 x] (⟨{x : Int // True}, fun q => vi q.1, fun q => []⟩) := by
 refine ENTER0 (N := 25) (vs := [.int .u64 x]) Tryz.func316 rfl rfl (NL rfl) ?_
 have h8 := len8_len
 refine XG (UU 1 [(2, I 0)] (XN (SEQ (XG (UU 2 [(4, B (decide (x ≥ 4294967296)))] (NI (decide (x ≥ 4294967296)) (dT fun h1 bh1 => ?_) (dF fun h1 bh1 => ?_)))))))
 ·
  refine XG (UU 3 [(0, .v (.int .u64 (Int.fdiv x (2 ^ 32))))] (XN (RG (UU 1 [(2, I 32)] (XN (SEQ (XG (UU 2 [(8, B (decide ((Int.fdiv x (2 ^ 32)) ≥ 65536)))] (NI (decide ((Int.fdiv x (2 ^ 32)) ≥ 65536)) (dT fun h2 bh2 => ?_) (dF fun h2 bh2 => ?_))))))))))
  ·
   refine XG (UU 3 [(0, .v (.int .u64 (Int.fdiv (Int.fdiv x (2 ^ 32)) (2 ^ 16))))] (XN (RG (UU 3 [(2, I (wr (32 + 16)))] (XN (SEQ (XG (UU 2 [(14, B (decide ((Int.fdiv (Int.fdiv x (2 ^ 32)) (2 ^ 16)) ≥ 256)))] (NI (decide ((Int.fdiv (Int.fdiv x (2 ^ 32)) (2 ^ 16)) ≥ 256)) (dT fun h3 bh3 => ?_) (dF fun h3 bh3 => ?_))))))))))
   ·
    refine XG (UU 3 [(0, .v (.int .u64 (Int.fdiv (Int.fdiv (Int.fdiv x (2 ^ 32)) (2 ^ 16)) (2 ^ 8))))] (XN (RG (UU 3 [(2, I (wr ((wr (32 + 16)) + 8)))] (NR (UU 3 [(19, I (wr ((wr (32 + 16)) + 8))), (21, .v (.int .u8 (IntKind.wrap .u8 (Int.fdiv (Int.fdiv (Int.fdiv x (2 ^ 32)) (2 ^ 16)) (2 ^ 8)))))] (CS 21 (.int .u8 (IntKind.wrap .u8 (Int.fdiv (Int.fdiv (Int.fdiv x (2 ^ 32)) (2 ^ 16)) (2 ^ 8)))) (.int .u8 (((byteOf (Int.fdiv (Int.fdiv (Int.fdiv x (2 ^ 32)) (2 ^ 16)) (2 ^ 8))).toNat : Nat) : Int)) (v8 (Int.fdiv (Int.fdiv (Int.fdiv x (2 ^ 32)) (2 ^ 16)) (2 ^ 8))) ?_)))))))
    have := UInt8.toNat_lt (byteOf (Int.fdiv (Int.fdiv (Int.fdiv x (2 ^ 32)) (2 ^ 16)) (2 ^ 8)))
    obtain ⟨x4, hx5⟩ : ∃ y, len8tab[(byteOf (Int.fdiv (Int.fdiv (Int.fdiv x (2 ^ 32)) (2 ^ 16)) (2 ^ 8))).toNat]? = some y := ⟨_, List.getElem?_eq_getElem LQ⟩
    refine OPC (RUNV (.index 9 (.const (.string (bs len8tab))) (.tmp 21)) 22 5 KR (NL rfl) (.int .u8 (x4.toNat : Int)) (runs_sidx (s := len8tab) (kd := .u8) (z := (((byteOf (Int.fdiv (Int.fdiv (Int.fdiv x (2 ^ 32)) (2 ^ 16)) (2 ^ 8))).toNat : Nat) : Int)) (k := (byteOf (Int.fdiv (Int.fdiv (Int.fdiv x (2 ^ 32)) (2 ^ 16)) (2 ^ 8))).toNat) KR KR KR LO rfl hx5) (UU 1 [(23, I (IntKind.wrap .i64 (x4.toNat : Int)))] (CS 23 (vi (IntKind.wrap .i64 (x4.toNat : Int))) (vi (x4.toNat : Int)) (vi_u8 x4) (UU 2 [(2, I (wr ((wr ((wr (32 + 16)) + 8)) + (x4.toNat : Int))))] (XF rfl (vi (wr ((wr ((wr (32 + 16)) + 8)) + (x4.toNat : Int)))) ⟨wr ((wr ((wr (32 + 16)) + 8)) + (x4.toNat : Int)), trivial⟩ [] rfl)))))
   refine XK (XG (UU 3 [(19, I (wr (32 + 16))), (21, .v (.int .u8 (IntKind.wrap .u8 (Int.fdiv (Int.fdiv x (2 ^ 32)) (2 ^ 16)))))] (CS 21 (.int .u8 (IntKind.wrap .u8 (Int.fdiv (Int.fdiv x (2 ^ 32)) (2 ^ 16)))) (.int .u8 (((byteOf (Int.fdiv (Int.fdiv x (2 ^ 32)) (2 ^ 16))).toNat : Nat) : Int)) (v8 (Int.fdiv (Int.fdiv x (2 ^ 32)) (2 ^ 16))) ?_)))
   have := UInt8.toNat_lt (byteOf (Int.fdiv (Int.fdiv x (2 ^ 32)) (2 ^ 16)))
   obtain ⟨x6, hx7⟩ : ∃ y, len8tab[(byteOf (Int.fdiv (Int.fdiv x (2 ^ 32)) (2 ^ 16))).toNat]? = some y := ⟨_, List.getElem?_eq_getElem LQ⟩
   refine OPC (RUNV (.index 9 (.const (.string (bs len8tab))) (.tmp 21)) 22 5 KR (NL rfl) (.int .u8 (x6.toNat : Int)) (runs_sidx (s := len8tab) (kd := .u8) (z := (((byteOf (Int.fdiv (Int.fdiv x (2 ^ 32)) (2 ^ 16))).toNat : Nat) : Int)) (k := (byteOf (Int.fdiv (Int.fdiv x (2 ^ 32)) (2 ^ 16))).toNat) KR KR KR LO rfl hx7) (UU 1 [(23, I (IntKind.wrap .i64 (x6.toNat : Int)))] (CS 23 (vi (IntKind.wrap .i64 (x6.toNat : Int))) (vi (x6.toNat : Int)) (vi_u8 x6) (UU 2 [(2, I (wr ((wr (32 + 16)) + (x6.toNat : Int))))] (XF rfl (vi (wr ((wr (32 + 16)) + (x6.toNat : Int)))) ⟨wr ((wr (32 + 16)) + (x6.toNat : Int)), trivial⟩ [] rfl)))))
  refine XK (SEQ (XG (UU 2 [(14, B (decide ((Int.fdiv x (2 ^ 32)) ≥ 256)))] (NI (decide ((Int.fdiv x (2 ^ 32)) ≥ 256)) (dT fun h8 bh8 => ?_) (dF fun h8 bh8 => ?_)))))
  ·
   refine XG (UU 3 [(0, .v (.int .u64 (Int.fdiv (Int.fdiv x (2 ^ 32)) (2 ^ 8))))] (XN (RG (UU 3 [(2, I (wr (32 + 8)))] (NR (UU 3 [(19, I (wr (32 + 8))), (21, .v (.int .u8 (IntKind.wrap .u8 (Int.fdiv (Int.fdiv x (2 ^ 32)) (2 ^ 8)))))] (CS 21 (.int .u8 (IntKind.wrap .u8 (Int.fdiv (Int.fdiv x (2 ^ 32)) (2 ^ 8)))) (.int .u8 (((byteOf (Int.fdiv (Int.fdiv x (2 ^ 32)) (2 ^ 8))).toNat : Nat) : Int)) (v8 (Int.fdiv (Int.fdiv x (2 ^ 32)) (2 ^ 8))) ?_)))))))
   have := UInt8.toNat_lt (byteOf (Int.fdiv (Int.fdiv x (2 ^ 32)) (2 ^ 8)))
   obtain ⟨x9, hx10⟩ : ∃ y, len8tab[(byteOf (Int.fdiv (Int.fdiv x (2 ^ 32)) (2 ^ 8))).toNat]? = some y := ⟨_, List.getElem?_eq_getElem LQ⟩
   refine OPC (RUNV (.index 9 (.const (.string (bs len8tab))) (.tmp 21)) 22 5 KR (NL rfl) (.int .u8 (x9.toNat : Int)) (runs_sidx (s := len8tab) (kd := .u8) (z := (((byteOf (Int.fdiv (Int.fdiv x (2 ^ 32)) (2 ^ 8))).toNat : Nat) : Int)) (k := (byteOf (Int.fdiv (Int.fdiv x (2 ^ 32)) (2 ^ 8))).toNat) KR KR KR LO rfl hx10) (UU 1 [(23, I (IntKind.wrap .i64 (x9.toNat : Int)))] (CS 23 (vi (IntKind.wrap .i64 (x9.toNat : Int))) (vi (x9.toNat : Int)) (vi_u8 x9) (UU 2 [(2, I (wr ((wr (32 + 8)) + (x9.toNat : Int))))] (XF rfl (vi (wr ((wr (32 + 8)) + (x9.toNat : Int)))) ⟨wr ((wr (32 + 8)) + (x9.toNat : Int)), trivial⟩ [] rfl)))))
  refine XK (XG (UU 3 [(19, I 32), (21, .v (.int .u8 (IntKind.wrap .u8 (Int.fdiv x (2 ^ 32)))))] (CS 21 (.int .u8 (IntKind.wrap .u8 (Int.fdiv x (2 ^ 32)))) (.int .u8 (((byteOf (Int.fdiv x (2 ^ 32))).toNat : Nat) : Int)) (v8 (Int.fdiv x (2 ^ 32))) ?_)))
  have := UInt8.toNat_lt (byteOf (Int.fdiv x (2 ^ 32)))
  obtain ⟨x11, hx12⟩ : ∃ y, len8tab[(byteOf (Int.fdiv x (2 ^ 32))).toNat]? = some y := ⟨_, List.getElem?_eq_getElem LQ⟩
  refine OPC (RUNV (.index 9 (.const (.string (bs len8tab))) (.tmp 21)) 22 5 KR (NL rfl) (.int .u8 (x11.toNat : Int)) (runs_sidx (s := len8tab) (kd := .u8) (z := (((byteOf (Int.fdiv x (2 ^ 32))).toNat : Nat) : Int)) (k := (byteOf (Int.fdiv x (2 ^ 32))).toNat) KR KR KR LO rfl hx12) (UU 1 [(23, I (IntKind.wrap .i64 (x11.toNat : Int)))] (CS 23 (vi (IntKind.wrap .i64 (x11.toNat : Int))) (vi (x11.toNat : Int)) (vi_u8 x11) (UU 2 [(2, I (wr (32 + (x11.toNat : Int))))] (XF rfl (vi (wr (32 + (x11.toNat : Int)))) ⟨wr (32 + (x11.toNat : Int)), trivial⟩ [] rfl)))))
 refine XK (SEQ (XG (UU 2 [(8, B (decide (x ≥ 65536)))] (NI (decide (x ≥ 65536)) (dT fun h13 bh13 => ?_) (dF fun h13 bh13 => ?_)))))
 ·
  refine XG (UU 3 [(0, .v (.int .u64 (Int.fdiv x (2 ^ 16))))] (XN (RG (UU 3 [(2, I (wr (0 + 16)))] (XN (SEQ (XG (UU 2 [(14, B (decide ((Int.fdiv x (2 ^ 16)) ≥ 256)))] (NI (decide ((Int.fdiv x (2 ^ 16)) ≥ 256)) (dT fun h14 bh14 => ?_) (dF fun h14 bh14 => ?_))))))))))
  ·
   refine XG (UU 3 [(0, .v (.int .u64 (Int.fdiv (Int.fdiv x (2 ^ 16)) (2 ^ 8))))] (XN (RG (UU 3 [(2, I (wr ((wr (0 + 16)) + 8)))] (NR (UU 3 [(19, I (wr ((wr (0 + 16)) + 8))), (21, .v (.int .u8 (IntKind.wrap .u8 (Int.fdiv (Int.fdiv x (2 ^ 16)) (2 ^ 8)))))] (CS 21 (.int .u8 (IntKind.wrap .u8 (Int.fdiv (Int.fdiv x (2 ^ 16)) (2 ^ 8)))) (.int .u8 (((byteOf (Int.fdiv (Int.fdiv x (2 ^ 16)) (2 ^ 8))).toNat : Nat) : Int)) (v8 (Int.fdiv (Int.fdiv x (2 ^ 16)) (2 ^ 8))) ?_)))))))
   have := UInt8.toNat_lt (byteOf (Int.fdiv (Int.fdiv x (2 ^ 16)) (2 ^ 8)))
   obtain ⟨x15, hx16⟩ : ∃ y, len8tab[(byteOf (Int.fdiv (Int.fdiv x (2 ^ 16)) (2 ^ 8))).toNat]? = some y := ⟨_, List.getElem?_eq_getElem LQ⟩
   refine OPC (RUNV (.index 9 (.const (.string (bs len8tab))) (.tmp 21)) 22 5 KR (NL rfl) (.int .u8 (x15.toNat : Int)) (runs_sidx (s := len8tab) (kd := .u8) (z := (((byteOf (Int.fdiv (Int.fdiv x (2 ^ 16)) (2 ^ 8))).toNat : Nat) : Int)) (k := (byteOf (Int.fdiv (Int.fdiv x (2 ^ 16)) (2 ^ 8))).toNat) KR KR KR LO rfl hx16) (UU 1 [(23, I (IntKind.wrap .i64 (x15.toNat : Int)))] (CS 23 (vi (IntKind.wrap .i64 (x15.toNat : Int))) (vi (x15.toNat : Int)) (vi_u8 x15) (UU 2 [(2, I (wr ((wr ((wr (0 + 16)) + 8)) + (x15.toNat : Int))))] (XF rfl (vi (wr ((wr ((wr (0 + 16)) + 8)) + (x15.toNat : Int)))) ⟨wr ((wr ((wr (0 + 16)) + 8)) + (x15.toNat : Int)), trivial⟩ [] rfl)))))
  refine XK (XG (UU 3 [(19, I (wr (0 + 16))), (21, .v (.int .u8 (IntKind.wrap .u8 (Int.fdiv x (2 ^ 16)))))] (CS 21 (.int .u8 (IntKind.wrap .u8 (Int.fdiv x (2 ^ 16)))) (.int .u8 (((byteOf (Int.fdiv x (2 ^ 16))).toNat : Nat) : Int)) (v8 (Int.fdiv x (2 ^ 16))) ?_)))
  have := UInt8.toNat_lt (byteOf (Int.fdiv x (2 ^ 16)))
  obtain ⟨x17, hx18⟩ : ∃ y, len8tab[(byteOf (Int.fdiv x (2 ^ 16))).toNat]? = some y := ⟨_, List.getElem?_eq_getElem LQ⟩
  refine OPC (RUNV (.index 9 (.const (.string (bs len8tab))) (.tmp 21)) 22 5 KR (NL rfl) (.int .u8 (x17.toNat : Int)) (runs_sidx (s := len8tab) (kd := .u8) (z := (((byteOf (Int.fdiv x (2 ^ 16))).toNat : Nat) : Int)) (k := (byteOf (Int.fdiv x (2 ^ 16))).toNat) KR KR KR LO rfl hx18) (UU 1 [(23, I (IntKind.wrap .i64 (x17.toNat : Int)))] (CS 23 (vi (IntKind.wrap .i64 (x17.toNat : Int))) (vi (x17.toNat : Int)) (vi_u8 x17) (UU 2 [(2, I (wr ((wr (0 + 16)) + (x17.toNat : Int))))] (XF rfl (vi (wr ((wr (0 + 16)) + (x17.toNat : Int)))) ⟨wr ((wr (0 + 16)) + (x17.toNat : Int)), trivial⟩ [] rfl)))))
 refine XK (SEQ (XG (UU 2 [(14, B (decide (x ≥ 256)))] (NI (decide (x ≥ 256)) (dT fun h19 bh19 => ?_) (dF fun h19 bh19 => ?_)))))
 ·
  refine XG (UU 3 [(0, .v (.int .u64 (Int.fdiv x (2 ^ 8))))] (XN (RG (UU 3 [(2, I (wr (0 + 8)))] (NR (UU 3 [(19, I (wr (0 + 8))), (21, .v (.int .u8 (IntKind.wrap .u8 (Int.fdiv x (2 ^ 8)))))] (CS 21 (.int .u8 (IntKind.wrap .u8 (Int.fdiv x (2 ^ 8)))) (.int .u8 (((byteOf (Int.fdiv x (2 ^ 8))).toNat : Nat) : Int)) (v8 (Int.fdiv x (2 ^ 8))) ?_)))))))
  have := UInt8.toNat_lt (byteOf (Int.fdiv x (2 ^ 8)))
  obtain ⟨x20, hx21⟩ : ∃ y, len8tab[(byteOf (Int.fdiv x (2 ^ 8))).toNat]? = some y := ⟨_, List.getElem?_eq_getElem LQ⟩
  refine OPC (RUNV (.index 9 (.const (.string (bs len8tab))) (.tmp 21)) 22 5 KR (NL rfl) (.int .u8 (x20.toNat : Int)) (runs_sidx (s := len8tab) (kd := .u8) (z := (((byteOf (Int.fdiv x (2 ^ 8))).toNat : Nat) : Int)) (k := (byteOf (Int.fdiv x (2 ^ 8))).toNat) KR KR KR LO rfl hx21) (UU 1 [(23, I (IntKind.wrap .i64 (x20.toNat : Int)))] (CS 23 (vi (IntKind.wrap .i64 (x20.toNat : Int))) (vi (x20.toNat : Int)) (vi_u8 x20) (UU 2 [(2, I (wr ((wr (0 + 8)) + (x20.toNat : Int))))] (XF rfl (vi (wr ((wr (0 + 8)) + (x20.toNat : Int)))) ⟨wr ((wr (0 + 8)) + (x20.toNat : Int)), trivial⟩ [] rfl)))))
 refine XK (XG (UU 3 [(19, I 0), (21, .v (.int .u8 (IntKind.wrap .u8 x)))] (CS 21 (.int .u8 (IntKind.wrap .u8 x)) (.int .u8 (((byteOf x).toNat : Nat) : Int)) (v8 x) ?_)))
 have := UInt8.toNat_lt (byteOf x)
 obtain ⟨x22, hx23⟩ : ∃ y, len8tab[(byteOf x).toNat]? = some y := ⟨_, List.getElem?_eq_getElem LQ⟩
 refine OPC (RUNV (.index 9 (.const (.string (bs len8tab))) (.tmp 21)) 22 5 KR (NL rfl) (.int .u8 (x22.toNat : Int)) (runs_sidx (s := len8tab) (kd := .u8) (z := (((byteOf x).toNat : Nat) : Int)) (k := (byteOf x).toNat) KR KR KR LO rfl hx23) (UU 1 [(23, I (IntKind.wrap .i64 (x22.toNat : Int)))] (CS 23 (vi (IntKind.wrap .i64 (x22.toNat : Int))) (vi (x22.toNat : Int)) (vi_u8 x22) (UU 2 [(2, I (wr (0 + (x22.toNat : Int))))] (XF rfl (vi (wr (0 + (x22.toNat : Int)))) ⟨wr (0 + (x22.toNat : Int)), trivial⟩ [] rfl)))))

theorem bitsLen_c (W : World) (x : Int) : Spec Tryz.prog W [] 226 #[.int .u64 x] (⟨{x : Int // True}, fun q => vi q.1, fun q => []⟩) := by
 refine ENTER0 (N := 8) (vs := [.int .u64 x]) Tryz.func226 rfl rfl (NL rfl) ?_
 refine XG (UU 1 [] (XN (SEQ (IFF KR (XK (XG (UU 1 [(6, .v (.int .u64 x))] (OPC (CX 7 (fun w hw => len64_c w x) ?_)))))))))
 rintro ⟨m1, hm2⟩
 try dsimp only at hm2
 refine UU 1 [(2, I m1)] (XF rfl (vi m1) ⟨m1, trivial⟩ [] rfl)

theorem pdqPin_c (W : World) (data : List Pin) (data_a : Option Addr) (data_n data_c : Nat) (a : Int) (b : Int) (limit : Int) (ha : a = 0) (hb : b = (data.length : Int)) (hl : data.length ≤ 12) : Spec Tryz.prog W [slA 167 pinL (.slice data_a data_n data_c) data] 361 #[.slice data_a data_n data_c, vi a, vi b, vi limit, .func (.func 298) #[] #[]] (⟨Unit, fun _ => .tuple #[], fun _ => [slA 167 pinL (.slice data_a data_n data_c) (sortGo pinLess ((data).length - 1) 1 data)]⟩) := by
 refine ENTER (N := 148) (vs := [.slice data_a data_n data_c, vi a, vi b, vi limit, .func (.func 298) #[] #[]]) Tryz.func361 rfl rfl (NL rfl) (fun S0 => ?_)
 refine FACT (data_n = data.length ∧ data.length ≤ 9223372036854775807) (fun w hw => SlO.lenE (hw.own 0 rfl)) (fun hdata_len => (XG (UU 1 [(10, B true)] (NR (UU 1 [(11, B true)] (XN (BLOCK (LOOP (ι := Unit) (fun j => [(0, .v (.slice data_a data_n data_c)), (1, I a), (2, I b), (3, I limit), (4, .v (.func (.func 298) #[] #[])), (10, B true), (11, B true)]) (fun j => []) (fun j => [slA 167 pinL (.slice data_a data_n data_c) data]) (fun j => True) (fun j => 0) (()) [0, 1, 2, 3, 4, 10, 11] trivial KR rfl rfl ?_))))))))
 rintro u hu
 try dsimp only at hu
 refine BLOCK (XG (UU 4 [(12, I (wr (b - a)))] (XN (SEQ (XG (UU 2 [(25, B (decide ((wr (b - a)) ≤ 12)))] (NI (decide ((wr (b - a)) ≤ 12)) (fun bh1 => ?_) (fun bh1 => ?_))))))))
 ·
  have h1 := of_decide_eq_true bh1
  refine XG (UU 4 [(26, .v (.slice data_a data_n data_c)), (27, I a), (28, I b), (29, .v (.func (.func 298) #[] #[]))] (FACT (data_n = data.length) (fun w hw => (SlO.lenE (hw.own 0 rfl)).1) (fun hln2 => (OPC (CY 30 [0] (fun w hw => insSortPin_c w data data_a data_n data_c a b z2 z3 LO) rfl ?_)))))
  rintro ⟨⟩
  refine XF rfl (.tuple #[]) () [0] rfl
 have bh1 := of_decide_eq_false bh1; rw [wr_of LO LO] at bh1; exfalso; omega

theorem sortFPin_c (W : World) (data : List Pin) (data_a : Option Addr) (data_n data_c : Nat) (hl : data.length ≤ 12) : Spec Tryz.prog W [slA 167 pinL (.slice data_a data_n data_c) data] 330 #[.slice data_a data_n data_c, .func (.func 298) #[] #[]] (⟨Unit, fun _ => .tuple #[], fun _ => [slA 167 pinL (.slice data_a data_n data_c) (sortGo pinLess ((data).length - 1) 1 data)]⟩) := by
 refine ENTER (N := 14) (vs := [.slice data_a data_n data_c, .func (.func 298) #[] #[]]) Tryz.func330 rfl rfl (NL rfl) (fun S0 => ?_)
 refine FACT (data_n = data.length ∧ data.length ≤ 9223372036854775807) (fun w hw => SlO.lenE (hw.own 0 rfl)) (fun hdata_len => (XG (UU 3 [(4, I (data_n : Int))] (XN (RG (UU 4 [(7, .v (.slice data_a data_n data_c)), (8, I (data_n : Int)), (10, .v (.int .u64 (IntKind.wrap .u64 (data_n : Int))))] (OPC (CX 11 (fun w hw => bitsLen_c w (IntKind.wrap .u64 (data_n : Int))) ?_))))))))
 rintro ⟨m1, hm2⟩
 try dsimp only at hm2
 refine UU 1 [(12, .v (.func (.func 298) #[] #[]))] (FACT (data_n = data.length) (fun w hw => (SlO.lenE (hw.own 0 rfl)).1) (fun hln3 => (OPC (CY 13 [0] (fun w hw => pdqPin_c w data data_a data_n data_c 0 (data_n : Int) m1 z2 z3 LO) rfl ?_))))
 rintro ⟨⟩
 refine ENDOPS (FINN (.tuple #[]) KR () ?_ [0] ?_)
 · rfl
 rfl

end SX
end Go.Proofs.YthnbaikmbgaddaaGreat
