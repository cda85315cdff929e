/- The program's side: chains of upgrades. -/
import Derived.Test.YtejojcoaohlfbaaGreatSx9
import Derived.Test.YtejojcoaohlfbaaGreatMdlg
import Derived.Test.YtejojcoaohlfbaaGreatEC
import Derived.Test.YtejojcoaohlfbaaGreatLC
import Derived.Test.YtejojcoaohlfbaaGreatLD
import Derived.Test.YtejojcoaohlfbaaGreatBP
import Derived.Test.YtejojcoaohlfbaaGreatED
namespace Go.Proofs.YtejojcoaohlfbaaGreat
namespace SX
open Go Go.RowKit
set_option linter.unusedVariables false
set_option linter.unusedSimpArgs false
set_option maxRecDepth 10000
set_option maxHeartbeats 400000
theorem zcq (W : World) (x : Int) (y : Int) : Spec Tryz.prog W [] 335 #[vi x, vi y] (RV (.bool (ltI x y))) := by
 refine ENTER0 (N := 17) (vs := [vi x, vi y]) Tryz.func335 rfl rfl (NL rfl) ?_
 refine XG (UU 1 [] (NR (UU 1 [(5, I x)] (OPC (CX 6 (fun w hw => isNaN_c.pf w x) ?_)))))
 rintro ⟨⟩
 refine UU 11 [(4, B (decide (x < y)))] (XF rfl (.bool (decide (x < y))) () [] (by first | (simp [RV, ltI, *]; done) | (simp_all [RV, ltI]; done)))
theorem zbD (W : World) (data : List Int) (data_a : Option Addr) (data_n data_c : Nat) (a : Int) (b : Int) (ha : a = 0) (hb : b = (data.length : Int)) (hl : data.length ≤ 1048576) : Spec Tryz.prog W [slA 3 intL (.slice data_a data_n data_c) data] 329 #[.slice data_a data_n data_c, vi a, vi b] (⟨Unit, fun _ => .tuple #[], fun _ => [slA 3 intL (.slice data_a data_n data_c) (sortGo ltI ((data).length - 1) 1 data)]⟩) := by
 refine ENTER (N := 49) (vs := [.slice data_a data_n data_c, vi a, vi b]) Tryz.func329 rfl rfl (NL rfl) (fun S0 => ?_)
 refine FACT (data_n = data.length ∧ data.length ≤ 9223372036854775807) (fun w hw => SlO.lenE (hw.own 0 rfl)) (fun hdata_len => (XG (UU 3 [(6, I (wr (a + 1)))] (XN (BLOCK (CS 6 (vi (wr (a + 1))) (vi (1 : Int)) ((by rw [ha]; rfl)) (LOOP (ι := Nat × (List Int)) (fun j => [(0, .v (.slice data_a data_n data_c)), (1, I a), (2, I b), (6, I (j.1 : Int))]) (fun j => []) (fun j => [slA 3 intL (.slice data_a data_n data_c) j.2]) (fun j => j.2.length = data.length ∧ 1 ≤ j.1 ∧ sortGo ltI (data.length - 1) 1 data = sortGo ltI (data.length - j.1) j.1 j.2) (fun j => data.length - j.1) (1, data) [0, 1, 2, 6] ⟨rfl, Nat.le_refl _, rfl⟩ KR rfl rfl ?_)))))))
 rintro ⟨i, xs⟩ ⟨hxl, hi1, hso⟩
 try dsimp only at hxl hi1 hso
 refine SEQ (XG (UU 3 [(12, B (decide ((i : Int) < b)))] (NI (decide ((i : Int) < b)) (dT fun h1 bh1 => ?_) (dF fun h1 bh1 => ?_))))
 ·
  refine XK (SEQ (BLOCK (XG (UU 2 [(7, I (i : Int))] (XN (BLOCK (LOOP (ι := Nat × (List Int)) (fun j => [(0, .v (.slice data_a data_n data_c)), (1, I a), (2, I b), (6, I (i : Int)), (7, I (j.1 : Int))]) (fun j => []) (fun j => [slA 3 intL (.slice data_a data_n data_c) j.2]) (fun j => j.2.length = data.length ∧ j.1 ≤ i ∧ sink ltI i xs = sink ltI j.1 j.2) (fun j => j.1) (i, xs) [0, 1, 2, 6, 7] ⟨hxl, Nat.le_refl _, rfl⟩ KR rfl rfl ?_)))))))
  rintro ⟨j, ys⟩ ⟨hyl, hji, hsk⟩
  try dsimp only at hyl hji hsk
  refine SEQ (SEQ (FACT (data_a.isSome = true) (fun w hw => SlO.isS (hw.own 0 rfl) LD) (fun hso2 => (REGIONQ KR KR (QU 4 [(19, B (decide ((j : Int) > a)))] (QSP 19 (decide ((j : Int) > a)) (dT fun h3 bh3 => ?_) (dF fun h3 bh3 => ?_)))))))
  ·
   refine QU 2 [(20, .v (.slice data_a data_n data_c)), (21, I (j : Int))] ?_
   obtain ⟨x4, hx5⟩ : ∃ y, ys[j]? = some y := ⟨_, List.getElem?_eq_getElem LO⟩
   refine QIX 22 (.tmp 20) (.tmp 21) 22 0 data_a data_n data_c .i64 (j : Int) 3 1 hso2 LO LO (QLE 3 (.tmp 22) 23 3 data_a (j * 1) 0 ([vi x4]) (vi x4) (fun w hw => (hw.rdO 0 rfl).flat hx5) (QU 3 [(24, .v (.slice data_a data_n data_c)), (26, I (wr ((j : Int) - 1)))] (QCAST (d := 26) (vi (wr ((j : Int) - 1))) (vi ((j - 1 : Nat) : Int)) KR VC ?_)))
   obtain ⟨x6, hx7⟩ : ∃ y, ys[j - 1]? = some y := ⟨_, List.getElem?_eq_getElem LO⟩
   refine QIX 22 (.tmp 24) (.tmp 26) 27 0 data_a data_n data_c .i64 ((j - 1 : Nat) : Int) 3 1 hso2 LO LO (QLE 3 (.tmp 27) 28 3 data_a ((j - 1) * 1) 0 ([vi x6]) (vi x6) (fun w hw => (hw.rdO 0 rfl).flat hx7) (QX 29 (fun w hw => zcq w x4 x6) (QU 1 [(30, B (ltI x4 x6))] (QEND rfl (NEXT (IFK (ltI x4 x6) (fun bh8 => ?_) (fun bh8 => ?_)))))))
   ·
    have h8 := bh8
    refine XK (SEQ (BLOCK (REGIONH KR 18 rfl [] (HP [] 0 [(33, .v (.slice data_a data_n data_c))] (HP [] 1 [(34, I (j : Int))] (HP [] 2 [(35, .v (.slice data_a data_n data_c))] (HP [] 3 [(36, I (j : Int))] (HP [] 4 [(37, I (wr ((j : Int) - 1)))] (HCAST (d := 37) (vi (wr ((j : Int) - 1))) (vi ((j - 1 : Nat) : Int)) KR VC (HP [] 5 [(38, .v (.slice data_a data_n data_c))] (HP [] 6 [(39, I (j : Int))] (HP [] 7 [(40, I (wr ((j : Int) - 1)))] (HCAST (d := 40) (vi (wr ((j : Int) - 1))) (vi ((j - 1 : Nat) : Int)) KR VC (HINDEX (i := 8) (js := []) 22 (.tmp 38) (.tmp 40) 41 0 KR (NL rfl) data_a data_n data_c .i64 ((j - 1 : Nat) : Int) 3 1 KR KR KR KR hso2 LO LO KR rfl (HP [] 10 [(43, .v (.slice data_a data_n data_c))] (HP [] 11 [(44, I (j : Int))] (HINDEX (i := 12) (js := []) 22 (.tmp 43) (.tmp 44) 45 0 KR (NL rfl) data_a data_n data_c .i64 (j : Int) 3 1 KR KR KR KR hso2 LO LO KR rfl (HALL [9, 13] KR (by decide) ⟨?_, ?_⟩))))))))))))))))))
    ·
     refine LE 3 (.tmp 41) 42 3 data_a ((j - 1) * 1) 0 ([vi x6]) (vi x6) (fun w hw => (hw.rdO 0 rfl).flat hx7) (HK [] [13] (LE 3 (.tmp 45) 46 3 data_a (j * 1) 0 ([vi x4]) (vi x4) (fun w hw => (hw.rdO 0 rfl).flat hx5) (HW [] (HINDEX (i := 14) (js := []) 22 (.tmp 33) (.tmp 34) 47 0 KR (NL rfl) data_a data_n data_c .i64 (j : Int) 3 1 KR KR KR KR hso2 LO LO KR rfl (HALL [15] KR (by decide) (STOREF 3 (.tmp 47) (.tmp 42) 0 KR 0 _ 3 data_a data_n data_c j 0 ys rfl x4 x6 hx5 (vi x6) KR KR KR (HW [] (FACT (data_n = (ys.set j x6).length) (fun w hw => (SlO.lenE (hw.own 0 rfl)).1) (fun hln9 => ?_)))))))))
     obtain ⟨x10, hx11⟩ : ∃ y, (ys.set j x6)[j - 1]? = some y := ⟨_, List.getElem?_eq_getElem (by simp only [List.length_set]; omega)⟩
     refine HINDEX (i := 16) (js := []) 22 (.tmp 35) (.tmp 37) 48 0 KR (NL rfl) data_a data_n data_c .i64 ((j - 1 : Nat) : Int) 3 1 KR KR KR KR hso2 LO LO KR rfl (HALL [17] KR (by decide) (STOREF 3 (.tmp 48) (.tmp 46) 0 KR 0 _ 3 data_a data_n data_c (j - 1) 0 (ys.set j x6) rfl x10 x4 hx11 (vi x4) KR KR KR (HW [] (HDz (OUTN (NEXT (RG (UU 2 [(32, I (wr ((j : Int) - 1)))] (CS 32 (vi (wr ((j : Int) - 1))) (vi ((j - 1 : Nat) : Int)) VC (UU 1 [(7, I ((j - 1 : Nat) : Int))] (ENDOPS (BK (j - 1, (ys.set j x6).set (j - 1) x4) [0, 1, 2, 6, 7] 0 [0] ⟨by simp only [List.length_set]; exact hyl, by dsimp only; omega, hsk.trans (sink_step hx5 hx7 LO LS)⟩ (by dsimp only; omega)))))))))))))
    refine LE 3 (.tmp 45) 46 3 data_a (j * 1) 0 ([vi x4]) (vi x4) (fun w hw => (hw.rdO 0 rfl).flat hx5) (HK [] [9] (LE 3 (.tmp 41) 42 3 data_a ((j - 1) * 1) 0 ([vi x6]) (vi x6) (fun w hw => (hw.rdO 0 rfl).flat hx7) (HW [] (HINDEX (i := 14) (js := []) 22 (.tmp 33) (.tmp 34) 47 0 KR (NL rfl) data_a data_n data_c .i64 (j : Int) 3 1 KR KR KR KR hso2 LO LO KR rfl (HALL [15] KR (by decide) (STOREF 3 (.tmp 47) (.tmp 42) 0 KR 0 _ 3 data_a data_n data_c j 0 ys rfl x4 x6 hx5 (vi x6) KR KR KR (HW [] (FACT (data_n = (ys.set j x6).length) (fun w hw => (SlO.lenE (hw.own 0 rfl)).1) (fun hln12 => ?_)))))))))
    obtain ⟨x13, hx14⟩ : ∃ y, (ys.set j x6)[j - 1]? = some y := ⟨_, List.getElem?_eq_getElem (by simp only [List.length_set]; omega)⟩
    refine HINDEX (i := 16) (js := []) 22 (.tmp 35) (.tmp 37) 48 0 KR (NL rfl) data_a data_n data_c .i64 ((j - 1 : Nat) : Int) 3 1 KR KR KR KR hso2 LO LO KR rfl (HALL [17] KR (by decide) (STOREF 3 (.tmp 48) (.tmp 46) 0 KR 0 _ 3 data_a data_n data_c (j - 1) 0 (ys.set j x6) rfl x13 x4 hx14 (vi x4) KR KR KR (HW [] (HDz (OUTN (NEXT (RG (UU 2 [(32, I (wr ((j : Int) - 1)))] (CS 32 (vi (wr ((j : Int) - 1))) (vi ((j - 1 : Nat) : Int)) VC (UU 1 [(7, I ((j - 1 : Nat) : Int))] (ENDOPS (BK (j - 1, (ys.set j x6).set (j - 1) x4) [0, 1, 2, 6, 7] 0 [0] ⟨by simp only [List.length_set]; exact hyl, by dsimp only; omega, hsk.trans (sink_step hx5 hx7 LO LS)⟩ (by dsimp only; omega)))))))))))))
   have h8 := bh8
   have hend : sink ltI j ys = ys := sink_stop hx5 hx7 LO bh8
   refine EXIT (PASS trivial (PASS trivial (OUT (OUTN (NEXT (RG (UU 2 [(14, I (wr ((i : Int) + 1)))] (CS 14 (vi (wr ((i : Int) + 1))) (vi ((i + 1 : Nat) : Int)) VC (UU 1 [(6, I ((i + 1 : Nat) : Int))] (ENDOPS (BK (i + 1, ys) [0, 1, 2, 6] 0 [0] ⟨by dsimp only; omega, by dsimp only; omega, hso.trans ((sortGo_step LO).trans (by rw [hsk, hend]))⟩ (by dsimp only; omega))))))))))))
  have hend : sink ltI j ys = ys := by rw [show j = 0 by omega]; rfl
  refine QU 11 [(30, B false)] (QEND rfl (NEXT (IFF KR (EXIT (PASS trivial (PASS trivial (OUT (OUTN (NEXT (RG (UU 2 [(14, I (wr ((i : Int) + 1)))] (CS 14 (vi (wr ((i : Int) + 1))) (vi ((i + 1 : Nat) : Int)) VC (UU 1 [(6, I ((i + 1 : Nat) : Int))] (ENDOPS (BK (i + 1, ys) [0, 1, 2, 6] 0 [0] ⟨by dsimp only; omega, by dsimp only; omega, hso.trans ((sortGo_step LO).trans (by rw [hsk, hend]))⟩ (by dsimp only; omega))))))))))))))))
 refine EXIT (PASS trivial (PASS trivial (OUT (FINN (.tuple #[]) KR () ?_ [0] ?_))))
 · rfl
 (rw [show sortGo ltI (data.length - 1) 1 data = xs from hso.trans (sortGo_stop LO)]; rfl)
theorem zcZ (W : World) (data : List Int) (data_a : Option Addr) (data_n data_c : Nat) (a : Int) (b : Int) (limit : Int) (ha : a = 0) (hb : b = (data.length : Int)) (hl : data.length ≤ 12) : Spec Tryz.prog W [slA 3 intL (.slice data_a data_n data_c) data] 250 #[.slice data_a data_n data_c, vi a, vi b, vi limit] (⟨Unit, fun _ => .tuple #[], fun _ => [slA 3 intL (.slice data_a data_n data_c) (sortGo ltI ((data).length - 1) 1 data)]⟩) := by
 refine ENTER (N := 134) (vs := [.slice data_a data_n data_c, vi a, vi b, vi limit]) Tryz.func250 rfl rfl (NL rfl) (fun S0 => ?_)
 refine FACT (data_n = data.length ∧ data.length ≤ 9223372036854775807) (fun w hw => SlO.lenE (hw.own 0 rfl)) (fun hdata_len => (XG (UU 1 [(8, B true)] (NR (UU 1 [(9, B true)] (XN (BLOCK (LOOP (ι := Unit) (fun j => [(0, .v (.slice data_a data_n data_c)), (1, I a), (2, I b), (3, I limit), (8, B true), (9, B true)]) (fun j => []) (fun j => [slA 3 intL (.slice data_a data_n data_c) data]) (fun j => True) (fun j => 0) (()) [0, 1, 2, 3, 8, 9] trivial KR rfl rfl ?_))))))))
 rintro u hu
 try dsimp only at hu
 refine BLOCK (XG (UU 4 [(10, I (wr (b - a)))] (XN (SEQ (XG (UU 2 [(23, B (decide ((wr (b - a)) ≤ 12)))] (NI (decide ((wr (b - a)) ≤ 12)) (fun bh1 => ?_) (fun bh1 => ?_))))))))
 ·
  have h1 := of_decide_eq_true bh1
  refine XG (UU 3 [(24, .v (.slice data_a data_n data_c)), (25, I a), (26, I b)] (FACT (data_n = data.length) (fun w hw => (SlO.lenE (hw.own 0 rfl)).1) (fun hln2 => (OPC (CY 27 [0] (fun w hw => zbD w data data_a data_n data_c a b (by first | assumption | rfl | omega) (by first | assumption | omega) LO) rfl ?_)))))
  rintro ⟨⟩
  refine XF rfl (.tuple #[]) () [0] rfl
 have bh1 := of_decide_eq_false bh1; rw [wr_of LO LO] at bh1; exfalso; omega
theorem zcz (W : World) (data : List Int) (data_a : Option Addr) (data_n data_c : Nat) (hl : data.length ≤ 12) : Spec Tryz.prog W [slA 3 intL (.slice data_a data_n data_c) data] 148 #[.slice data_a data_n data_c] (⟨Unit, fun _ => .tuple #[], fun _ => [slA 3 intL (.slice data_a data_n data_c) (sortGo ltI ((data).length - 1) 1 data)]⟩) := by
 refine ENTER (N := 11) (vs := [.slice data_a data_n data_c]) Tryz.func148 rfl rfl (NL rfl) (fun S0 => ?_)
 refine FACT (data_n = data.length ∧ data.length ≤ 9223372036854775807) (fun w hw => SlO.lenE (hw.own 0 rfl)) (fun hdata_len => (XG (UU 3 [(2, I (data_n : Int))] (XN (RG (UU 4 [(5, .v (.slice data_a data_n data_c)), (6, I (data_n : Int)), (8, .v (.int .u64 (IntKind.wrap .u64 (data_n : Int))))] (OPC (CX 9 (fun w hw => bitsLen_c w (IntKind.wrap .u64 (data_n : Int))) ?_))))))))
 rintro ⟨m1, hm2⟩
 try dsimp only at hm2
 refine FACT (data_n = data.length) (fun w hw => (SlO.lenE (hw.own 0 rfl)).1) (fun hln3 => (OPC (CY 10 [0] (fun w hw => zcZ w data data_a data_n data_c 0 (data_n : Int) m1 (by first | assumption | rfl | omega) (by first | assumption | omega) LO) rfl ?_)))
 rintro ⟨⟩
 refine ENDOPS (FINN (.tuple #[]) KR () ?_ [0] ?_)
 · rfl
 rfl
set_option maxHeartbeats 1000000
attribute [local irreducible] CD DN OPL AT QL QT CND RETG BKP HL HT HO slA slHo slP ptC pull pulls zJ
instance zdX : HC 249 (∀ (W : World) (b d : Nat) (z f : Int) (p : Party), ElemAt W (some ⟨b, 0, none⟩) 0 [vi z] → ElemAt W (some ⟨d, 0, none⟩) 0 [vi f] →Sp W [] 249 #[.agg (partyE p).toArray, .pointer (some ⟨b, 0, none⟩), .pointer (some ⟨d, 0, none⟩)] (RV (.bool (zH z f p)))) := by
 refine ⟨fun W b d z f p hb hd => ?_⟩
 refine gENT (vs := [_, _, _]) Tryz.func249 (cVP (d := 1) rfl (cVP (d := 2) rfl ?_))
 repeat' first | refine ST ?_ | refine ST2 ?_ | intro _ | apply And.intro
 all_goals first | rfl | (simp [zH, *]; done)
instance zdO : HC 239 (∀ (W : World) (list : List Party) (v : Value) (b d : Nat) (z f : Int), Rs partyL W v list → ElemAt W (some ⟨b, 0, none⟩) 0 [vi z] → ElemAt W (some ⟨d, 0, none⟩) 0 [vi f] →Sp W [] 239 #[v, .func (.func 249) #[] #[.pointer (some ⟨b, 0, none⟩), .pointer (some ⟨d, 0, none⟩)]] (RV (vi (idxF (zH z f) list 0)))) := by
 refine ⟨fun W list v b d z f ⟨a, c, e, hc, hr⟩ hb hd => ?_⟩
 subst e; have hl := hr.len
 refine gENT (vs := [_, _]) Tryz.func239 ?_
 repeat' first | refine ST ?_ | refine ST2 ?_ | intro _ | apply And.intro
 refine gFOR 8 list.length (fun k => idxF (zH z f) list 0 = idxF (zH z f) (list.drop k) k) rfl fun k hk hv => ?_
 repeat' first | (refine idAT ?_; refine aCa ?_; refine aCV (f := 249) (hcon := by intro c w hw; exact c w b d z f list[k] (ElemAt.fr hb hw.fr) (ElemAt.fr hd hw.fr)) (k := ?_)) | refine ST ?_ | refine ST2 ?_ | intro _ | apply And.intro
 all_goals grind [idxF, List.drop_eq_getElem_cons]
instance zdK : HC 137 (∀ (W : World) (list : List Party) (v : Value) (b d : Nat) (z f : Int), Rs partyL W v list → ElemAt W (some ⟨b, 0, none⟩) 0 [vi z] → ElemAt W (some ⟨d, 0, none⟩) 0 [vi f] →Sp W [] 137 #[v, .func (.func 249) #[] #[.pointer (some ⟨b, 0, none⟩), .pointer (some ⟨d, 0, none⟩)]] (RV (.bool (list.any (zH z f))))) := by
 refine ⟨fun W list v b d z f hl hb hd => ?_⟩
 have hl1 := hl; obtain ⟨a, c, rfl, hc, hr⟩ := hl
 refine gENT (vs := [_, _]) Tryz.func137 ?_
 repeat' first | (refine idAT ?_; refine aCa ?_; refine aCV (f := 239) (hcon := by intro c w hw; exact c w list _ b d z f (hl1.fr hw.fr) (ElemAt.fr hb hw.fr) (ElemAt.fr hd hw.fr)) (k := ?_)) | refine ST ?_ | refine ST2 ?_ | intro _ | apply And.intro
 all_goals first | exact idxF_any (zH z f) list | (rw [← idxF_any (zH z f) list]; rfl)
instance zc7 : HC 146 (∀ (W : World) (cs : List Value) (h : House) (cabin : Int), HsR W cs h → HouseSz h →Sp W [] 146 #[.agg cs.toArray, vi cabin] (RO 3 intL (zr h cabin))) := by
 refine ⟨fun W cs h cabin hh hsz => ?_⟩
 have hh1 := hh; obtain ⟨a1, c1, a2, c2, a3, c3, a4, c4, a5, c5, rfl, h1, h2, h3, h4, h5, h6, h7, h8, h9, h10⟩ := hh
 have hp9 := hsz.2.1; have hc9 := hsz.2.2.1
 refine gENT (vs := [_, _]) Tryz.func146 (gNILN 3 intL ?_)
 by_cases hb : hasCab h cabin = true
 · have hlk : zr h cabin = zf h cabin := if_pos hb
   rw [hlk]
   repeat' first | exact absurd (‹hasCab h cabin = false›.symm.trans hb) (by decide) | refine ST ?_ | refine ST2 ?_ | intro _ | apply And.intro
   refine cOP (k := fun bs hbs => ?_)
   obtain ⟨b2, b3, rfl⟩ := len2 hbs
   simp only [expT, expS, expC, List.getElem?_cons_zero, List.getElem?_cons_succ, List.cons_append, List.nil_append]
   refine gFORO 14 h.cabins.length 5 (fun _ : Unit => []) (fun k _ xs => xs = zn h cabin k) () (h0 := rfl) (body := fun k _ a c xs hk hv => ?_)
   have hln : xs.length ≤ k := by rw [hv]; exact zC h cabin k
   by_cases hkl : k < h.cabins.length
   · have hft : zL h cabin k = h.parties.any (zH cabin k) := rfl
     have hlt : h.parties.any (zH cabin k) = true → zn h cabin (k + 1) = zn h cabin k ++ [(k : Int)] := fun w => zby w
     have hlf : h.parties.any (zH cabin k) = false → zn h cabin (k + 1) = zn h cabin k := fun w => zbx w
     repeat' first | exact absurd hkl ‹¬ k < h.cabins.length› | refine STP ?_ | refine ST ?_ | refine ST2 ?_ | intro _ | apply And.intro
     refine tOP fun bs2 hbs2 => ?_
     obtain ⟨b6, rfl⟩ := len1 hbs2
     simp only [expT, expS, expC, List.getElem?_cons_zero, List.getElem?_cons_succ, List.cons_append, List.nil_append]
     repeat' first | (refine idDN ?_; refine idBK ?_; refine zdW pu0 ?_; refine gFOBACK (α := Unit) (x' := ()) (hlt := by omega) (h := ?_)) | (refine idAT ?_; refine aCa ?_; refine aCV (f := 137) (hcon := by intro c w hw; exact c w h.parties _ b3 b6 cabin k (Rs.mk h7 h2 hw.fr) (ptC_elem (hw.own _ NT)) (ptC_elem (hw.own _ NT))) (k := ?_)) | refine ST ?_ | refine ST2 ?_ | refine STP ?_ | intro _ | apply And.intro
     all_goals first | exact LEN | (exfalso; omega) | (rw [hlt ‹_›, hv]; done) | (rw [hlf ‹_›, hv]; done)
   · repeat' first | exact absurd ‹k < h.cabins.length› hkl | refine STP ?_ | refine ST ?_ | refine ST2 ?_ | intro _ | apply And.intro
     all_goals first | (exfalso; omega) | (rw [hv, show k = h.cabins.length by omega]; rfl)
 · have hlk : zr h cabin = [] := if_neg hb
   rw [hlk]
   repeat' first | refine ST ?_ | refine ST2 ?_ | intro _ | apply And.intro
   all_goals first | exact absurd ‹hasCab h cabin = true› hb | rfl
instance zdA : HC 148 (∀ (W : World) (data : List Int) (a : Option Addr) (n c : Nat), data.length ≤ 12 →Sp W [slA 3 intL (.slice a n c) data] 148 #[.slice a n c] (⟨Unit, fun _ => .tuple #[], fun _ => [slA 3 intL (.slice a n c) (sortGo ltI (data.length - 1) 1 data)]⟩)) := by
 exact ⟨fun W data a n c hl => zcz W data a n c hl⟩
instance zcR : HC 54 (∀ (W : World) (cs : List Value) (h : House) (cabin : Int), HsR W cs h → HouseSz h →Sp W [] 54 #[.agg cs.toArray, vi cabin] (RO 3 intL (ze h cabin))) := by
 refine ⟨fun W cs h cabin hh hsz => ?_⟩
 have hh1 := hh; obtain ⟨a1, c1, a2, c2, a3, c3, a4, c4, a5, c5, rfl, h1, h2, h3, h4, h5, h6, h7, h8, h9, h10⟩ := hh
 have hc9 := hsz.2.2.1
 refine gENT (vs := [_, _]) Tryz.func54 (gNILN 3 intL ?_)
 by_cases hb : hasCab h cabin = true
 · obtain ⟨hR, hc0, hc1⟩ := hasCab_rep hb
   have h4 := z8 hb
   have hch : ze h cabin = zk (zi h h.cabins.length 0 [cabin]) h.cabins.length := if_pos hb
   have hf0 : Few h.cabins.length [cabin] := ⟨by simp, fun x hx => by simp at hx; omega⟩
   rw [hch]
   repeat' first | exact absurd (‹hasCab h cabin = false›.symm.trans hb) (by decide) | refine ST ?_ | refine ST2 ?_ | intro _ | apply And.intro
   rename_i hb0 e1 he1
   refine gLPG (fun q : Nat × HH × List Int => [(6, I (q.1 : Int)), (5, .v (.slice q.2.1.1 q.2.2.length q.2.1.2))]) [] (fun q => [slA 3 intL (.slice q.2.1.1 q.2.2.length q.2.1.2) q.2.2]) (fun q => Few h.cabins.length q.2.2 ∧ q.1 ≤ q.2.2.length ∧ zi h h.cabins.length 0 [cabin] = zi h (h.cabins.length - q.1) q.1 q.2.2) (fun q => h.cabins.length + 1 - q.1) (0, (e1, 1), [cabin]) (h0 := ⟨hf0, by simp, rfl⟩) (body := fun q hi => ?_)
   obtain ⟨k, ⟨e, f⟩, ms⟩ := q
   obtain ⟨i1, i2, i3⟩ : Few h.cabins.length ms ∧ k ≤ ms.length ∧ zi h h.cabins.length 0 [cabin] = zi h (h.cabins.length - k) k ms := hi
   have hml := zw _ _ i1
   by_cases hkl : k < ms.length
   · rw [zab (by omega) (List.getElem?_eq_getElem hkl), ← zaU hb (i1.2 ms[k] (List.getElem_mem hkl))] at i3
     have hll : (zr h ms[k]).length ≤ h.cabins.length := by rw [zaU hb (i1.2 ms[k] (List.getElem_mem hkl))]; exact zC h ms[k] h.cabins.length
     refine gISS (La := intL) (xs := ms) (k := fun _ => ?_)
     repeat' first | exact absurd hkl ‹¬ k < ms.length› | refine ST ?_ | refine ST2 ?_ | intro _ | apply And.intro
     rename_i e9 c9
     refine gFORG 28 (zr h ms[k]).length (fun q : HH × List Int => [(5, .v (.slice q.1.1 q.2.length q.1.2))]) [] (fun q => [slA 3 intL (.slice q.1.1 q.2.length q.1.2) q.2]) (fun j q => Few h.cabins.length q.2 ∧ ms.length ≤ q.2.length ∧ (zr h ms[k]).foldl todoPut ms = ((zr h ms[k]).drop j).foldl todoPut q.2) ((e, f), ms) (h0 := ⟨i1, Nat.le_refl _, rfl⟩) (body := fun j q hj hi2 => ?_)
     obtain ⟨⟨e2, f2⟩, zs⟩ := q
     obtain ⟨n1, n2, n3⟩ : Few h.cabins.length zs ∧ ms.length ≤ zs.length ∧ (zr h ms[k]).foldl todoPut ms = ((zr h ms[k]).drop j).foldl todoPut zs := hi2
     have hzl := zw _ _ n1
     by_cases hjl : j < (zr h ms[k]).length
     · have hlm := zbE hb (List.getElem_mem hjl)
       have hge := zaL zs (zr h ms[k])[j]
       rw [za0 hjl] at n3
       repeat' first | exact absurd hjl ‹¬ j < _› | (refine idDN ?_; refine idBK ?_; refine zak ?_) | refine ST ?_ | refine ST2 ?_ | intro _ | apply And.intro
       all_goals
        unfold zJ
        rename_i x9
        exact gGBACK (x9, todoPut zs (zr h ms[k])[j]) hjl (h := ⟨n1.put hlm.1 hlm.2, by dsimp only; omega, n3⟩)
     · rw [List.drop_eq_nil_of_le (by omega)] at n3
       repeat' first | exact absurd ‹j < (zr h ms[k]).length› hjl | (refine idDN ?_; refine idBK ?_; refine zak ?_) | refine ST ?_ | refine ST2 ?_ | intro _ | apply And.intro
       all_goals
        unfold zJ
        refine gLBK (k + 1, (e2, f2), zs) (by dsimp only; omega) (h := ?_)
        exact ⟨n1, by dsimp only; omega, by dsimp only; rw [i3, n3]; rfl⟩
   · rw [zan (by omega)] at i3
     rw [i3, ← zbo i1, ro_len (show sortGo ltI (ms.length - 1) 1 ms = _ from rfl) ms.length (sortGo_len _ _ _)]
     dsimp only
     have hm12 : ms.length ≤ 12 := by omega
     repeat' first | exact absurd ‹k < ms.length› hkl | refine ST ?_ | refine ST2 ?_ | intro _ | apply And.intro
     all_goals first | exact rEX (e, f) (plS PU pl0) rfl
 · have hch : ze h cabin = [] := if_neg hb
   rw [hch]
   repeat' first | refine ST ?_ | refine ST2 ?_ | intro _ | apply And.intro
   all_goals first | exact absurd ‹hasCab h cabin = true› hb | rfl
end SX
end Go.Proofs.YtejojcoaohlfbaaGreat
