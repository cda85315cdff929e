/- Walks, printed by program. -/
import Derived.Test.YthnbaikmbgaddaaGreatSxz
import Derived.Test.YthnbaikmbgaddaaGreatMdlu
import Derived.Test.YthnbaikmbgaddaaGreatI4
import Derived.Test.YthnbaikmbgaddaaGreatMdlm
namespace Go.Proofs.YthnbaikmbgaddaaGreat
namespace SX
open Go Go.RowKit
set_option linter.unusedVariables false
set_option linter.unusedSimpArgs false
set_option maxRecDepth 10000
set_option maxHeartbeats 400000
private theorem z10 {p : Prop} (h : p := by exact absurd (w1.symm.trans (show rulesOk ho.rules = false by assumption)) (by decide)) : p := h
private theorem z9 {p : Prop} (h : p := by exact absurd (w2.symm.trans (show inB ho.now 0 1000000 = false by assumption)) (by decide)) : p := h
private theorem z8 {p : Prop} (h : p := by exact absurd (w3.symm.trans (show inB ho.turn 1 1000001 = false by assumption)) (by decide)) : p := h
private theorem z7 {p : Prop} (h : p := by exact congrArg Value.bool (houseOk_t ⟨by assumption, by assumption, by assumption, by omega, by omega, hpp, ⟨fun i x h9 => by rw [hcl]; exact htt i x h9, fun x h9 => by rw [hcl, hw1]; exact hjj x h9, by omega⟩, hcc⟩).symm) : p := h
private theorem z6 {p : Prop} (h : p := by first | exact z7 | (refine congrArg Value.bool (houseOk_f fun hw9 => ?_).symm; obtain ⟨w1, w2, w3, w4, w5, w6, w7, w8⟩ := hw9; first | exact z10 | exact z9 | exact z8 | omega | (have w9 := w7.2.2; omega) | (have wp := partiesP_iff.1 w6; first | omega) | (have wj := w7; have wn : wr ((ho.cabins.length : Int) - 1) = wr ((ho.rules.seats.length : Int) - 1) := (by rw [w5]); first | omega))) : p := h
private theorem z5 {p : Prop} (h : p := by first | exact z7 | (refine congrArg Value.bool (houseOk_f fun hw9 => ?_).symm; obtain ⟨w1, w2, w3, w4, w5, w6, w7, w8⟩ := hw9; first | exact z10 | exact z9 | exact z8 | omega | (have w9 := w7.2.2; omega) | (have wp := partiesP_iff.1 w6; first | (have w6 := (wp k _ hx_y8).1.1; simp_all; done) | (have w6 := (wp k _ hx_y8).1.2.1; omega)) | (exact absurd ((w8 k _ hx_y8).2.1.symm.trans (show agrees ho.rules y8 ho.parties (k : Int) ho.now = false by assumption)) (by decide)) | (have w9 := (w8 k _ hx_y8).2.2; omega) | (have wj := w7; have wn : wr ((ho.cabins.length : Int) - 1) = wr ((ho.rules.seats.length : Int) - 1) := (by rw [w5]); first | (have w6 := (wj.1 k _ hx_y8).1; rw [wn] at w6; exact absurd (w6.symm.trans (show inB y8 0 (wr ((ho.rules.seats.length : Int) - 1)) = false by assumption)) (by decide)) | (exact Exists.elim ((any_take' (l := ho.todo) (k := k) (x := y8)).1 LS) fun j9 h9 => Exists.elim h9 fun z9 h9 => (wj.1 k _ hx_y8).2 j9 z9 h9.1 h9.2.1 h9.2.2) | (have w6 := wj.2.1 _ (List.mem_of_getElem? hx_y8); rw [wn, hw1] at w6; exact absurd (w6.symm.trans (show inB y8 (-1) ((ho.rules.seats.length - 1 : Nat) : Int) = false by assumption)) (by decide))))) : p := h
private theorem z4 {p : Prop} (h : p := by first | exact z7 | (refine congrArg Value.bool (houseOk_f fun hw9 => ?_).symm; obtain ⟨w1, w2, w3, w4, w5, w6, w7, w8⟩ := hw9; first | exact z10 | exact z9 | exact z8 | omega | (have w9 := w7.2.2; omega) | (have wp := partiesP_iff.1 w6; first | (have w6 := (wp k _ hx_y60).1.1; simp_all; done) | (have w6 := (wp k _ hx_y60).1.2.1; omega)) | (exact absurd ((w8 k _ hx_y60).2.1.symm.trans (show agrees ho.rules y60 ho.parties (k : Int) ho.now = false by assumption)) (by decide)) | (have w9 := (w8 k _ hx_y60).2.2; omega) | (have wj := w7; have wn : wr ((ho.cabins.length : Int) - 1) = wr ((ho.rules.seats.length : Int) - 1) := (by rw [w5]); first | (have w6 := (wj.1 k _ hx_y60).1; rw [wn] at w6; exact absurd (w6.symm.trans (show inB y60 0 (wr ((ho.rules.seats.length : Int) - 1)) = false by assumption)) (by decide)) | (exact Exists.elim ((any_take' (l := ho.todo) (k := k) (x := y60)).1 LS) fun j9 h9 => Exists.elim h9 fun z9 h9 => (wj.1 k _ hx_y60).2 j9 z9 h9.1 h9.2.1 h9.2.2) | (have w6 := wj.2.1 _ (List.mem_of_getElem? hx_y60); rw [wn, hw1] at w6; exact absurd (w6.symm.trans (show inB y60 (-1) ((ho.rules.seats.length - 1 : Nat) : Int) = false by assumption)) (by decide))))) : p := h
private theorem z3 {p : Prop} (h : p := by first | exact z7 | (refine congrArg Value.bool (houseOk_f fun hw9 => ?_).symm; obtain ⟨w1, w2, w3, w4, w5, w6, w7, w8⟩ := hw9; first | exact z10 | exact z9 | exact z8 | omega | (have w9 := w7.2.2; omega) | (have wp := partiesP_iff.1 w6; first | (have w6 := (wp k _ hx_y8).1.1; simp_all; done) | (have w6 := (wp k _ hx_y8).1.2.1; omega) | (have w6 := (wp k _ hx_y8).2 j _ LO (take_get hx35).2; omega)) | (exact absurd ((w8 k _ hx_y8).2.1.symm.trans (show agrees ho.rules y8 ho.parties (k : Int) ho.now = false by assumption)) (by decide)) | (have w9 := (w8 k _ hx_y8).2.2; omega) | (have wj := w7; have wn : wr ((ho.cabins.length : Int) - 1) = wr ((ho.rules.seats.length : Int) - 1) := (by rw [w5]); first | (have w6 := (wj.1 k _ hx_y8).1; rw [wn] at w6; exact absurd (w6.symm.trans (show inB y8 0 (wr ((ho.rules.seats.length : Int) - 1)) = false by assumption)) (by decide)) | (exact Exists.elim ((any_take' (l := ho.todo) (k := k) (x := y8)).1 LS) fun j9 h9 => Exists.elim h9 fun z9 h9 => (wj.1 k _ hx_y8).2 j9 z9 h9.1 h9.2.1 h9.2.2) | (have w6 := wj.2.1 _ (List.mem_of_getElem? hx_y8); rw [wn, hw1] at w6; exact absurd (w6.symm.trans (show inB y8 (-1) ((ho.rules.seats.length - 1 : Nat) : Int) = false by assumption)) (by decide))))) : p := h
private theorem z2 {p : Prop} (h : p := by first | exact z7 | (refine congrArg Value.bool (houseOk_f fun hw9 => ?_).symm; obtain ⟨w1, w2, w3, w4, w5, w6, w7, w8⟩ := hw9; first | exact z10 | exact z9 | exact z8 | omega | (have w9 := w7.2.2; omega) | (have wp := partiesP_iff.1 w6; first | (have w6 := (wp k _ hx_y45).1.1; simp_all; done) | (have w6 := (wp k _ hx_y45).1.2.1; omega)) | (have w9 := (w8 k _ hx_y45).1; rw [hx55] at w9; injection w9 with w9; omega) | (exact absurd ((w8 k _ hx_y45).2.1.symm.trans (show agrees ho.rules y45 ho.parties (k : Int) ho.now = false by assumption)) (by decide)) | (have w9 := (w8 k _ hx_y45).2.2; omega) | (have wj := w7; have wn : wr ((ho.cabins.length : Int) - 1) = wr ((ho.rules.seats.length : Int) - 1) := (by rw [w5]); first | (have w6 := (wj.1 k _ hx_y45).1; rw [wn] at w6; exact absurd (w6.symm.trans (show inB y45 0 (wr ((ho.rules.seats.length : Int) - 1)) = false by assumption)) (by decide)) | (exact Exists.elim ((any_take' (l := ho.todo) (k := k) (x := y45)).1 LS) fun j9 h9 => Exists.elim h9 fun z9 h9 => (wj.1 k _ hx_y45).2 j9 z9 h9.1 h9.2.1 h9.2.2) | (have w6 := wj.2.1 _ (List.mem_of_getElem? hx_y45); rw [wn, hw1] at w6; exact absurd (w6.symm.trans (show inB y45 (-1) ((ho.rules.seats.length - 1 : Nat) : Int) = false by assumption)) (by decide))))) : p := h
private theorem z1 {p : Prop} (h : p := by first | exact z7 | (refine congrArg Value.bool (houseOk_f fun hw9 => ?_).symm; obtain ⟨w1, w2, w3, w4, w5, w6, w7, w8⟩ := hw9; first | exact z10 | exact z9 | exact z8 | omega | (have w9 := w7.2.2; omega) | (have wp := partiesP_iff.1 w6; first | (have w6 := (wp k _ hx_y8).1.1; simp_all; done) | (have w6 := (wp k _ hx_y8).1.2.1; omega) | (have w6 := (wp k _ hx_y8).1.2.2 LO _ hx14; omega) | (have w6 := (wp k _ hx_y8).2 j _ LO (take_get hx21).2; omega)) | (exact absurd ((w8 k _ hx_y8).2.1.symm.trans (show agrees ho.rules y8 ho.parties (k : Int) ho.now = false by assumption)) (by decide)) | (have w9 := (w8 k _ hx_y8).2.2; omega) | (have wj := w7; have wn : wr ((ho.cabins.length : Int) - 1) = wr ((ho.rules.seats.length : Int) - 1) := (by rw [w5]); first | (have w6 := (wj.1 k _ hx_y8).1; rw [wn] at w6; exact absurd (w6.symm.trans (show inB y8 0 (wr ((ho.rules.seats.length : Int) - 1)) = false by assumption)) (by decide)) | (exact Exists.elim ((any_take' (l := ho.todo) (k := k) (x := y8)).1 LS) fun j9 h9 => Exists.elim h9 fun z9 h9 => (wj.1 k _ hx_y8).2 j9 z9 h9.1 h9.2.1 h9.2.2) | (have w6 := wj.2.1 _ (List.mem_of_getElem? hx_y8); rw [wn, hw1] at w6; exact absurd (w6.symm.trans (show inB y8 (-1) ((ho.rules.seats.length - 1 : Nat) : Int) = false by assumption)) (by decide))))) : p := h
theorem indexI_c (W : World) (list : List Int) (list_a : Option Addr) (list_c : Nat) (hlist : Rd intL W list_a list) (v : Int) : Spec Tryz.prog W [] 262 #[.slice list_a list.length list_c, vi v] (RV (vi (idxF (fun e : Int => v == e) list 0))) := by
 refine ENTER0 (N := 19) (vs := [.slice list_a list.length list_c, vi v]) Tryz.func262 rfl rfl (NL rfl) ?_
 have hlist_len := hlist.len
 refine XG (UU 1 [] (XN (SEQ (XG (UU 3 [(7, I (list.length : Int)), (8, I 0)] (XN (BLOCK (LOOP (ι := Nat × (List Int)) (fun j => [(0, .v (.slice list_a list.length list_c)), (1, I v), (7, I (list.length : Int)), (8, I (j.1 : Int))]) (fun j => []) (fun j => []) (fun j => j.1 + j.2.length = list.length ∧ list.drop j.1 = j.2 ∧ idxF (fun e : Int => v == e) list 0 = idxF (fun e : Int => v == e) j.2 j.1) (fun j => j.2.length) (0, list) [0, 1, 7, 8] ⟨by simp, rfl, rfl⟩ KR rfl rfl ?_))))))))
 rintro ⟨k, ys⟩ ⟨hk, hd, hv0⟩
 try dsimp only at hk hd hv0
 refine XG (UU 1 [(9, B (decide ((k : Int) < (list.length : Int))))] (XN (SEQ (IFK (decide ((k : Int) < (list.length : Int))) (dT fun h1 bh1 => ?_) (dF fun h1 bh1 => ?_)))))
 ·
  obtain ⟨y2, ys3, rfl, hx_y2, hd_y2, hl_y2⟩ := drop_cons hd hk LO
  refine XK (SEQ (BLOCK (XG (UU 2 [(5, I (k : Int))] (NR (UU 3 [(11, I v), (12, .v (.slice list_a list.length list_c)), (13, I (k : Int))] (OPC (IX 24 (.tmp 12) (.tmp 13) 14 0 list_a list.length list_c .i64 (k : Int) 3 1 (Rd.some hlist LO) LO LO (OPC (LE 3 (.tmp 14) 15 3 list_a (k * 1) 0 ([vi y2]) (vi y2) (fun w hw => (hlist.fr hw.fr).flat hx_y2) (UU 1 [(16, B (v == y2))] (NI (v == y2) (aT eq_of_beq fun h4 bh4 => ?_) (aT ne_of_beq_false fun h4 bh4 => ?_)))))))))))))
  · refine XG (UU 2 [(4, I (k : Int))] (XF rfl (vi (k : Int)) () [] (by simp_all [RV, idxF])))
  refine SKIP (OUTN (NEXT (RG (UU 1 [(18, I (wr ((k : Int) + 1)))] (CS 18 (vi (wr ((k : Int) + 1))) (vi ((k + 1 : Nat) : Int)) VC (UU 1 [(8, I ((k + 1 : Nat) : Int))] (ENDOPS (BK (k + 1, ys3) [0, 1, 7, 8] 0 [] ⟨hl_y2, hd_y2, (hv0.trans (by simp_all [idxF]))⟩ (by simp)))))))))
 obtain rfl := drop_nil hk LO
 refine EXIT (PASS trivial (PASS trivial (OUT (NEXT (XG (UU 1 [(4, I (-1))] (XF rfl (vi (-1)) () [] (by simp_all [RV, idxF]))))))))

theorem containsI_c (W : World) (list : List Int) (list_a : Option Addr) (list_c : Nat) (hlist : Rd intL W list_a list) (v : Int) : Spec Tryz.prog W [] 189 #[.slice list_a list.length list_c, vi v] (RV (.bool ((list).any (fun e : Int => v == e)))) := by
 refine ENTER0 (N := 9) (vs := [.slice list_a list.length list_c, vi v]) Tryz.func189 rfl rfl (NL rfl) ?_
 have hlist_len := hlist.len
 refine XG (UU 1 [] (NR (UU 2 [(5, .v (.slice list_a list.length list_c)), (6, I v)] (OPC (CX 7 (fun w hw => indexI_c w list list_a list_c (hlist.fr hw.fr) v) ?_)))))
 rintro ⟨⟩
 refine UU 2 [(4, B (decide ((idxF (fun e : Int => v == e) list 0) ≥ 0)))] (XF rfl (.bool (decide ((idxF (fun e : Int => v == e) list 0) ≥ 0))) () [] (by simp only [RV, idxF_any]))

theorem iHouseOk_c (W : World) (ho : House) (ho1a : Option Addr) (ho1c : Nat) (hho1 : Rd intL W ho1a ho.rules.seats) (ho2a : Option Addr) (ho2c : Nat) (hho2 : Rd partyL W ho2a ho.parties) (ho3a : Option Addr) (ho3c : Nat) (hho3 : Rd (cabinLx 142 155 167) W ho3a ho.cabins) (ho4a : Option Addr) (ho4c : Nat) (hho4 : Rd intL W ho4a ho.todo) (ho5a : Option Addr) (ho5c : Nat) (hho5 : Rd intL W ho5a ho.jobs) (hsz : HouseSz ho) (hcp : ho.parties.length ≤ ho2c) (hct : ho.todo.length ≤ ho4c) : Spec Tryz.prog W [] 91 #[.agg (hC ho ho1a ho1c ho2a ho2c ho3a ho3c ho4a ho4c ho5a ho5c).toArray] (RV (.bool (houseOk ho))) := by
 refine ENTER0 (N := 211) (vs := [.agg (hC ho ho1a ho1c ho2a ho2c ho3a ho3c ho4a ho4c ho5a ho5c).toArray]) Tryz.func91 rfl rfl (NL rfl) ?_
 have hs9 := hsz.1; have hs8 := hsz.2.1; have hs7 := hsz.2.2.1; have hs6 := hsz.2.2.2.1; have hs5 := hsz.2.2.2.2.1; have hs4 := hsz.2.2.2.2.2
 have hho1len := hho1.len
 have hho2len := hho2.len
 have hho3len := hho3.len
 have hho4len := hho4.len
 have hho5len := hho5.len
 refine XG (UL 2 [(1, .p 0 0)] [(31, (hC ho ho1a ho1c ho2a ho2c ho3a ho3c ho4a ho4c ho5a ho5c))] (NR (UU 5 [(3, I (ho.rules.seats.length : Int))] (XN (SEQ (XG (UU 2 [(19, .v (.agg (rC ho.rules ho1a ho1c).toArray))] (OPC (CX 20 (fun w hw => piRulesOk_c w ho.rules ho1a ho1c (hho1.fr hw.fr)) ?_)))))))))
 rintro ⟨⟩
 refine UU 2 [(22, B (!(rulesOk ho.rules)))] (SP 22 (!(rulesOk ho.rules)) (aT notT fun h1 bh1 => ?_) (aT notF fun h1 bh1 => ?_))
 · refine UU 27 [(49, B true)] (XN (XI (XG (RB rfl 2 false z6))))
 have hroom : ho.rules.room ≤ 10 ∧ 1 ≤ ho.rules.seats.length := (by have h9 := h1; simp [rulesOk, inB] at h9; omega); have hw1 : wr ((ho.rules.seats.length : Int) - 1) = ((ho.rules.seats.length - 1 : Nat) : Int) := (by rw [wr_of LO LO]; omega)
 refine UU 2 [(24, I ho.now)] (OPC (CX 25 (fun w hw => within_c w ho.now 0 1000000) ?_))
 rintro ⟨⟩
 refine UU 3 [(28, B (!(inB ho.now 0 1000000)))] (SP 28 (!(inB ho.now 0 1000000)) (aT notT fun h2 bh2 => ?_) (aT notF fun h2 bh2 => ?_))
 · refine UU 21 [(49, B true)] (XN (XI (XG (RB rfl 2 false z6))))
 refine UU 2 [(30, I ho.turn)] (OPC (CX 31 (fun w hw => within_c w ho.turn 1 1000001) ?_))
 rintro ⟨⟩
 refine UU 3 [(34, B (!(inB ho.turn 1 1000001)))] (SP 34 (!(inB ho.turn 1 1000001)) (aT notT fun h3 bh3 => ?_) (aT notF fun h3 bh3 => ?_))
 · refine UU 15 [(49, B true)] (XN (XI (XG (RB rfl 2 false z6))))
 refine UU 7 [(41, B ((ho.cabins.length : Int) != (ho.rules.seats.length : Int)))] (SP 41 ((ho.cabins.length : Int) != (ho.rules.seats.length : Int)) (aT bne_iff_ne.1 fun h4 bh4 => ?_) (aT bneF fun h4 bh4 => ?_))
 · refine UU 8 [(49, B true)] (XN (XI (XG (RB rfl 2 false z6))))
 have hcl := h4
 refine UU 8 [(49, B ((ho.jobs.length : Int) != ho.rules.crew))] (NI ((ho.jobs.length : Int) != ho.rules.crew) (aT bne_iff_ne.1 fun h5 bh5 => ?_) (aT bneF fun h5 bh5 => ?_))
 · refine XG (RB rfl 2 false z6)
 refine XK (SEQ (XG (UU 4 [(53, B (decide ((ho.parties.length : Int) > 40)))] (NI (decide ((ho.parties.length : Int) > 40)) (dT fun h6 bh6 => ?_) (dF fun h6 bh6 => ?_)))))
 · refine XG (RB rfl 2 false z6)
 refine XK (SEQ (XG (UU 4 [(55, .v (.slice ho2a ho.parties.length ho2c)), (56, I (ho.parties.length : Int)), (57, I 0)] (XN (BLOCK (LOOP (ι := Nat × (List Party)) (fun j => [(1, .p 0 0), (3, I (ho.rules.seats.length : Int)), (55, .v (.slice ho2a ho.parties.length ho2c)), (56, I (ho.parties.length : Int)), (57, I (j.1 : Int))]) (fun j => [(31, (hC ho ho1a ho1c ho2a ho2c ho3a ho3c ho4a ho4c ho5a ho5c))]) (fun j => []) (fun j => j.1 + j.2.length = ho.parties.length ∧ ho.parties.drop j.1 = j.2 ∧ (∀ (i : Nat) (p : Party), i < j.1 → ho.parties[i]? = some p → PartyH ho i p ∧ PartyI ho p i)) (fun j => j.2.length) (0, ho.parties) [1, 3, 55, 56, 57] ⟨by simp, rfl, fun i p hi => absurd hi (Nat.not_lt_zero _)⟩ KR rfl rfl ?_))))))
 rintro ⟨k, ys⟩ ⟨hk, hd, hv0⟩
 try dsimp only at hk hd hv0
 refine XG (UU 1 [(58, B (decide ((k : Int) < (ho.parties.length : Int))))] (XN (SEQ (IFK (decide ((k : Int) < (ho.parties.length : Int))) (dT fun h7 bh7 => ?_) (dF fun h7 bh7 => ?_)))))
 ·
  obtain ⟨y8, ys9, rfl, hx_y8, hd_y8, hl_y8⟩ := drop_cons hd hk LO
  refine XK (SEQ (BLOCK (XG (UU 1 [(59, I (k : Int))] (OPC (IX 28 (.tmp 55) (.tmp 57) 60 0 ho2a ho.parties.length ho2c .i64 (k : Int) 56 10 (Rd.some hho2 LO) LO LO (OPC (LE 56 (.tmp 60) 61 56 ho2a (k * 10) 0 (partyE y8) (.agg (partyE y8).toArray) (fun w hw => (hho2.fr hw.fr).flat hx_y8) (UL 3 [(4, I (k : Int)), (5, .p 1 0)] [(31, (hC ho ho1a ho1c ho2a ho2c ho3a ho3c ho4a ho4c ho5a ho5c)), (56, partyE y8)] (XN (SEQ (SEQ (REGIONQ KR KR (QU 5 [(63, .v (.agg (rC ho.rules ho1a ho1c).toArray)), (64, .v (.agg (partyE y8).toArray)), (66, I ho.now)] (QX 67 (fun w hw => piPartyOk_c w ho.rules ho1a ho1c (hho1.fr hw.fr) y8 ho.now) ?_)))))))))))))))
  refine QU 2 [(69, B (!(partyOk ho.rules y8 ho.now)))] (QSP 69 (!(partyOk ho.rules y8 ho.now)) (aT notT fun h10 bh10 => ?_) (aT notF fun h10 bh10 => ?_))
  · refine QU 22 [(91, B true)] (QEND rfl (NEXT (XI (XG (RB rfl 2 false z5)))))
  refine QU 7 [(76, B (decide (y8.turn ≥ ho.turn)))] (QSP 76 (decide (y8.turn ≥ ho.turn)) (dT fun h11 bh11 => ?_) (dF fun h11 bh11 => ?_))
  · refine QU 15 [(91, B true)] (QEND rfl (NEXT (XI (XG (RB rfl 2 false z5)))))
  refine QU 3 [(79, B (decide ((k : Int) > 0)))] (QSP 79 (decide ((k : Int) > 0)) (dT fun h12 bh12 => ?_) (dF fun h12 bh12 => ?_))
  ·
   refine QU 4 [(81, .v (.slice ho2a ho.parties.length ho2c)), (83, I (wr ((k : Int) - 1)))] (QCAST (d := 83) (vi (wr ((k : Int) - 1))) (vi ((k - 1 : Nat) : Int)) KR VC ?_)
   obtain ⟨x13, hx14⟩ : ∃ y, ho.parties[k - 1]? = some y := ⟨_, List.getElem?_eq_getElem LO⟩
   refine QIX 28 (.tmp 81) (.tmp 83) 84 0 ho2a ho.parties.length ho2c .i64 ((k - 1 : Nat) : Int) 56 10 (Rd.some hho2 LO) LO LO (QU 1 [(85, .e ho2a ((k - 1) * 10) 0)] (QLE 3 (.tmp 85) 86 3 ho2a ((k - 1) * 10) 0 (partyE x13) (vi x13.id) (fun w hw => (hho2.fr hw.fr).flat hx14) (QU 5 [(91, B (decide (x13.id ≥ y8.id)))] (QEND rfl (NEXT (IFK (decide (x13.id ≥ y8.id)) (dT fun h15 bh15 => ?_) (dF fun h15 bh15 => ?_)))))))
   · refine XG (RB rfl 2 false (by first | exact z7 | (refine congrArg Value.bool (houseOk_f fun hw9 => ?_).symm; obtain ⟨w1, w2, w3, w4, w5, w6, w7, w8⟩ := hw9; first | exact z10 | exact z9 | exact z8 | omega | (have w9 := w7.2.2; omega) | (have wp := partiesP_iff.1 w6; first | (have w6 := (wp k _ hx_y8).1.1; simp_all; done) | (have w6 := (wp k _ hx_y8).1.2.1; omega) | (have w6 := (wp k _ hx_y8).1.2.2 LO _ hx14; omega)) | (exact absurd ((w8 k _ hx_y8).2.1.symm.trans (show agrees ho.rules y8 ho.parties (k : Int) ho.now = false by assumption)) (by decide)) | (have w9 := (w8 k _ hx_y8).2.2; omega) | (have wj := w7; have wn : wr ((ho.cabins.length : Int) - 1) = wr ((ho.rules.seats.length : Int) - 1) := (by rw [w5]); first | (have w6 := (wj.1 k _ hx_y8).1; rw [wn] at w6; exact absurd (w6.symm.trans (show inB y8 0 (wr ((ho.rules.seats.length : Int) - 1)) = false by assumption)) (by decide)) | (exact Exists.elim ((any_take' (l := ho.todo) (k := k) (x := y8)).1 LS) fun j9 h9 => Exists.elim h9 fun z9 h9 => (wj.1 k _ hx_y8).2 j9 z9 h9.1 h9.2.1 h9.2.2) | (have w6 := wj.2.1 _ (List.mem_of_getElem? hx_y8); rw [wn, hw1] at w6; exact absurd (w6.symm.trans (show inB y8 (-1) ((ho.rules.seats.length - 1 : Nat) : Int) = false by assumption)) (by decide))))))
   refine XK (XG (UU 3 [(93, .v (.slice ho2a ho.parties.length ho2c)), (94, I (k : Int))] (OPC (CUTH 28 (.tmp 93) (.tmp 94) 95 28 KR (NL rfl) ho2a ho.parties.length ho2c .i64 (k : Int) KR KR 56 partyL ho.parties KR KR LO LQ rfl LO (fun a16 hsh17 => ?_)))))
   have hsh17 : ∀ w, Rd partyL w ho2a ho.parties → Rd partyL w a16 (ho.parties.take k) := hsh17
   have hln18 : (ho.parties.take k).length = k := by first | (simp; done) | (simp; omega)
   refine CS 95 (.slice a16 k ho2c) (.slice a16 ((ho.parties.take k).length) ho2c) (by rw [hln18]) (UU 2 [(96, I (((ho.parties.take k).length : Nat) : Int)), (97, I 0)] (XN (BLOCK (LOOP (ι := Nat) (fun j => [(1, .p 0 0), (3, I (ho.rules.seats.length : Int)), (5, .p 1 0), (55, .v (.slice ho2a ho.parties.length ho2c)), (56, I (ho.parties.length : Int)), (57, I (k : Int)), (95, .v (.slice a16 ((ho.parties.take k).length) ho2c)), (96, I (((ho.parties.take k).length : Nat) : Int)), (97, I (j : Int))]) (fun j => [(31, (hC ho ho1a ho1c ho2a ho2c ho3a ho3c ho4a ho4c ho5a ho5c)), (56, partyE y8)]) (fun j => []) (fun j => j ≤ k ∧ PartyI ho y8 j) (fun j => k - j) (0) [1, 3, 5, 55, 56, 57, 95, 96, 97] ⟨Nat.zero_le _, fun m q hm => absurd hm (Nat.not_lt_zero _)⟩ KR rfl rfl ?_))))
   rintro j ⟨hj, hpi⟩
   try dsimp only at hj hpi
   refine XG (UU 1 [(98, B (decide ((j : Int) < (((ho.parties.take k).length : Nat) : Int))))] (XN (SEQ (IFK (decide ((j : Int) < (((ho.parties.take k).length : Nat) : Int))) (dT fun h19 bh19 => ?_) (dF fun h19 bh19 => ?_)))))
   ·
    refine XK (SEQ (BLOCK (XG ?_)))
    obtain ⟨x20, hx21⟩ : ∃ y, (ho.parties.take k)[j]? = some y := ⟨_, List.getElem?_eq_getElem LO⟩
    refine FACT (a16.isSome = true) (fun w hw => Rd.some (hsh17 _ (hho2.fr hw.fr)) LO) (fun hso22 => (OPC (IX 28 (.tmp 95) (.tmp 97) 99 0 a16 ((ho.parties.take k).length) ho2c .i64 (j : Int) 56 10 hso22 LO LO (OPC (LE 56 (.tmp 99) 100 56 a16 (j * 10) 0 (partyE x20) (.agg (partyE x20).toArray) (fun w hw => (hsh17 _ (hho2.fr hw.fr)).flat hx21) (UL 2 [(7, .p 2 0)] [(31, (hC ho ho1a ho1c ho2a ho2c ho3a ho3c ho4a ho4c ho5a ho5c)), (56, partyE y8), (56, partyE x20)] (NR (UU 6 [(106, B (y8.turn == x20.turn))] (SP 106 (y8.turn == x20.turn) (aT eq_of_beq fun h23 bh23 => ?_) (aT ne_of_beq_false fun h23 bh23 => ?_))))))))))
    · refine UU 27 [(133, B true)] (XN (XI (XG (RB rfl 2 false z1))))
    refine UU 6 [(112, B (decide (y8.turn < x20.turn)))] (SP 112 (decide (y8.turn < x20.turn)) (dT fun h24 bh24 => ?_) (dF fun h24 bh24 => ?_))
    ·
     refine UU 8 [(120, B (decide (y8.since > x20.since)))] (SP 120 (decide (y8.since > x20.since)) (dT fun h25 bh25 => ?_) (dF fun h25 bh25 => ?_))
     · refine UU 13 [(133, B true)] (XN (XI (XG (RB rfl 2 false z1))))
     refine UU 6 [(126, B (decide (x20.turn < y8.turn)))] (SP 126 (decide (x20.turn < y8.turn)) (dT fun h26 bh26 => ?_) (dF fun h26 bh26 => ?_))
     ·
      refine UU 7 [(133, B (decide (x20.since > y8.since)))] (NI (decide (x20.since > y8.since)) (dT fun h27 bh27 => ?_) (dF fun h27 bh27 => ?_))
      · refine XG (RB rfl 2 false z1)
      refine SKIP (OUTN (NEXT (RG (UU 1 [(134, I (wr ((j : Int) + 1)))] (CS 134 (vi (wr ((j : Int) + 1))) (vi ((j + 1 : Nat) : Int)) VC (UU 1 [(97, I ((j + 1 : Nat) : Int))] (ENDOPS (BK (j + 1) [1, 3, 5, 55, 56, 57, 95, 96, 97] 2 [] ⟨by first | omega | (dsimp only; omega), fun m q hm hq => by by_cases h9 : m = j; (subst h9; rw [(take_get hx21).2] at hq; injection hq with hq; subst hq; exact ⟨by omega, by omega, by omega⟩); exact hpi m q LO hq⟩ LD))))))))
     refine UU 7 [(133, B false)] (XN (IFF KR (SKIP (OUTN (NEXT (RG (UU 1 [(134, I (wr ((j : Int) + 1)))] (CS 134 (vi (wr ((j : Int) + 1))) (vi ((j + 1 : Nat) : Int)) VC (UU 1 [(97, I ((j + 1 : Nat) : Int))] (ENDOPS (BK (j + 1) [1, 3, 5, 55, 56, 57, 95, 96, 97] 2 [] ⟨by first | omega | (dsimp only; omega), fun m q hm hq => by by_cases h9 : m = j; (subst h9; rw [(take_get hx21).2] at hq; injection hq with hq; subst hq; exact ⟨by omega, by omega, by omega⟩); exact hpi m q LO hq⟩ LD)))))))))))
    refine UU 14 [(120, B false), (126, B (decide (x20.turn < y8.turn)))] (SP 126 (decide (x20.turn < y8.turn)) (dT fun h28 bh28 => ?_) (dF fun h28 bh28 => ?_))
    ·
     refine UU 7 [(133, B (decide (x20.since > y8.since)))] (NI (decide (x20.since > y8.since)) (dT fun h29 bh29 => ?_) (dF fun h29 bh29 => ?_))
     · refine XG (RB rfl 2 false z1)
     refine SKIP (OUTN (NEXT (RG (UU 1 [(134, I (wr ((j : Int) + 1)))] (CS 134 (vi (wr ((j : Int) + 1))) (vi ((j + 1 : Nat) : Int)) VC (UU 1 [(97, I ((j + 1 : Nat) : Int))] (ENDOPS (BK (j + 1) [1, 3, 5, 55, 56, 57, 95, 96, 97] 2 [] ⟨by first | omega | (dsimp only; omega), fun m q hm hq => by by_cases h9 : m = j; (subst h9; rw [(take_get hx21).2] at hq; injection hq with hq; subst hq; exact ⟨by omega, by omega, by omega⟩); exact hpi m q LO hq⟩ LD))))))))
    refine UU 7 [(133, B false)] (XN (IFF KR (SKIP (OUTN (NEXT (RG (UU 1 [(134, I (wr ((j : Int) + 1)))] (CS 134 (vi (wr ((j : Int) + 1))) (vi ((j + 1 : Nat) : Int)) VC (UU 1 [(97, I ((j + 1 : Nat) : Int))] (ENDOPS (BK (j + 1) [1, 3, 5, 55, 56, 57, 95, 96, 97] 2 [] ⟨by first | omega | (dsimp only; omega), fun m q hm hq => by by_cases h9 : m = j; (subst h9; rw [(take_get hx21).2] at hq; injection hq with hq; subst hq; exact ⟨by omega, by omega, by omega⟩); exact hpi m q LO hq⟩ LD)))))))))))
   refine EXIT (PASS trivial (PASS trivial (OUT (OUTN (NEXT (RG (UU 1 [(135, I (wr ((k : Int) + 1)))] (CS 135 (vi (wr ((k : Int) + 1))) (vi ((k + 1 : Nat) : Int)) VC (UU 1 [(57, I ((k + 1 : Nat) : Int))] (ENDOPS (BK (k + 1, ys9) [1, 3, 55, 56, 57] 1 [] ⟨hl_y8, hd_y8, (fun i p hi hp => by by_cases h9 : i = k; (subst h9; rw [hx_y8] at hp; injection hp with hp; subst hp; exact ⟨⟨by assumption, by omega, fun h0 q hq => by rw [hx14] at hq; injection hq with hq; subst hq; omega⟩, (by have hjk : j = i := LO; rw [← hjk]; exact hpi)⟩); exact hv0 i p LO hp)⟩ (by simp))))))))))))
  refine QU 12 [(91, B false)] (QEND rfl (NEXT (IFF KR (XK (XG (UU 3 [(93, .v (.slice ho2a ho.parties.length ho2c)), (94, I (k : Int))] (OPC (CUTH 28 (.tmp 93) (.tmp 94) 95 28 KR (NL rfl) ho2a ho.parties.length ho2c .i64 (k : Int) KR KR 56 partyL ho.parties KR KR LO LQ rfl LO (fun a30 hsh31 => ?_)))))))))
  have hsh31 : ∀ w, Rd partyL w ho2a ho.parties → Rd partyL w a30 (ho.parties.take k) := hsh31
  have hln32 : (ho.parties.take k).length = k := by first | (simp; done) | (simp; omega)
  refine CS 95 (.slice a30 k ho2c) (.slice a30 ((ho.parties.take k).length) ho2c) (by rw [hln32]) (UU 2 [(96, I (((ho.parties.take k).length : Nat) : Int)), (97, I 0)] (XN (BLOCK (LOOP (ι := Nat) (fun j => [(1, .p 0 0), (3, I (ho.rules.seats.length : Int)), (5, .p 1 0), (55, .v (.slice ho2a ho.parties.length ho2c)), (56, I (ho.parties.length : Int)), (57, I (k : Int)), (95, .v (.slice a30 ((ho.parties.take k).length) ho2c)), (96, I (((ho.parties.take k).length : Nat) : Int)), (97, I (j : Int))]) (fun j => [(31, (hC ho ho1a ho1c ho2a ho2c ho3a ho3c ho4a ho4c ho5a ho5c)), (56, partyE y8)]) (fun j => []) (fun j => j ≤ k ∧ PartyI ho y8 j) (fun j => k - j) (0) [1, 3, 5, 55, 56, 57, 95, 96, 97] ⟨Nat.zero_le _, fun m q hm => absurd hm (Nat.not_lt_zero _)⟩ KR rfl rfl ?_))))
  rintro j ⟨hj, hpi⟩
  try dsimp only at hj hpi
  refine XG (UU 1 [(98, B (decide ((j : Int) < (((ho.parties.take k).length : Nat) : Int))))] (XN (SEQ (IFK (decide ((j : Int) < (((ho.parties.take k).length : Nat) : Int))) (dT fun h33 bh33 => ?_) (dF fun h33 bh33 => ?_)))))
  ·
   refine XK (SEQ (BLOCK (XG ?_)))
   obtain ⟨x34, hx35⟩ : ∃ y, (ho.parties.take k)[j]? = some y := ⟨_, List.getElem?_eq_getElem LO⟩
   refine FACT (a30.isSome = true) (fun w hw => Rd.some (hsh31 _ (hho2.fr hw.fr)) LO) (fun hso36 => (OPC (IX 28 (.tmp 95) (.tmp 97) 99 0 a30 ((ho.parties.take k).length) ho2c .i64 (j : Int) 56 10 hso36 LO LO (OPC (LE 56 (.tmp 99) 100 56 a30 (j * 10) 0 (partyE x34) (.agg (partyE x34).toArray) (fun w hw => (hsh31 _ (hho2.fr hw.fr)).flat hx35) (UL 2 [(7, .p 2 0)] [(31, (hC ho ho1a ho1c ho2a ho2c ho3a ho3c ho4a ho4c ho5a ho5c)), (56, partyE y8), (56, partyE x34)] (NR (UU 6 [(106, B (y8.turn == x34.turn))] (SP 106 (y8.turn == x34.turn) (aT eq_of_beq fun h37 bh37 => ?_) (aT ne_of_beq_false fun h37 bh37 => ?_))))))))))
   · refine UU 27 [(133, B true)] (XN (XI (XG (RB rfl 2 false z3))))
   refine UU 6 [(112, B (decide (y8.turn < x34.turn)))] (SP 112 (decide (y8.turn < x34.turn)) (dT fun h38 bh38 => ?_) (dF fun h38 bh38 => ?_))
   ·
    refine UU 8 [(120, B (decide (y8.since > x34.since)))] (SP 120 (decide (y8.since > x34.since)) (dT fun h39 bh39 => ?_) (dF fun h39 bh39 => ?_))
    · refine UU 13 [(133, B true)] (XN (XI (XG (RB rfl 2 false z3))))
    refine UU 6 [(126, B (decide (x34.turn < y8.turn)))] (SP 126 (decide (x34.turn < y8.turn)) (dT fun h40 bh40 => ?_) (dF fun h40 bh40 => ?_))
    ·
     refine UU 7 [(133, B (decide (x34.since > y8.since)))] (NI (decide (x34.since > y8.since)) (dT fun h41 bh41 => ?_) (dF fun h41 bh41 => ?_))
     · refine XG (RB rfl 2 false z3)
     refine SKIP (OUTN (NEXT (RG (UU 1 [(134, I (wr ((j : Int) + 1)))] (CS 134 (vi (wr ((j : Int) + 1))) (vi ((j + 1 : Nat) : Int)) VC (UU 1 [(97, I ((j + 1 : Nat) : Int))] (ENDOPS (BK (j + 1) [1, 3, 5, 55, 56, 57, 95, 96, 97] 2 [] ⟨by first | omega | (dsimp only; omega), fun m q hm hq => by by_cases h9 : m = j; (subst h9; rw [(take_get hx35).2] at hq; injection hq with hq; subst hq; exact ⟨by omega, by omega, by omega⟩); exact hpi m q LO hq⟩ LD))))))))
    refine UU 7 [(133, B false)] (XN (IFF KR (SKIP (OUTN (NEXT (RG (UU 1 [(134, I (wr ((j : Int) + 1)))] (CS 134 (vi (wr ((j : Int) + 1))) (vi ((j + 1 : Nat) : Int)) VC (UU 1 [(97, I ((j + 1 : Nat) : Int))] (ENDOPS (BK (j + 1) [1, 3, 5, 55, 56, 57, 95, 96, 97] 2 [] ⟨by first | omega | (dsimp only; omega), fun m q hm hq => by by_cases h9 : m = j; (subst h9; rw [(take_get hx35).2] at hq; injection hq with hq; subst hq; exact ⟨by omega, by omega, by omega⟩); exact hpi m q LO hq⟩ LD)))))))))))
   refine UU 14 [(120, B false), (126, B (decide (x34.turn < y8.turn)))] (SP 126 (decide (x34.turn < y8.turn)) (dT fun h42 bh42 => ?_) (dF fun h42 bh42 => ?_))
   ·
    refine UU 7 [(133, B (decide (x34.since > y8.since)))] (NI (decide (x34.since > y8.since)) (dT fun h43 bh43 => ?_) (dF fun h43 bh43 => ?_))
    · refine XG (RB rfl 2 false z3)
    refine SKIP (OUTN (NEXT (RG (UU 1 [(134, I (wr ((j : Int) + 1)))] (CS 134 (vi (wr ((j : Int) + 1))) (vi ((j + 1 : Nat) : Int)) VC (UU 1 [(97, I ((j + 1 : Nat) : Int))] (ENDOPS (BK (j + 1) [1, 3, 5, 55, 56, 57, 95, 96, 97] 2 [] ⟨by first | omega | (dsimp only; omega), fun m q hm hq => by by_cases h9 : m = j; (subst h9; rw [(take_get hx35).2] at hq; injection hq with hq; subst hq; exact ⟨by omega, by omega, by omega⟩); exact hpi m q LO hq⟩ LD))))))))
   refine UU 7 [(133, B false)] (XN (IFF KR (SKIP (OUTN (NEXT (RG (UU 1 [(134, I (wr ((j : Int) + 1)))] (CS 134 (vi (wr ((j : Int) + 1))) (vi ((j + 1 : Nat) : Int)) VC (UU 1 [(97, I ((j + 1 : Nat) : Int))] (ENDOPS (BK (j + 1) [1, 3, 5, 55, 56, 57, 95, 96, 97] 2 [] ⟨by first | omega | (dsimp only; omega), fun m q hm hq => by by_cases h9 : m = j; (subst h9; rw [(take_get hx35).2] at hq; injection hq with hq; subst hq; exact ⟨by omega, by omega, by omega⟩); exact hpi m q LO hq⟩ LD)))))))))))
  refine EXIT (PASS trivial (PASS trivial (OUT (OUTN (NEXT (RG (UU 1 [(135, I (wr ((k : Int) + 1)))] (CS 135 (vi (wr ((k : Int) + 1))) (vi ((k + 1 : Nat) : Int)) VC (UU 1 [(57, I ((k + 1 : Nat) : Int))] (ENDOPS (BK (k + 1, ys9) [1, 3, 55, 56, 57] 1 [] ⟨hl_y8, hd_y8, (fun i p hi hp => by by_cases h9 : i = k; (subst h9; rw [hx_y8] at hp; injection hp with hp; subst hp; exact ⟨⟨by assumption, by omega, fun h0 q hq => absurd h0 LO⟩, (by have hjk : j = i := LO; rw [← hjk]; exact hpi)⟩); exact hv0 i p LO hp)⟩ (by simp))))))))))))
 obtain rfl := drop_nil hk LO
 have hpp : PartiesP ho := partiesP_iff.2 (fun i p hp => hv0 i p (by have := (List.getElem?_eq_some_iff.1 hp).1; simp at hk; omega) hp)
 refine EXIT (PASS trivial (PASS trivial (OUT (XS (XG (UU 4 [(137, .v (.slice ho3a ho.cabins.length ho3c)), (138, I (ho.cabins.length : Int)), (139, I 0)] (XN (BLOCK (LOOP (ι := Nat × (List Cabin)) (fun j => [(1, .p 0 0), (3, I (ho.rules.seats.length : Int)), (137, .v (.slice ho3a ho.cabins.length ho3c)), (138, I (ho.cabins.length : Int)), (139, I (j.1 : Int))]) (fun j => [(31, (hC ho ho1a ho1c ho2a ho2c ho3a ho3c ho4a ho4c ho5a ho5c))]) (fun j => []) (fun j => j.1 + j.2.length = ho.cabins.length ∧ ho.cabins.drop j.1 = j.2 ∧ (∀ (i : Nat) (c : Cabin), i < j.1 → ho.cabins[i]? = some c → CabinH ho i c)) (fun j => j.2.length) (0, ho.cabins) [1, 3, 137, 138, 139] ⟨by simp, rfl, fun i c hi => absurd hi (Nat.not_lt_zero _)⟩ KR rfl rfl ?_)))))))))
 rintro ⟨k, ys⟩ ⟨hk, hd, hv0⟩
 try dsimp only at hk hd hv0
 refine XG (UU 1 [(140, B (decide ((k : Int) < (ho.cabins.length : Int))))] (XN (SEQ (IFK (decide ((k : Int) < (ho.cabins.length : Int))) (dT fun h44 bh44 => ?_) (dF fun h44 bh44 => ?_)))))
 ·
  obtain ⟨y45, ys46, rfl, hx_y45, hd_y45, hl_y45⟩ := drop_cons hd hk LO
  have hcz := hs4 _ (List.mem_of_getElem? hx_y45); have hcz1 := hcz.1; have hcz3 := hcz.2.2
  refine XK (SEQ (BLOCK (XG (UU 1 [(141, I (k : Int))] ?_))))
  obtain ⟨a47, c48, a50, c51, hel53, hi49, hi52, hi49_cap, hi52_cap⟩ := cabin_view hho3 hx_y45
  have hi49_len := hi49.len
  have hi52_len := hi52.len
  refine OPC (IX 29 (.tmp 137) (.tmp 139) 142 0 ho3a ho.cabins.length ho3c .i64 (k : Int) 50 7 (Rd.some hho3 LO) LO LO (OPC (LE 50 (.tmp 142) 143 50 ho3a (k * 7) 0 ((caC y45 a47 c48 a50 c51)) (.agg (caC y45 a47 c48 a50 c51).toArray) (fun w hw => hel53.fr hw.fr) (UL 3 [(8, I (k : Int)), (9, .p 1 0)] [(31, (hC ho ho1a ho1c ho2a ho2c ho3a ho3c ho4a ho4c ho5a ho5c)), (50, (caC y45 a47 c48 a50 c51))] (XN (SEQ (REGIONQ KR KR (QU 7 [(146, I y45.seats.total), (149, .v (.slice ho1a ho.rules.seats.length ho1c)), (150, I (k : Int))] ?_))))))))
  obtain ⟨x54, hx55⟩ : ∃ y, ho.rules.seats[k]? = some y := ⟨_, List.getElem?_eq_getElem LO⟩
  refine QIX 24 (.tmp 149) (.tmp 150) 151 0 ho1a ho.rules.seats.length ho1c .i64 (k : Int) 3 1 (Rd.some hho1 LO) LO LO (QLE 3 (.tmp 151) 152 3 ho1a (k * 1) 0 ([vi x54]) (vi x54) (fun w hw => (hho1.fr hw.fr).flat hx55) (QU 2 [(154, B (y45.seats.total != x54))] (QSP 154 (y45.seats.total != x54) (aT bne_iff_ne.1 fun h56 bh56 => ?_) (aT bneF fun h56 bh56 => ?_))))
  · refine QU 21 [(175, B true)] (QEND rfl (NEXT (XI (XG (RB rfl 2 false z2)))))
  refine QU 3 [(156, .v (.slice ho2a ho.parties.length ho2c)), (157, I (k : Int))] (QX 158 (fun w hw => piCountIn_c w ho.parties ho2a ho2c (hho2.fr hw.fr) (k : Int)) (QU 6 [(164, B (decide ((countGo ho.parties (k : Int) 0) > ho.rules.room)))] (QSP 164 (decide ((countGo ho.parties (k : Int) 0) > ho.rules.room)) (dT fun h57 bh57 => ?_) (dF fun h57 bh57 => ?_))))
  · refine QU 11 [(175, B true)] (QEND rfl (NEXT (XI (XG (RB rfl 2 false z2)))))
  have hq9 := queueRaw_len ho.rules (k : Int) ho.now ho.parties 0 LO LO; have hp9 := pinsRaw_len (k : Int) ho.parties 0 LO LO
  refine QU 8 [(166, .v (.agg (rC ho.rules ho1a ho1c).toArray)), (167, .v (.agg (caC y45 a47 c48 a50 c51).toArray)), (169, .v (.slice ho2a ho.parties.length ho2c)), (170, I (k : Int)), (172, I ho.now)] (QX 173 (fun w hw => iAgrees_c w ho.rules ho1a ho1c (hho1.fr hw.fr) y45 a47 c48 (hi49.fr hw.fr) a50 c51 (hi52.fr hw.fr) ho.parties ho2a ho2c (hho2.fr hw.fr) (k : Int) ho.now LA LA LA LA LA) ?_)
  refine QU 2 [(175, B (!(agrees ho.rules y45 ho.parties (k : Int) ho.now)))] (QEND rfl (NEXT (IFK (!(agrees ho.rules y45 ho.parties (k : Int) ho.now)) (aT notT fun h58 bh58 => ?_) (aT notF fun h58 bh58 => ?_))))
  · refine XG (RB rfl 2 false z2)
  refine SKIP (OUTN (NEXT (RG (UU 1 [(176, I (wr ((k : Int) + 1)))] (CS 176 (vi (wr ((k : Int) + 1))) (vi ((k + 1 : Nat) : Int)) VC (UU 1 [(139, I ((k + 1 : Nat) : Int))] (ENDOPS (BK (k + 1, ys46) [1, 3, 137, 138, 139] 1 [] ⟨hl_y45, hd_y45, (fun i c hi hc => by by_cases h9 : i = k; (subst h9; rw [hx_y45] at hc; injection hc with hc; subst hc; exact ⟨by rw [hx55]; congr 1; omega, by assumption, by omega⟩); exact hv0 i c LO hc)⟩ (by simp)))))))))
 obtain rfl := drop_nil hk LO
 have hcc : ∀ (i : Nat) (c : Cabin), ho.cabins[i]? = some c → CabinH ho i c := fun i c hc => hv0 i c (by have := (List.getElem?_eq_some_iff.1 hc).1; simp at hk; omega) hc
 refine EXIT (PASS trivial (PASS trivial (OUT (XS (XG (UU 4 [(178, .v (.slice ho4a ho.todo.length ho4c)), (179, I (ho.todo.length : Int)), (180, I 0)] (XN (BLOCK (LOOP (ι := Nat × (List Int)) (fun j => [(1, .p 0 0), (3, I (ho.rules.seats.length : Int)), (178, .v (.slice ho4a ho.todo.length ho4c)), (179, I (ho.todo.length : Int)), (180, I (j.1 : Int))]) (fun j => [(31, (hC ho ho1a ho1c ho2a ho2c ho3a ho3c ho4a ho4c ho5a ho5c))]) (fun j => []) (fun j => j.1 + j.2.length = ho.todo.length ∧ ho.todo.drop j.1 = j.2 ∧ (∀ (i : Nat) (x : Int), i < j.1 → ho.todo[i]? = some x → inB x 0 (wr ((ho.rules.seats.length : Int) - 1)) = true ∧ ∀ (j : Nat) (z : Int), j < i → ho.todo[j]? = some z → z ≠ x)) (fun j => j.2.length) (0, ho.todo) [1, 3, 178, 179, 180] ⟨by simp, rfl, fun i x hi => absurd hi (Nat.not_lt_zero _)⟩ KR rfl rfl ?_)))))))))
 rintro ⟨k, ys⟩ ⟨hk, hd, hv0⟩
 try dsimp only at hk hd hv0
 refine XG (UU 1 [(181, B (decide ((k : Int) < (ho.todo.length : Int))))] (XN (SEQ (IFK (decide ((k : Int) < (ho.todo.length : Int))) (dT fun h59 bh59 => ?_) (dF fun h59 bh59 => ?_)))))
 ·
  obtain ⟨y60, ys61, rfl, hx_y60, hd_y60, hl_y60⟩ := drop_cons hd hk LO
  refine XK (SEQ (BLOCK (XG (UU 1 [(182, I (k : Int))] (OPC (IX 24 (.tmp 178) (.tmp 180) 183 0 ho4a ho.todo.length ho4c .i64 (k : Int) 3 1 (Rd.some hho4 LO) LO LO (OPC (LE 3 (.tmp 183) 184 3 ho4a (k * 1) 0 ([vi y60]) (vi y60) (fun w hw => (hho4.fr hw.fr).flat hx_y60) (UU 2 [(10, I (k : Int)), (11, I y60)] (NR (UU 2 [(185, I y60), (186, I (ho.rules.seats.length : Int))] (OPC (CX 187 (fun w hw => isIndex_c w y60 (ho.rules.seats.length : Int)) ?_)))))))))))))
  rintro ⟨⟩
  refine UU 2 [(189, B (!(inB y60 0 (wr ((ho.rules.seats.length : Int) - 1)))))] (SP 189 (!(inB y60 0 (wr ((ho.rules.seats.length : Int) - 1)))) (aT notT fun h62 bh62 => ?_) (aT notF fun h62 bh62 => ?_))
  · refine UU 7 [(196, B true)] (XN (XI (XG (RB rfl 2 false z4))))
  refine UU 3 [(191, .v (.slice ho4a ho.todo.length ho4c)), (192, I (k : Int))] (OPC (CUTH 24 (.tmp 191) (.tmp 192) 193 24 KR (NL rfl) ho4a ho.todo.length ho4c .i64 (k : Int) KR KR 3 intL ho.todo KR KR LO LQ rfl LO (fun a63 hsh64 => ?_)))
  have hsh64 : ∀ w, Rd intL w ho4a ho.todo → Rd intL w a63 (ho.todo.take k) := hsh64
  have hln65 : (ho.todo.take k).length = k := by first | (simp; done) | (simp; omega)
  refine CS 193 (.slice a63 k ho4c) (.slice a63 ((ho.todo.take k).length) ho4c) (by rw [hln65]) (UU 1 [(194, I y60)] (OPC (CX 195 (fun w hw => containsI_c w (ho.todo.take k) a63 ho4c (hsh64 _ (hho4.fr hw.fr)) y60) ?_)))
  rintro ⟨⟩
  refine UU 1 [(196, B (((ho.todo.take k)).any (fun e : Int => y60 == e)))] (NI (((ho.todo.take k)).any (fun e : Int => y60 == e)) (fun bh66 => ?_) (fun bh66 => ?_))
  ·
   have h66 := bh66
   refine XG (RB rfl 2 false z4)
  have h66 := bh66
  refine SKIP (OUTN (NEXT (RG (UU 1 [(197, I (wr ((k : Int) + 1)))] (CS 197 (vi (wr ((k : Int) + 1))) (vi ((k + 1 : Nat) : Int)) VC (UU 1 [(180, I ((k + 1 : Nat) : Int))] (ENDOPS (BK (k + 1, ys61) [1, 3, 178, 179, 180] 1 [] ⟨hl_y60, hd_y60, (fun i x hi hx9 => by by_cases h9 : i = k; (subst h9; rw [hx_y60] at hx9; injection hx9 with hx9; subst hx9; exact ⟨by simp_all, fun j z hj hz he => by have h8 := (any_take' (l := ho.todo) (k := i) (x := y60)).2 ⟨j, z, hj, hz, he⟩; simp_all⟩); exact hv0 i x LO hx9)⟩ (by simp)))))))))
 obtain rfl := drop_nil hk LO
 have htt : ∀ (i : Nat) (x : Int), ho.todo[i]? = some x → inB x 0 (wr ((ho.rules.seats.length : Int) - 1)) = true ∧ ∀ (j : Nat) (z : Int), j < i → ho.todo[j]? = some z → z ≠ x := fun i x hx9 => hv0 i x (by have := (List.getElem?_eq_some_iff.1 hx9).1; simp at hk; omega) hx9
 refine EXIT (PASS trivial (PASS trivial (OUT (XS (XG (UU 4 [(199, .v (.slice ho5a ho.jobs.length ho5c)), (200, I (ho.jobs.length : Int)), (201, I 0)] (XN (BLOCK (LOOP (ι := Nat × (List Int)) (fun j => [(3, I (ho.rules.seats.length : Int)), (199, .v (.slice ho5a ho.jobs.length ho5c)), (200, I (ho.jobs.length : Int)), (201, I (j.1 : Int))]) (fun j => [(31, (hC ho ho1a ho1c ho2a ho2c ho3a ho3c ho4a ho4c ho5a ho5c))]) (fun j => []) (fun j => j.1 + j.2.length = ho.jobs.length ∧ ho.jobs.drop j.1 = j.2 ∧ (∀ x ∈ ho.jobs.take j.1, inB x (-1) ((ho.rules.seats.length - 1 : Nat) : Int) = true)) (fun j => j.2.length) (0, ho.jobs) [3, 199, 200, 201] ⟨by simp, rfl, by simp⟩ KR rfl rfl ?_)))))))))
 rintro ⟨k, ys⟩ ⟨hk, hd, hv0⟩
 try dsimp only at hk hd hv0
 refine XG (UU 1 [(202, B (decide ((k : Int) < (ho.jobs.length : Int))))] (XN (SEQ (IFK (decide ((k : Int) < (ho.jobs.length : Int))) (dT fun h67 bh67 => ?_) (dF fun h67 bh67 => ?_)))))
 ·
  obtain ⟨y68, ys69, rfl, hx_y68, hd_y68, hl_y68⟩ := drop_cons hd hk LO
  refine XK (SEQ (BLOCK (XG (OPC (IX 24 (.tmp 199) (.tmp 201) 203 0 ho5a ho.jobs.length ho5c .i64 (k : Int) 3 1 (Rd.some hho5 LO) LO LO (OPC (LE 3 (.tmp 203) 204 3 ho5a (k * 1) 0 ([vi y68]) (vi y68) (fun w hw => (hho5.fr hw.fr).flat hx_y68) (UU 1 [(13, I y68)] (NR (UU 3 [(205, I y68), (207, I (wr ((ho.rules.seats.length : Int) - 1)))] (CS 207 (vi (wr ((ho.rules.seats.length : Int) - 1))) (vi ((ho.rules.seats.length - 1 : Nat) : Int)) VC (OPC (CX 208 (fun w hw => within_c w y68 (-1) ((ho.rules.seats.length - 1 : Nat) : Int)) ?_)))))))))))))
  rintro ⟨⟩
  refine UU 1 [(209, B (!(inB y68 (-1) ((ho.rules.seats.length - 1 : Nat) : Int))))] (NI (!(inB y68 (-1) ((ho.rules.seats.length - 1 : Nat) : Int))) (aT notT fun h70 bh70 => ?_) (aT notF fun h70 bh70 => ?_))
  · refine XG (RB rfl 2 false (by first | exact z7 | (refine congrArg Value.bool (houseOk_f fun hw9 => ?_).symm; obtain ⟨w1, w2, w3, w4, w5, w6, w7, w8⟩ := hw9; first | exact z10 | exact z9 | exact z8 | omega | (have w9 := w7.2.2; omega) | (have wp := partiesP_iff.1 w6; first | (have w6 := (wp k _ hx_y68).1.1; simp_all; done) | (have w6 := (wp k _ hx_y68).1.2.1; omega)) | (exact absurd ((w8 k _ hx_y68).2.1.symm.trans (show agrees ho.rules y68 ho.parties (k : Int) ho.now = false by assumption)) (by decide)) | (have w9 := (w8 k _ hx_y68).2.2; omega) | (have wj := w7; have wn : wr ((ho.cabins.length : Int) - 1) = wr ((ho.rules.seats.length : Int) - 1) := (by rw [w5]); first | (have w6 := (wj.1 k _ hx_y68).1; rw [wn] at w6; exact absurd (w6.symm.trans (show inB y68 0 (wr ((ho.rules.seats.length : Int) - 1)) = false by assumption)) (by decide)) | (exact Exists.elim ((any_take' (l := ho.todo) (k := k) (x := y68)).1 LS) fun j9 h9 => Exists.elim h9 fun z9 h9 => (wj.1 k _ hx_y68).2 j9 z9 h9.1 h9.2.1 h9.2.2) | (have w6 := wj.2.1 _ (List.mem_of_getElem? hx_y68); rw [wn, hw1] at w6; exact absurd (w6.symm.trans (show inB y68 (-1) ((ho.rules.seats.length - 1 : Nat) : Int) = false by assumption)) (by decide))))))
  refine SKIP (OUTN (NEXT (RG (UU 1 [(210, I (wr ((k : Int) + 1)))] (CS 210 (vi (wr ((k : Int) + 1))) (vi ((k + 1 : Nat) : Int)) VC (UU 1 [(201, I ((k + 1 : Nat) : Int))] (ENDOPS (BK (k + 1, ys69) [3, 199, 200, 201] 1 [] ⟨hl_y68, hd_y68, (by rw [List.take_add_one, hx_y68]; intro x hx9; rcases List.mem_append.1 hx9 with h8 | h8; exact hv0 x h8; (simp at h8; subst h8; assumption))⟩ (by simp)))))))))
 obtain rfl := drop_nil hk LO
 have hjj : ∀ x ∈ ho.jobs, inB x (-1) ((ho.rules.seats.length - 1 : Nat) : Int) = true := (by rw [List.take_of_length_le (by simp at hk; omega)] at hv0; exact hv0)
 refine EXIT (PASS trivial (PASS trivial (OUT (NEXT (XG (RB rfl 2 true z6))))))

theorem iHasCabin_c (W : World) (ho : House) (ho1a : Option Addr) (ho1c : Nat) (hho1 : Rd intL W ho1a ho.rules.seats) (ho2a : Option Addr) (ho2c : Nat) (hho2 : Rd partyL W ho2a ho.parties) (ho3a : Option Addr) (ho3c : Nat) (hho3 : Rd (cabinLx 142 155 167) W ho3a ho.cabins) (ho4a : Option Addr) (ho4c : Nat) (hho4 : Rd intL W ho4a ho.todo) (ho5a : Option Addr) (ho5c : Nat) (hho5 : Rd intL W ho5a ho.jobs) (cabin : Int) (hsz : HouseSz ho) (hcp : ho.parties.length ≤ ho2c) (hct : ho.todo.length ≤ ho4c) : Spec Tryz.prog W [] 115 #[.agg (hC ho ho1a ho1c ho2a ho2c ho3a ho3c ho4a ho4c ho5a ho5c).toArray, vi cabin] (RV (.bool (hasCab ho cabin))) := by
 refine ENTER0 (N := 14) (vs := [.agg (hC ho ho1a ho1c ho2a ho2c ho3a ho3c ho4a ho4c ho5a ho5c).toArray, vi cabin]) Tryz.func115 rfl rfl (NL rfl) ?_
 have hho1len := hho1.len
 have hho2len := hho2.len
 have hho3len := hho3.len
 have hho4len := hho4.len
 have hho5len := hho5.len
 refine XG (UL 2 [(2, .p 0 0)] [(31, (hC ho ho1a ho1c ho2a ho2c ho3a ho3c ho4a ho4c ho5a ho5c))] (NR (UU 1 [(5, .v (.agg (hC ho ho1a ho1c ho2a ho2c ho3a ho3c ho4a ho4c ho5a ho5c).toArray))] (OPC (CX 6 (fun w hw => iHouseOk_c w ho ho1a ho1c (hho1.fr hw.fr) ho2a ho2c (hho2.fr hw.fr) ho3a ho3c (hho3.fr hw.fr) ho4a ho4c (hho4.fr hw.fr) ho5a ho5c (hho5.fr hw.fr) LS LA LA) ?_)))))
 rintro ⟨⟩
 refine UU 1 [(7, B (houseOk ho))] (SP 7 (houseOk ho) (fun bh1 => ?_) (fun bh1 => ?_))
 ·
  have h1 := bh1
  refine UU 4 [(8, I cabin), (11, I (ho.cabins.length : Int))] (OPC (CX 12 (fun w hw => isIndex_c w cabin (ho.cabins.length : Int)) ?_))
  rintro ⟨⟩
  refine UU 2 [(4, B (inB cabin 0 (wr ((ho.cabins.length : Int) - 1))))] (XF rfl (.bool (inB cabin 0 (wr ((ho.cabins.length : Int) - 1)))) () [] (by first | (simp_all [RV, hasCab]; done) | (simp [RV, hasCab, *]; done)))
 have h1 := bh1
 refine UU 7 [(4, B false)] (XF rfl (.bool false) () [] (by first | (simp_all [RV, hasCab]; done) | (simp [RV, hasCab, *]; done)))

end SX
end Go.Proofs.YthnbaikmbgaddaaGreat
