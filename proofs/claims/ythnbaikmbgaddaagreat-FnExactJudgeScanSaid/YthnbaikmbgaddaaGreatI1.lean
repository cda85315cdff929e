/- Walks, printed by program. -/
import Derived.Test.YthnbaikmbgaddaaGreatSxz
import Derived.Test.YthnbaikmbgaddaaGreatMdls
import Derived.Test.YthnbaikmbgaddaaGreatSxd
import Derived.Test.YthnbaikmbgaddaaGreatSxe
import Derived.Test.YthnbaikmbgaddaaGreatSxc
import Derived.Test.YthnbaikmbgaddaaGreatProg
namespace Go.Proofs.YthnbaikmbgaddaaGreat
namespace SX
open Go Go.RowKit
set_option linter.unusedVariables false
set_option linter.unusedSimpArgs false
set_option maxRecDepth 10000
set_option maxHeartbeats 400000
private theorem z6 {p : Prop} (h : p := by simp_all [RV, partyOk]) : p := h
private theorem z5 {p : Prop} (h : p := by simp_all [RV, ledgerOk]) : p := h
private theorem z4 {p : Prop} (h : p := by simp [RV, rulesOk, allSeats, *]) : p := h
private theorem z3 {p : Prop} (h : p := by first | (simp_all [RV, levelI]; done) | (simp_all [RV, levelI, levelAt_max]; done)) : p := h
private theorem z2 {p : Prop} (h : p := by first | (simp [RV, cmpEntry, cmpPin, *]; done) | (simp_all [RV, cmpEntry, cmpPin]; done)) : p := h
private theorem z1 {p : Prop} (h : p := by first | (simp [RV, cmpI, *]; done) | (simp_all [RV, cmpI]; done) | (simp_all [RV, cmpI]; omega)) : p := h
theorem within_c (W : World) (n : Int) (lo : Int) (hi : Int) : Spec Tryz.prog W [] 83 #[vi n, vi lo, vi hi] (RV (.bool (inB n lo hi))) := by
 refine ENTER0 (N := 15) (vs := [vi n, vi lo, vi hi]) Tryz.func83 rfl rfl (NL rfl) ?_
 refine XG (UU 1 [] (NR (UU 4 [(10, B (decide (n ≥ lo)))] (SP 10 (decide (n ≥ lo)) (dT fun h1 bh1 => ?_) (dF fun h1 bh1 => ?_)))))
 · refine UU 5 [(6, B (decide (n ≤ hi)))] (XF rfl (.bool (decide (n ≤ hi))) () [] (by simp [RV, inB, *]))
 refine UU 5 [(6, B false)] (XF rfl (.bool false) () [] (by simp [RV, inB, *]))

theorem isIndex_c (W : World) (n : Int) (size : Int) : Spec Tryz.prog W [] 188 #[vi n, vi size] (RV (.bool (inB n 0 (wr (size - 1))))) := by
 refine ENTER0 (N := 9) (vs := [vi n, vi size]) Tryz.func188 rfl rfl (NL rfl) ?_
 refine XG (UU 1 [] (NR (UU 3 [(5, I n), (7, I (wr (size - 1)))] (OPC (CX 8 (fun w hw => within_c w n 0 (wr (size - 1))) ?_)))))
 rintro ⟨⟩
 refine UU 1 [(4, B (inB n 0 (wr (size - 1))))] (XF rfl (.bool (inB n 0 (wr (size - 1)))) () [] (by simp [RV]))

theorem piRulesOk_c (W : World) (r : Rules) (r9a : Option Addr) (r9c : Nat) (hr9 : Rd intL W r9a r.seats) : Spec Tryz.prog W [] 184 #[.agg (rC r r9a r9c).toArray] (RV (.bool (rulesOk r))) := by
 refine ENTER0 (N := 59) (vs := [.agg (rC r r9a r9c).toArray]) Tryz.func184 rfl rfl (NL rfl) ?_
 have hr9len := hr9.len
 refine XG (UL 2 [(1, .p 0 0)] [(26, (rC r r9a r9c))] (XN (SEQ (XG (UU 3 [(7, I (r.seats.length : Int))] (OPC (CX 8 (fun w hw => within_c w (r.seats.length : Int) 1 4) ?_)))))))
 rintro ⟨⟩
 refine UU 1 [(9, B (!(inB (r.seats.length : Int) 1 4)))] (NI (!(inB (r.seats.length : Int) 1 4)) (aT notT fun h1 bh1 => ?_) (aT notF fun h1 bh1 => ?_))
 · refine XG (RB rfl 2 false z4)
 refine XK (SEQ (XG (UU 4 [(11, .v (.slice r9a r.seats.length r9c)), (12, I (r.seats.length : Int)), (13, I 0)] (XN (BLOCK (LOOP (ι := Nat × (List Int)) (fun j => [(1, .p 0 0), (11, .v (.slice r9a r.seats.length r9c)), (12, I (r.seats.length : Int)), (13, I (j.1 : Int))]) (fun j => [(26, (rC r r9a r9c))]) (fun j => []) (fun j => j.1 + j.2.length = r.seats.length ∧ r.seats.drop j.1 = j.2 ∧ allSeats r.seats = allSeats j.2) (fun j => j.2.length) (0, r.seats) [1, 11, 12, 13] ⟨by simp, rfl, rfl⟩ KR rfl rfl ?_))))))
 rintro ⟨k, ys⟩ ⟨hk, hd, hv0⟩
 try dsimp only at hk hd hv0
 refine XG (UU 1 [(14, B (decide ((k : Int) < (r.seats.length : Int))))] (XN (SEQ (IFK (decide ((k : Int) < (r.seats.length : Int))) (dT fun h2 bh2 => ?_) (dF fun h2 bh2 => ?_)))))
 ·
  obtain ⟨y3, ys4, rfl, hx_y3, hd_y3, hl_y3⟩ := drop_cons hd hk LO
  refine XK (SEQ (BLOCK (XG (OPC (IX 24 (.tmp 11) (.tmp 13) 15 0 r9a r.seats.length r9c .i64 (k : Int) 3 1 (Rd.some hr9 LO) LO LO (OPC (LE 3 (.tmp 15) 16 3 r9a (k * 1) 0 ([vi y3]) (vi y3) (fun w hw => (hr9.fr hw.fr).flat hx_y3) (UU 1 [(4, I y3)] (NR (UU 1 [(17, I y3)] (OPC (CX 18 (fun w hw => within_c w y3 1 60) ?_))))))))))))
  rintro ⟨⟩
  refine UU 1 [(19, B (!(inB y3 1 60)))] (NI (!(inB y3 1 60)) (aT notT fun h5 bh5 => ?_) (aT notF fun h5 bh5 => ?_))
  · refine XG (RB rfl 2 false z4)
  refine SKIP (OUTN (NEXT (RG (UU 1 [(20, I (wr ((k : Int) + 1)))] (CS 20 (vi (wr ((k : Int) + 1))) (vi ((k + 1 : Nat) : Int)) VC (UU 1 [(13, I ((k + 1 : Nat) : Int))] (ENDOPS (BK (k + 1, ys4) [1, 11, 12, 13] 1 [] ⟨hl_y3, hd_y3, hv0.trans (by simp [allSeats, *])⟩ (by simp)))))))))
 obtain rfl := drop_nil hk LO
 refine EXIT (PASS trivial (PASS trivial (OUT (NEXT (XG (UU 2 [(22, I r.tiers)] (OPC (CX 23 (fun w hw => within_c w r.tiers 1 5) ?_))))))))
 rintro ⟨⟩
 refine UU 1 [(24, B (inB r.tiers 1 5))] (SP 24 (inB r.tiers 1 5) (fun bh6 => ?_) (fun bh6 => ?_))
 ·
  have h6 := bh6
  refine UU 2 [(26, I r.room)] (OPC (CX 27 (fun w hw => within_c w r.room 1 10) ?_))
  rintro ⟨⟩
  refine UU 2 [(29, B (inB r.room 1 10))] (SP 29 (inB r.room 1 10) (fun bh7 => ?_) (fun bh7 => ?_))
  ·
   have h7 := bh7
   refine UU 2 [(31, I r.size)] (OPC (CX 32 (fun w hw => within_c w r.size 1 6) ?_))
   rintro ⟨⟩
   refine UU 2 [(34, B (inB r.size 1 6))] (SP 34 (inB r.size 1 6) (fun bh8 => ?_) (fun bh8 => ?_))
   ·
    have h8 := bh8
    refine UU 2 [(36, I r.period)] (OPC (CX 37 (fun w hw => within_c w r.period 1 12) ?_))
    rintro ⟨⟩
    refine UU 2 [(39, B (inB r.period 1 12))] (SP 39 (inB r.period 1 12) (fun bh9 => ?_) (fun bh9 => ?_))
    ·
     have h9 := bh9
     refine UU 2 [(41, I r.window)] (OPC (CX 42 (fun w hw => within_c w r.window 1 8) ?_))
     rintro ⟨⟩
     refine UU 2 [(44, B (inB r.window 1 8))] (SP 44 (inB r.window 1 8) (fun bh10 => ?_) (fun bh10 => ?_))
     ·
      have h10 := bh10
      refine UU 2 [(46, I r.tries)] (OPC (CX 47 (fun w hw => within_c w r.tries 1 4) ?_))
      rintro ⟨⟩
      refine UU 2 [(49, B (inB r.tries 1 4))] (SP 49 (inB r.tries 1 4) (fun bh11 => ?_) (fun bh11 => ?_))
      ·
       have h11 := bh11
       refine UU 2 [(51, I r.crew)] (OPC (CX 52 (fun w hw => within_c w r.crew 1 3) ?_))
       rintro ⟨⟩
       refine UU 2 [(54, B (inB r.crew 1 3))] (SP 54 (inB r.crew 1 3) (fun bh12 => ?_) (fun bh12 => ?_))
       ·
        have h12 := bh12
        refine UU 2 [(56, I r.rest)] (OPC (CX 57 (fun w hw => within_c w r.rest 0 8) ?_))
        rintro ⟨⟩
        refine UU 2 [(2, B (inB r.rest 0 8))] (XF rfl (.bool (inB r.rest 0 8)) () [] z4)
       have h12 := bh12
       refine UU 5 [(2, B false)] (XF rfl (.bool false) () [] z4)
      have h11 := bh11
      refine UU 10 [(2, B false)] (XF rfl (.bool false) () [] z4)
     have h10 := bh10
     refine UU 15 [(2, B false)] (XF rfl (.bool false) () [] z4)
    have h9 := bh9
    refine UU 20 [(2, B false)] (XF rfl (.bool false) () [] z4)
   have h8 := bh8
   refine UU 25 [(2, B false)] (XF rfl (.bool false) () [] z4)
  have h7 := bh7
  refine UU 30 [(2, B false)] (XF rfl (.bool false) () [] z4)
 have h6 := bh6
 refine UU 35 [(2, B false)] (XF rfl (.bool false) () [] z4)

theorem pisNaN_c (W : World) (x : Int) : Spec Tryz.prog W [] 358 #[vi x] (RV (.bool false)) := by
 refine ENTER0 (N := 6) (vs := [vi x]) Tryz.func358 rfl rfl (NL rfl) ?_
 refine XG (UU 1 [] (NR (UU 4 [(2, B (x != x))] (XF rfl (.bool (x != x)) () [] (by simp [RV])))))

theorem pcmpI_c (W : World) (x : Int) (y : Int) : Spec Tryz.prog W [] 347 #[vi x, vi y] (RV (vi (cmpI x y))) := by
 refine ENTER0 (N := 20) (vs := [vi x, vi y]) Tryz.func347 rfl rfl (NL rfl) ?_
 refine XG (UU 1 [] (NR (UU 1 [(7, I x)] (OPC (CX 8 (fun w hw => pisNaN_c w x) ?_)))))
 rintro ⟨⟩
 refine UU 1 [(5, B false)] (NR (UU 1 [(9, I y)] (OPC (CX 10 (fun w hw => pisNaN_c w y) ?_))))
 rintro ⟨⟩
 refine UU 1 [(6, B false)] (XN (SEQ (XG (UU 1 [(11, B false)] (XN (IFF KR (XK (SEQ (XG (UU 1 [(13, B false)] (XN (IFF KR (XK (SEQ (XG (UU 3 [(16, B (decide (x < y)))] (NI (decide (x < y)) (dT fun h1 bh1 => ?_) (dF fun h1 bh1 => ?_))))))))))))))))))
 · refine XG (UU 1 [(4, I (-1))] (XF rfl (vi (-1)) () [] z1))
 refine XK (SEQ (XG (UU 3 [(19, B (decide (x > y)))] (NI (decide (x > y)) (dT fun h2 bh2 => ?_) (dF fun h2 bh2 => ?_)))))
 · refine XG (UU 1 [(4, I 1)] (XF rfl (vi 1) () [] z1))
 refine XK (XG (UU 1 [(4, I 0)] (XF rfl (vi 0) () [] z1)))

theorem pcmpEntry_c (W : World) (a : Entry) (b : Entry) : Spec Tryz.prog W [] 302 #[.agg #[vi a.level, vi a.turn, vi a.id, vi a.size], .agg #[vi b.level, vi b.turn, vi b.id, vi b.size]] (RV (vi (cmpEntry a b))) := by
 refine ENTER0 (N := 19) (vs := [.agg #[vi a.level, vi a.turn, vi a.id, vi a.size], .agg #[vi b.level, vi b.turn, vi b.id, vi b.size]]) Tryz.func302 rfl rfl (NL rfl) ?_
 refine XG (UL 3 [(2, .p 0 0), (3, .p 1 0)] [(142, entryE a), (142, entryE b)] (XN (SEQ (XG (UU 4 [(7, I a.level), (9, I b.level)] (OPC (CX 10 (fun w hw => pcmpI_c w a.level b.level) ?_)))))))
 rintro ⟨⟩
 refine UU 1 [(5, I (cmpI a.level b.level))] (NR (UU 2 [(12, B ((cmpI a.level b.level) != 0))] (NI ((cmpI a.level b.level) != 0) (aT bne_iff_ne.1 fun h1 bh1 => ?_) (aT bneF fun h1 bh1 => ?_))))
 · refine XG (UU 2 [(4, I (cmpI a.level b.level))] (XF rfl (vi (cmpI a.level b.level)) () [] z2))
 refine XK (XG (UU 4 [(15, I a.turn), (17, I b.turn)] (OPC (CX 18 (fun w hw => pcmpI_c w a.turn b.turn) ?_))))
 rintro ⟨⟩
 refine UU 1 [(4, I (cmpI a.turn b.turn))] (XF rfl (vi (cmpI a.turn b.turn)) () [] z2)

theorem pcmpPin_c (W : World) (a : Pin) (b : Pin) : Spec Tryz.prog W [] 298 #[.agg #[vi a.at', vi a.id], .agg #[vi b.at', vi b.id]] (RV (vi (cmpPin a b))) := by
 refine ENTER0 (N := 19) (vs := [.agg #[vi a.at', vi a.id], .agg #[vi b.at', vi b.id]]) Tryz.func298 rfl rfl (NL rfl) ?_
 refine XG (UL 3 [(2, .p 0 0), (3, .p 1 0)] [(167, pinE a), (167, pinE b)] (XN (SEQ (XG (UU 4 [(7, I a.at'), (9, I b.at')] (OPC (CX 10 (fun w hw => pcmpI_c w a.at' b.at') ?_)))))))
 rintro ⟨⟩
 refine UU 1 [(5, I (cmpI a.at' b.at'))] (NR (UU 2 [(12, B ((cmpI a.at' b.at') != 0))] (NI ((cmpI a.at' b.at') != 0) (aT bne_iff_ne.1 fun h1 bh1 => ?_) (aT bneF fun h1 bh1 => ?_))))
 · refine XG (UU 2 [(4, I (cmpI a.at' b.at'))] (XF rfl (vi (cmpI a.at' b.at')) () [] z2))
 refine XK (XG (UU 4 [(15, I a.id), (17, I b.id)] (OPC (CX 18 (fun w hw => pcmpI_c w a.id b.id) ?_))))
 rintro ⟨⟩
 refine UU 1 [(4, I (cmpI a.id b.id))] (XF rfl (vi (cmpI a.id b.id)) () [] z2)

theorem iEntryLess_c (W : World) (a : Entry) (b : Entry) : Spec Tryz.prog W [] 337 #[.agg #[vi a.level, vi a.turn, vi a.id, vi a.size], .agg #[vi b.level, vi b.turn, vi b.id, vi b.size]] (RV (.bool (entryLess a b))) := by
 refine ENTER0 (N := 9) (vs := [.agg #[vi a.level, vi a.turn, vi a.id, vi a.size], .agg #[vi b.level, vi b.turn, vi b.id, vi b.size]]) Tryz.func337 rfl rfl (NL rfl) ?_
 refine XG (UL 3 [(2, .p 0 0), (3, .p 1 0)] [(142, entryE a), (142, entryE b)] (NR (UU 2 [(5, .v (.agg (entryE a).toArray)), (6, .v (.agg (entryE b).toArray))] (OPC (CX 7 (fun w hw => pcmpEntry_c w a b) ?_)))))
 rintro ⟨⟩
 refine UU 2 [(4, B (decide ((cmpEntry a b) < 0)))] (XF rfl (.bool (decide ((cmpEntry a b) < 0))) () [] (by simp only [RV, cmpEntry_lt]))

theorem pinOk_c (W : World) (p : Pin) : Spec Tryz.prog W [] 265 #[.agg #[vi p.at', vi p.id]] (RV (.bool (inB (p).at' 1 1000008 && inB (p).id 1 999))) := by
 refine ENTER0 (N := 11) (vs := [.agg #[vi p.at', vi p.id]]) Tryz.func265 rfl rfl (NL rfl) ?_
 refine XG (UL 2 [(1, .p 0 0)] [(167, pinE p)] (NR (UU 2 [(4, I p.at')] (OPC (CX 5 (fun w hw => within_c w p.at' 1 1000008) ?_)))))
 rintro ⟨⟩
 refine UU 1 [(6, B (inB p.at' 1 1000008))] (SP 6 (inB p.at' 1 1000008) (fun bh1 => ?_) (fun bh1 => ?_))
 ·
  have h1 := bh1
  refine UU 2 [(8, I p.id)] (OPC (CX 9 (fun w hw => within_c w p.id 1 999) ?_))
  rintro ⟨⟩
  refine UU 2 [(2, B (inB p.id 1 999))] (XF rfl (.bool (inB p.id 1 999)) () [] (by first | (simp [RV, *]; done) | (simp_all [RV]; done)))
 have h1 := bh1
 refine UU 5 [(2, B false)] (XF rfl (.bool false) () [] (by first | (simp [RV, *]; done) | (simp_all [RV]; done)))

theorem piLedgerOk_c (W : World) (l : Ledger) : Spec Tryz.prog W [] 318 #[.agg (leC l).toArray] (RV (.bool (ledgerOk l))) := by
 refine ENTER0 (N := 47) (vs := [.agg (leC l).toArray]) Tryz.func318 rfl rfl (NL rfl) ?_
 refine XG (UL 2 [(1, .p 0 0)] [(44, ledgerE l)] (NR (UU 2 [(4, I l.total)] (OPC (CX 5 (fun w hw => within_c w l.total 1 60) ?_)))))
 rintro ⟨⟩
 refine UU 1 [(6, B (inB l.total 1 60))] (SP 6 (inB l.total 1 60) (fun bh1 => ?_) (fun bh1 => ?_))
 ·
  have h1 := bh1
  refine UU 4 [(8, I l.free), (10, I l.total)] (OPC (CX 11 (fun w hw => within_c w l.free 0 l.total) ?_))
  rintro ⟨⟩
  refine UU 2 [(13, B (inB l.free 0 l.total))] (SP 13 (inB l.free 0 l.total) (fun bh2 => ?_) (fun bh2 => ?_))
  ·
   have h2 := bh2
   refine UU 4 [(15, I l.held), (17, I l.total)] (OPC (CX 18 (fun w hw => within_c w l.held 0 l.total) ?_))
   rintro ⟨⟩
   refine UU 2 [(20, B (inB l.held 0 l.total))] (SP 20 (inB l.held 0 l.total) (fun bh3 => ?_) (fun bh3 => ?_))
   ·
    have h3 := bh3
    refine UU 4 [(22, I l.sold), (24, I l.total)] (OPC (CX 25 (fun w hw => within_c w l.sold 0 l.total) ?_))
    rintro ⟨⟩
    refine UU 2 [(27, B (inB l.sold 0 l.total))] (SP 27 (inB l.sold 0 l.total) (fun bh4 => ?_) (fun bh4 => ?_))
    ·
     have h4 := bh4
     refine UU 13 [(40, B ((wr ((wr (l.free + l.held)) + l.sold)) == l.total))] (SP 40 ((wr ((wr (l.free + l.held)) + l.sold)) == l.total) (aT eq_of_beq fun h5 bh5 => ?_) (aT ne_of_beq_false fun h5 bh5 => ?_))
     ·
      refine UU 4 [(42, I l.tied), (44, I l.sold)] (OPC (CX 45 (fun w hw => within_c w l.tied 0 l.sold) ?_))
      rintro ⟨⟩
      refine UU 2 [(2, B (inB l.tied 0 l.sold))] (XF rfl (.bool (inB l.tied 0 l.sold)) () [] z5)
     refine UU 7 [(2, B false)] (XF rfl (.bool false) () [] z5)
    have h4 := bh4
    refine UU 20 [(2, B false)] (XF rfl (.bool false) () [] z5)
   have h3 := bh3
   refine UU 27 [(2, B false)] (XF rfl (.bool false) () [] z5)
  have h2 := bh2
  refine UU 34 [(2, B false)] (XF rfl (.bool false) () [] z5)
 have h1 := bh1
 refine UU 41 [(2, B false)] (XF rfl (.bool false) () [] z5)

theorem queueAt1_c (W : World) (e : Entry) (id_b : Nat) (id : Int) (hid : ElemAt W (some ⟨id_b, 0, none⟩) 0 [vi id]) : Spec Tryz.prog W [] 344 #[.agg #[vi e.level, vi e.turn, vi e.id, vi e.size], .pointer (some ⟨id_b, 0, none⟩)] (RV (.bool ((e).id == id))) := by
 refine ENTER0 (N := 8) (vs := [.agg #[vi e.level, vi e.turn, vi e.id, vi e.size], .pointer (some ⟨id_b, 0, none⟩)]) Tryz.func344 rfl rfl (NL rfl) ?_
 refine ASE (d := 1) rfl (XG (UL 2 [(2, .p 0 0)] [(142, entryE e)] (NR (UU 2 [(5, I e.id)] (OPC (LE 3 (.tmp 1) 6 3 (some ⟨id_b, 0, none⟩) 0 0 ([vi id]) (vi id) (fun w hw => (hid.fr hw.fr)) (UU 2 [(3, B (e.id == id))] (XF rfl (.bool (e.id == id)) () [] (by simp [RV])))))))))

theorem ixQueueAt_c (W : World) (list : List Entry) (list_a : Option Addr) (list_c : Nat) (hlist : Rd entryL W list_a list) (id_b : Nat) (id : Int) (hid : ElemAt W (some ⟨id_b, 0, none⟩) 0 [vi id]) : Spec Tryz.prog W [] 342 #[.slice list_a list.length list_c, .func (.func 344) #[] #[.pointer (some ⟨id_b, 0, none⟩)]] (RV (vi (idxF (fun e : Entry => e.id == id) list 0))) := by
 refine ENTER0 (N := 19) (vs := [.slice list_a list.length list_c, .func (.func 344) #[] #[.pointer (some ⟨id_b, 0, none⟩)]]) Tryz.func342 rfl rfl (NL rfl) ?_
 have hlist_len := hlist.len
 refine XG (UU 1 [] (XN (SEQ (XG (UU 3 [(7, I (list.length : Int)), (8, I 0)] (XN (BLOCK (LOOP (ι := Nat × (List Entry)) (fun j => [(0, .v (.slice list_a list.length list_c)), (1, .v (.func (.func 344) #[] #[.pointer (some ⟨id_b, 0, none⟩)])), (7, I (list.length : Int)), (8, I (j.1 : Int))]) (fun j => []) (fun j => []) (fun j => j.1 + j.2.length = list.length ∧ list.drop j.1 = j.2 ∧ idxF (fun e : Entry => e.id == id) list 0 = idxF (fun e : Entry => e.id == id) j.2 j.1) (fun j => j.2.length) (0, list) [0, 1, 7, 8] ⟨by simp, rfl, rfl⟩ KR rfl rfl ?_))))))))
 rintro ⟨k, ys⟩ ⟨hk, hd, hv0⟩
 try dsimp only at hk hd hv0
 refine XG (UU 1 [(9, B (decide ((k : Int) < (list.length : Int))))] (XN (SEQ (IFK (decide ((k : Int) < (list.length : Int))) (dT fun h1 bh1 => ?_) (dF fun h1 bh1 => ?_)))))
 ·
  obtain ⟨y2, ys3, rfl, hx_y2, hd_y2, hl_y2⟩ := drop_cons hd hk LO
  refine XK (SEQ (BLOCK (XG (UU 2 [(5, I (k : Int))] (NR (UU 3 [(11, .v (.func (.func 344) #[] #[.pointer (some ⟨id_b, 0, none⟩)])), (12, .v (.slice list_a list.length list_c)), (13, I (k : Int))] (OPC (IX 45 (.tmp 12) (.tmp 13) 14 0 list_a list.length list_c .i64 (k : Int) 142 4 (Rd.some hlist LO) LO LO (OPC (LE 142 (.tmp 14) 15 142 list_a (k * 4) 0 (entryE y2) (.agg (entryE y2).toArray) (fun w hw => (hlist.fr hw.fr).flat hx_y2) (OPC (CX 16 (fun w hw => queueAt1_c w y2 id_b id (hid.fr hw.fr)) ?_))))))))))))
  rintro ⟨⟩
  refine NI ((y2).id == id) (aT eq_of_beq fun h4 bh4 => ?_) (aT ne_of_beq_false fun h4 bh4 => ?_)
  · refine XG (UU 2 [(4, I (k : Int))] (XF rfl (vi (k : Int)) () [] (by simp_all [RV, idxF])))
  refine SKIP (OUTN (NEXT (RG (UU 1 [(18, I (wr ((k : Int) + 1)))] (CS 18 (vi (wr ((k : Int) + 1))) (vi ((k + 1 : Nat) : Int)) VC (UU 1 [(8, I ((k + 1 : Nat) : Int))] (ENDOPS (BK (k + 1, ys3) [0, 1, 7, 8] 0 [] ⟨hl_y2, hd_y2, (hv0.trans (by simp_all [idxF]))⟩ (by simp)))))))))
 obtain rfl := drop_nil hk LO
 refine EXIT (PASS trivial (PASS trivial (OUT (NEXT (XG (UU 1 [(4, I (-1))] (XF rfl (vi (-1)) () [] (by simp_all [RV, idxF]))))))))

theorem iQueueAt_c (W : World) (list : List Entry) (list_a : Option Addr) (list_c : Nat) (hlist : Rd entryL W list_a list) (id : Int) : Spec Tryz.prog W [] 294 #[.slice list_a list.length list_c, vi id] (RV (vi (queueAt list id 0))) := by
 refine ENTER0 (N := 8) (vs := [.slice list_a list.length list_c, vi id]) Tryz.func294 rfl rfl (NL rfl) ?_
 have hlist_len := hlist.len
 refine XG (UL 2 [(3, .p 0 0)] [(3, [vi id])] (NR (UU 1 [(5, .v (.slice list_a list.length list_c))] (EXPORT (fun bs hbs => ?_)))))
 obtain ⟨b1, rfl⟩ := len1 hbs
 refine ASV (d := 3) rfl (RU 1 [2, 3] [(6, .v (.func (.func 344) #[] #[.pointer (some ⟨b1, 0, none⟩)]))] KR rfl (OPC (CX 7 (fun w hw => ixQueueAt_c w list list_a list_c (hlist.fr hw.fr) b1 id (ptC_elem (hw.own 0 rfl))) ?_)))
 rintro ⟨⟩
 refine UU 1 [(4, I (idxF (fun e : Entry => e.id == id) list 0))] (ENDOPS (IMPORT (L0 := [(3, [vi id])]) (L1 := []) [b1] rfl [0] _ rfl [(4, I (idxF (fun e : Entry => e.id == id) list 0))] KR KR (NEXT (RF rfl (vi (idxF (fun e : Entry => e.id == id) list 0)) () [] ?_ ?_))))
 · simp only [RV, queueAt_idx]
 rfl

theorem piLevel_c (W : World) (r : Rules) (r9a : Option Addr) (r9c : Nat) (hr9 : Rd intL W r9a r.seats) (tier : Int) (waited : Int) : Spec Tryz.prog W [] 350 #[.agg (rC r r9a r9c).toArray, vi tier, vi waited] (RV (vi (levelI r tier waited))) := by
 refine ENTER0 (N := 28) (vs := [.agg (rC r r9a r9c).toArray, vi tier, vi waited]) Tryz.func350 rfl rfl (NL rfl) ?_
 have hr9len := hr9.len
 refine XG (UL 2 [(3, .p 0 0)] [(26, (rC r r9a r9c))] (XN (SEQ (XG (UU 1 [(7, .v (.agg (rC r r9a r9c).toArray))] (OPC (CX 8 (fun w hw => piRulesOk_c w r r9a r9c (hr9.fr hw.fr)) ?_)))))))
 rintro ⟨⟩
 refine UU 2 [(10, B (!(rulesOk r)))] (SP 10 (!(rulesOk r)) (aT notT fun h1 bh1 => ?_) (aT notF fun h1 bh1 => ?_))
 · refine UU 10 [(20, B true)] (XN (XI (XG (UU 1 [(6, I (-1))] (XF rfl (vi (-1)) () [] z3)))))
 have hper : 1 ≤ r.period := (by have h9 := h1; simp [rulesOk, inB] at h9; omega)
 refine UU 3 [(11, I tier), (13, I r.tiers)] (OPC (CX 14 (fun w hw => isIndex_c w tier r.tiers) ?_))
 rintro ⟨⟩
 refine UU 3 [(17, B (!(inB tier 0 (wr (r.tiers - 1)))))] (SP 17 (!(inB tier 0 (wr (r.tiers - 1)))) (aT notT fun h2 bh2 => ?_) (aT notF fun h2 bh2 => ?_))
 · refine UU 3 [(20, B true)] (XN (XI (XG (UU 1 [(6, I (-1))] (XF rfl (vi (-1)) () [] z3)))))
 refine UU 3 [(20, B (decide (waited < 0)))] (NI (decide (waited < 0)) (dT fun h3 bh3 => ?_) (dF fun h3 bh3 => ?_))
 · refine XG (UU 1 [(6, I (-1))] (XF rfl (vi (-1)) () [] z3))
 refine XK (XG (UU 4 [(21, I tier), (22, I waited), (24, I r.period)] (OPC (RUNV (.binOp .quo 3 (.tmp 22) (.tmp 24) 3) 25 3 KR (NL rfl) (vi (wr (Int.tdiv waited r.period))) (runs_quo (a := waited) (b := r.period) KR KR LO) (UU 3 [(6, I (if (wr (tier - (wr (Int.tdiv waited r.period)))) > 0 then (wr (tier - (wr (Int.tdiv waited r.period)))) else 0))] (XF rfl (vi (if (wr (tier - (wr (Int.tdiv waited r.period)))) > 0 then (wr (tier - (wr (Int.tdiv waited r.period)))) else 0)) () [] z3))))))

theorem piPartyOk_c (W : World) (r : Rules) (r9a : Option Addr) (r9c : Nat) (hr9 : Rd intL W r9a r.seats) (pa : Party) (now : Int) : Spec Tryz.prog W [] 185 #[.agg (rC r r9a r9c).toArray, .agg (paC pa).toArray, vi now] (RV (.bool (partyOk r pa now))) := by
 refine ENTER0 (N := 108) (vs := [.agg (rC r r9a r9c).toArray, .agg (paC pa).toArray, vi now]) Tryz.func185 rfl rfl (NL rfl) ?_
 have hr9len := hr9.len
 refine XG (UL 3 [(3, .p 0 0), (4, .p 1 0)] [(26, (rC r r9a r9c)), (56, partyE pa)] (XN (SEQ (XG (UU 1 [(7, .v (.agg (rC r r9a r9c).toArray))] (OPC (CX 8 (fun w hw => piRulesOk_c w r r9a r9c (hr9.fr hw.fr)) ?_)))))))
 rintro ⟨⟩
 refine UU 2 [(10, B (!(rulesOk r)))] (SP 10 (!(rulesOk r)) (aT notT fun h1 bh1 => ?_) (aT notF fun h1 bh1 => ?_))
 · refine UU 36 [(46, B true)] (XN (XI (XG (RB rfl 6 false z6))))
 refine UU 1 [(11, I now)] (OPC (CX 12 (fun w hw => within_c w now 0 1000000) ?_))
 rintro ⟨⟩
 refine UU 3 [(15, B (!(inB now 0 1000000)))] (SP 15 (!(inB now 0 1000000)) (aT notT fun h2 bh2 => ?_) (aT notF fun h2 bh2 => ?_))
 · refine UU 31 [(46, B true)] (XN (XI (XG (RB rfl 6 false z6))))
 refine UU 2 [(17, I pa.id)] (OPC (CX 18 (fun w hw => within_c w pa.id 1 999) ?_))
 rintro ⟨⟩
 refine UU 3 [(21, B (!(inB pa.id 1 999)))] (SP 21 (!(inB pa.id 1 999)) (aT notT fun h3 bh3 => ?_) (aT notF fun h3 bh3 => ?_))
 · refine UU 25 [(46, B true)] (XN (XI (XG (RB rfl 6 false z6))))
 refine UU 5 [(23, I pa.cabin), (26, I (r.seats.length : Int))] (OPC (CX 27 (fun w hw => isIndex_c w pa.cabin (r.seats.length : Int)) ?_))
 rintro ⟨⟩
 refine UU 3 [(30, B (!(inB pa.cabin 0 (wr ((r.seats.length : Int) - 1)))))] (SP 30 (!(inB pa.cabin 0 (wr ((r.seats.length : Int) - 1)))) (aT notT fun h4 bh4 => ?_) (aT notF fun h4 bh4 => ?_))
 · refine UU 16 [(46, B true)] (XN (XI (XG (RB rfl 6 false z6))))
 refine UU 6 [(32, I pa.from'), (36, I (wr ((r.seats.length : Int) - 1)))] (OPC (CX 37 (fun w hw => within_c w pa.from' (-1) (wr ((r.seats.length : Int) - 1))) ?_))
 rintro ⟨⟩
 refine UU 3 [(40, B (!(inB pa.from' (-1) (wr ((r.seats.length : Int) - 1)))))] (SP 40 (!(inB pa.from' (-1) (wr ((r.seats.length : Int) - 1)))) (aT notT fun h5 bh5 => ?_) (aT notF fun h5 bh5 => ?_))
 · refine UU 6 [(46, B true)] (XN (XI (XG (RB rfl 6 false z6))))
 refine UU 6 [(46, B (pa.from' == pa.cabin))] (NI (pa.from' == pa.cabin) (aT eq_of_beq fun h6 bh6 => ?_) (aT ne_of_beq_false fun h6 bh6 => ?_))
 · refine XG (RB rfl 6 false z6)
 refine XK (SEQ (XG (UU 4 [(48, I pa.size), (50, I r.size)] (OPC (CX 51 (fun w hw => within_c w pa.size 1 r.size) ?_)))))
 rintro ⟨⟩
 refine UU 2 [(53, B (!(inB pa.size 1 r.size)))] (SP 53 (!(inB pa.size 1 r.size)) (aT notT fun h7 bh7 => ?_) (aT notF fun h7 bh7 => ?_))
 · refine UU 28 [(81, B true)] (XN (XI (XG (RB rfl 6 false z6))))
 refine UU 4 [(55, I pa.tier), (57, I r.tiers)] (OPC (CX 58 (fun w hw => isIndex_c w pa.tier r.tiers) ?_))
 rintro ⟨⟩
 refine UU 3 [(61, B (!(inB pa.tier 0 (wr (r.tiers - 1)))))] (SP 61 (!(inB pa.tier 0 (wr (r.tiers - 1)))) (aT notT fun h8 bh8 => ?_) (aT notF fun h8 bh8 => ?_))
 · refine UU 20 [(81, B true)] (XN (XI (XG (RB rfl 6 false z6))))
 refine UU 3 [(63, I pa.since), (64, I now)] (OPC (CX 65 (fun w hw => within_c w pa.since 0 now) ?_))
 rintro ⟨⟩
 refine UU 3 [(68, B (!(inB pa.since 0 now)))] (SP 68 (!(inB pa.since 0 now)) (aT notT fun h9 bh9 => ?_) (aT notF fun h9 bh9 => ?_))
 · refine UU 13 [(81, B true)] (XN (XI (XG (RB rfl 6 false z6))))
 refine UU 2 [(70, I pa.turn)] (OPC (CX 71 (fun w hw => within_c w pa.turn 1 1000000) ?_))
 rintro ⟨⟩
 refine UU 3 [(74, B (!(inB pa.turn 1 1000000)))] (SP 74 (!(inB pa.turn 1 1000000)) (aT notT fun h10 bh10 => ?_) (aT notF fun h10 bh10 => ?_))
 · refine UU 7 [(81, B true)] (XN (XI (XG (RB rfl 6 false z6))))
 refine UU 4 [(76, I pa.asked), (78, I r.tries)] (OPC (CX 79 (fun w hw => isIndex_c w pa.asked r.tries) ?_))
 rintro ⟨⟩
 refine UU 2 [(81, B (!(inB pa.asked 0 (wr (r.tries - 1)))))] (NI (!(inB pa.asked 0 (wr (r.tries - 1)))) (aT notT fun h11 bh11 => ?_) (aT notF fun h11 bh11 => ?_))
 · refine XG (RB rfl 6 false z6)
 refine XK (XG (UU 4 [(85, B (pa.state == 1))] (SP 85 (pa.state == 1) (aT eq_of_beq fun h12 bh12 => ?_) (aT ne_of_beq_false fun h12 bh12 => ?_))))
 ·
  refine UU 6 [(87, I pa.until'), (91, I (wr (now + r.rest)))] (OPC (CX 92 (fun w hw => within_c w pa.until' 0 (wr (now + r.rest))) ?_))
  rintro ⟨⟩
  refine UU 2 [(94, B (inB pa.until' 0 (wr (now + r.rest))))] (SP 94 (inB pa.until' 0 (wr (now + r.rest))) (fun bh13 => ?_) (fun bh13 => ?_))
  ·
   have h13 := bh13
   refine UU 14 [(6, B true)] (XF rfl (.bool true) () [] z6)
  have h13 := bh13
  refine UU 4 [(98, B (pa.state == 2))] (SP 98 (pa.state == 2) (fun bh14 => ?_) (fun bh14 => ?_))
  · have bh14 := eq_of_beq bh14; exfalso; omega
  have h14 := ne_of_beq_false bh14
  refine UU 10 [(6, B false)] (XF rfl (.bool false) () [] z6)
 refine UU 13 [(94, B false), (98, B (pa.state == 2))] (SP 98 (pa.state == 2) (aT eq_of_beq fun h15 bh15 => ?_) (aT ne_of_beq_false fun h15 bh15 => ?_))
 ·
  refine UU 6 [(100, I pa.until'), (104, I (wr (now + r.window)))] (OPC (CX 105 (fun w hw => within_c w pa.until' 1 (wr (now + r.window))) ?_))
  rintro ⟨⟩
  refine UU 3 [(6, B (inB pa.until' 1 (wr (now + r.window))))] (XF rfl (.bool (inB pa.until' 1 (wr (now + r.window)))) () [] z6)
 refine UU 10 [(6, B false)] (XF rfl (.bool false) () [] z6)

theorem piLevelOf_c (W : World) (r : Rules) (r9a : Option Addr) (r9c : Nat) (hr9 : Rd intL W r9a r.seats) (pa : Party) (now : Int) : Spec Tryz.prog W [] 300 #[.agg (rC r r9a r9c).toArray, .agg (paC pa).toArray, vi now] (RV (vi (levelOf r pa now))) := by
 refine ENTER0 (N := 20) (vs := [.agg (rC r r9a r9c).toArray, .agg (paC pa).toArray, vi now]) Tryz.func300 rfl rfl (NL rfl) ?_
 have hr9len := hr9.len
 refine XG (UL 3 [(3, .p 0 0), (4, .p 1 0)] [(26, (rC r r9a r9c)), (56, partyE pa)] (XN (SEQ (XG (UU 3 [(7, .v (.agg (rC r r9a r9c).toArray)), (8, .v (.agg (partyE pa).toArray)), (9, I now)] (OPC (CX 10 (fun w hw => piPartyOk_c w r r9a r9c (hr9.fr hw.fr) pa now) ?_)))))))
 rintro ⟨⟩
 refine UU 1 [(11, B (!(partyOk r pa now)))] (NI (!(partyOk r pa now)) (aT notT fun h1 bh1 => ?_) (aT notF fun h1 bh1 => ?_))
 · refine XG (UU 1 [(6, I (-1))] (XF rfl (vi (-1)) () [] (by first | (simp_all [RV, levelOf, levelI_of]; done))))
 refine XK (XG (UU 7 [(12, .v (.agg (rC r r9a r9c).toArray)), (14, I pa.tier), (18, I (wr (now - pa.since)))] (OPC (CX 19 (fun w hw => piLevel_c w r r9a r9c (hr9.fr hw.fr) pa.tier (wr (now - pa.since))) ?_))))
 rintro ⟨⟩
 refine UU 1 [(6, I (levelI r pa.tier (wr (now - pa.since))))] (XF rfl (vi (levelI r pa.tier (wr (now - pa.since)))) () [] (by first | (simp_all [RV, levelOf, levelI_of]; done)))

theorem piEntryOf_c (W : World) (r : Rules) (r9a : Option Addr) (r9c : Nat) (hr9 : Rd intL W r9a r.seats) (pa : Party) (now : Int) : Spec Tryz.prog W [] 284 #[.agg (rC r r9a r9c).toArray, .agg (paC pa).toArray, vi now] (RV (.tuple #[.agg #[vi ((entryOf r pa now).level), vi ((entryOf r pa now).turn), vi ((entryOf r pa now).id), vi ((entryOf r pa now).size)], .bool (entryOk r pa now)])) := by
 refine ENTER0 (N := 30) (vs := [.agg (rC r r9a r9c).toArray, .agg (paC pa).toArray, vi now]) Tryz.func284 rfl rfl (NL rfl) ?_
 have hr9len := hr9.len
 refine XG (UL 4 [(3, .p 0 0), (4, .p 1 0), (6, .p 2 0)] [(26, (rC r r9a r9c)), (56, partyE pa), (142, [vi 0, vi 0, vi 0, vi 0])] (XN (SEQ (XG (UU 3 [(8, .v (.agg (rC r r9a r9c).toArray)), (9, .v (.agg (partyE pa).toArray)), (10, I now)] (OPC (CX 11 (fun w hw => piPartyOk_c w r r9a r9c (hr9.fr hw.fr) pa now) ?_)))))))
 rintro ⟨⟩
 refine UU 2 [(13, B (!(partyOk r pa now)))] (SP 13 (!(partyOk r pa now)) (aT notT fun h1 bh1 => ?_) (aT notF fun h1 bh1 => ?_))
 · refine UU 4 [(17, B true)] (XN (XI (XG (UU 3 [(7, B false)] (XF rfl (.tuple #[.agg #[vi 0, vi 0, vi 0, vi 0], .bool false]) () [] (by simp_all [RV, entryOf, entryOk_iff]))))))
 refine UU 4 [(17, B (pa.state != 1))] (NI (pa.state != 1) (aT bne_iff_ne.1 fun h2 bh2 => ?_) (aT bneF fun h2 bh2 => ?_))
 · refine XG (UU 3 [(7, B false)] (XF rfl (.tuple #[.agg #[vi 0, vi 0, vi 0, vi 0], .bool false]) () [] (by simp_all [RV, entryOf, entryOk_iff])))
 refine XK (SEQ (EXPORT (fun bs hbs => ?_)))
 obtain ⟨b3, b4, b5, rfl⟩ := len3 hbs
 refine REGIONH KR 13 rfl [ptC b3 26 (rC r r9a r9c), ptC b4 56 (paC pa)] (HLOADE (i := 0) (js := [0, 0]) 26 (.tmp 3) 19 26 KR (NL rfl) (some ⟨b3, 0, none⟩) 0 0 ((rC r r9a r9c)) (.agg (rC r r9a r9c).toArray) KR (fun w hw => ptC_elem (hw.own 0 rfl)) KR KR rfl (HLOADE (i := 1) (js := [0, 0]) 56 (.tmp 4) 20 56 KR (NL rfl) (some ⟨b4, 0, none⟩) 0 0 (partyE pa) (.agg (partyE pa).toArray) KR (fun w hw => ptC_elem (hw.own 1 rfl)) KR KR rfl (HP [0, 0] 2 [(21, I now)] (HP [0, 0] 4 [(23, .e (some ⟨b4, 0, none⟩) 0 6)] (HLOADE (i := 5) (js := [0, 0]) 3 (.tmp 23) 24 3 KR (NL rfl) (some ⟨b4, 0, none⟩) 0 6 (partyE pa) (vi pa.turn) KR (fun w hw => ptC_elem (hw.own 1 rfl)) KR KR rfl (HP [0, 0] 6 [(25, .e (some ⟨b4, 0, none⟩) 0 0)] (HLOADE (i := 7) (js := [0, 0]) 3 (.tmp 25) 26 3 KR (NL rfl) (some ⟨b4, 0, none⟩) 0 0 (partyE pa) (vi pa.id) KR (fun w hw => ptC_elem (hw.own 1 rfl)) KR KR rfl ?_)))))))
 refine HP [0, 0] 8 [(27, .e (some ⟨b4, 0, none⟩) 0 3)] (HLOADE (i := 9) (js := [0, 0]) 3 (.tmp 27) 28 3 KR (NL rfl) (some ⟨b4, 0, none⟩) 0 3 (partyE pa) (vi pa.size) KR (fun w hw => ptC_elem (hw.own 1 rfl)) KR KR rfl (HALL [3] KR (by decide) (CX 22 (fun w hw => piLevelOf_c w r r9a r9c (hr9.fr hw.fr) pa now) ?_)))
 rintro ⟨⟩
 refine HW [0, 0] (HP [0, 0] 10 [(29, .v (.agg #[vi (levelOf r pa now), vi pa.turn, vi pa.id, vi pa.size]))] (HALL [11] KR (by decide) (STOREC 142 (.tmp 6) (.tmp 29) 0 KR 2 _ b5 0 142 [vi 0, vi 0, vi 0, vi 0] [vi (levelOf r pa now), vi pa.turn, vi pa.id, vi pa.size] rfl (.agg #[vi (levelOf r pa now), vi pa.turn, vi pa.id, vi pa.size]) KR KR KR (HW [0, 0] (HP [0, 0] 12 [(7, B true)] (HDz (IMPORT (L0 := [(26, (rC r r9a r9c)), (56, partyE pa), (142, [vi (levelOf r pa now), vi pa.turn, vi pa.id, vi pa.size])]) (L1 := []) [b3, b4, b5] rfl [0, 0, 0] _ rfl [(6, .p 2 0), (7, B true)] KR KR (NEXT (RF rfl (.tuple #[.agg #[vi (levelOf r pa now), vi pa.turn, vi pa.id, vi pa.size], .bool true]) () [] ?_ ?_)))))))))
 · simp_all [RV, entryOf, entryOk_iff]
 rfl

theorem piCountIn_c (W : World) (list : List Party) (list_a : Option Addr) (list_c : Nat) (hlist : Rd partyL W list_a list) (cabin : Int) : Spec Tryz.prog W [] 186 #[.slice list_a list.length list_c, vi cabin] (RV (vi (countGo list cabin 0))) := by
 refine ENTER0 (N := 22) (vs := [.slice list_a list.length list_c, vi cabin]) Tryz.func186 rfl rfl (NL rfl) ?_
 have hlist_len := hlist.len
 refine XG (UU 1 [] (NR (UU 1 [(5, I 0)] (XN (SEQ (XG (UU 3 [(8, .v (.slice list_a list.length list_c)), (9, I (list.length : Int)), (10, I 0)] (XN (BLOCK (LOOP (ι := Nat × (List Party) × Int) (fun j => [(1, I cabin), (5, I j.2.2), (8, .v (.slice list_a list.length list_c)), (9, I (list.length : Int)), (10, I (j.1 : Int))]) (fun j => []) (fun j => []) (fun j => j.1 + j.2.1.length = list.length ∧ list.drop j.1 = j.2.1 ∧ countGo list cabin 0 = countGo j.2.1 cabin j.2.2) (fun j => j.2.1.length) (0, list, 0) [1, 5, 8, 9, 10] ⟨by simp, rfl, rfl⟩ KR rfl rfl ?_))))))))))
 rintro ⟨k, ys, n⟩ ⟨hk, hd, hv0⟩
 try dsimp only at hk hd hv0
 refine XG (UU 1 [(11, B (decide ((k : Int) < (list.length : Int))))] (XN (SEQ (IFK (decide ((k : Int) < (list.length : Int))) (dT fun h1 bh1 => ?_) (dF fun h1 bh1 => ?_)))))
 ·
  obtain ⟨y2, ys3, rfl, hx_y2, hd_y2, hl_y2⟩ := drop_cons hd hk LO
  refine XK (SEQ (BLOCK (XG (OPC (IX 28 (.tmp 8) (.tmp 10) 12 0 list_a list.length list_c .i64 (k : Int) 56 10 (Rd.some hlist LO) LO LO (OPC (LE 56 (.tmp 12) 13 56 list_a (k * 10) 0 (partyE y2) (.agg (partyE y2).toArray) (fun w hw => (hlist.fr hw.fr).flat hx_y2) (UL 2 [(7, .p 0 0)] [(56, partyE y2)] (NR (UU 4 [(17, B (y2.cabin == cabin))] (NI (y2.cabin == cabin) (aT eq_of_beq fun h4 bh4 => ?_) (aT ne_of_beq_false fun h4 bh4 => ?_))))))))))))
  · refine RG (UU 3 [(5, I (wr (n + 1)))] (ENDOPS (OUTN (NEXT (RG (UU 1 [(20, I (wr ((k : Int) + 1)))] (CS 20 (vi (wr ((k : Int) + 1))) (vi ((k + 1 : Nat) : Int)) VC (UU 1 [(10, I ((k + 1 : Nat) : Int))] (ENDOPS (BK (k + 1, ys3, wr (n + 1)) [1, 5, 8, 9, 10] 0 [] ⟨hl_y2, hd_y2, (hv0.trans (by simp_all [countGo]))⟩ (by simp)))))))))))
  refine SKIP (OUTN (NEXT (RG (UU 1 [(20, I (wr ((k : Int) + 1)))] (CS 20 (vi (wr ((k : Int) + 1))) (vi ((k + 1 : Nat) : Int)) VC (UU 1 [(10, I ((k + 1 : Nat) : Int))] (ENDOPS (BK (k + 1, ys3, n) [1, 5, 8, 9, 10] 0 [] ⟨hl_y2, hd_y2, (hv0.trans (by simp_all [countGo]))⟩ (by simp)))))))))
 obtain rfl := drop_nil hk LO
 refine EXIT (PASS trivial (PASS trivial (OUT (NEXT (XG (UU 2 [(4, I n)] (XF rfl (vi n) () [] (by simp_all [RV, countGo]))))))))

theorem piHeldIn_c (W : World) (list : List Party) (list_a : Option Addr) (list_c : Nat) (hlist : Rd partyL W list_a list) (cabin : Int) : Spec Tryz.prog W [] 260 #[.slice list_a list.length list_c, vi cabin] (RV (vi (heldGo list cabin 0))) := by
 refine ENTER0 (N := 34) (vs := [.slice list_a list.length list_c, vi cabin]) Tryz.func260 rfl rfl (NL rfl) ?_
 have hlist_len := hlist.len
 refine XG (UU 1 [] (NR (UU 1 [(5, I 0)] (XN (SEQ (XG (UU 3 [(8, .v (.slice list_a list.length list_c)), (9, I (list.length : Int)), (10, I 0)] (XN (BLOCK (LOOP (ι := Nat × (List Party) × Int) (fun j => [(1, I cabin), (5, I j.2.2), (8, .v (.slice list_a list.length list_c)), (9, I (list.length : Int)), (10, I (j.1 : Int))]) (fun j => []) (fun j => []) (fun j => j.1 + j.2.1.length = list.length ∧ list.drop j.1 = j.2.1 ∧ heldGo list cabin 0 = heldGo j.2.1 cabin j.2.2) (fun j => j.2.1.length) (0, list, 0) [1, 5, 8, 9, 10] ⟨by simp, rfl, rfl⟩ KR rfl rfl ?_))))))))))
 rintro ⟨k, ys, n⟩ ⟨hk, hd, hv0⟩
 try dsimp only at hk hd hv0
 refine XG (UU 1 [(11, B (decide ((k : Int) < (list.length : Int))))] (XN (SEQ (IFK (decide ((k : Int) < (list.length : Int))) (dT fun h1 bh1 => ?_) (dF fun h1 bh1 => ?_)))))
 ·
  obtain ⟨y2, ys3, rfl, hx_y2, hd_y2, hl_y2⟩ := drop_cons hd hk LO
  refine XK (SEQ (BLOCK (XG (OPC (IX 28 (.tmp 8) (.tmp 10) 12 0 list_a list.length list_c .i64 (k : Int) 56 10 (Rd.some hlist LO) LO LO (OPC (LE 56 (.tmp 12) 13 56 list_a (k * 10) 0 (partyE y2) (.agg (partyE y2).toArray) (fun w hw => (hlist.fr hw.fr).flat hx_y2) (UL 2 [(7, .p 0 0)] [(56, partyE y2)] (NR (UU 4 [(17, B (y2.state == 2))] (SP 17 (y2.state == 2) (aT eq_of_beq fun h4 bh4 => ?_) (aT ne_of_beq_false fun h4 bh4 => ?_))))))))))))
  ·
   refine UU 6 [(23, B (y2.cabin == cabin))] (SP 23 (y2.cabin == cabin) (aT eq_of_beq fun h5 bh5 => ?_) (aT ne_of_beq_false fun h5 bh5 => ?_))
   ·
    refine UU 2 [(25, I y2.size)] (OPC (CX 26 (fun w hw => within_c w y2.size 1 6) ?_))
    rintro ⟨⟩
    refine UU 1 [(27, B (inB y2.size 1 6))] (NI (inB y2.size 1 6) (fun bh6 => ?_) (fun bh6 => ?_))
    ·
     have h6 := bh6
     refine RG (UU 5 [(5, I (wr (n + y2.size)))] (ENDOPS (OUTN (NEXT (RG (UU 1 [(32, I (wr ((k : Int) + 1)))] (CS 32 (vi (wr ((k : Int) + 1))) (vi ((k + 1 : Nat) : Int)) VC (UU 1 [(10, I ((k + 1 : Nat) : Int))] (ENDOPS (BK (k + 1, ys3, wr (n + y2.size)) [1, 5, 8, 9, 10] 0 [] ⟨hl_y2, hd_y2, (hv0.trans (by simp_all [heldGo]))⟩ (by simp)))))))))))
    have h6 := bh6
    refine SKIP (OUTN (NEXT (RG (UU 1 [(32, I (wr ((k : Int) + 1)))] (CS 32 (vi (wr ((k : Int) + 1))) (vi ((k + 1 : Nat) : Int)) VC (UU 1 [(10, I ((k + 1 : Nat) : Int))] (ENDOPS (BK (k + 1, ys3, n) [1, 5, 8, 9, 10] 0 [] ⟨hl_y2, hd_y2, (hv0.trans (by simp_all [heldGo]))⟩ (by simp)))))))))
   refine UU 4 [(27, B false)] (XN (IFF KR (SKIP (OUTN (NEXT (RG (UU 1 [(32, I (wr ((k : Int) + 1)))] (CS 32 (vi (wr ((k : Int) + 1))) (vi ((k + 1 : Nat) : Int)) VC (UU 1 [(10, I ((k + 1 : Nat) : Int))] (ENDOPS (BK (k + 1, ys3, n) [1, 5, 8, 9, 10] 0 [] ⟨hl_y2, hd_y2, (hv0.trans (by simp_all [heldGo]))⟩ (by simp))))))))))))
  refine UU 10 [(27, B false)] (XN (IFF KR (SKIP (OUTN (NEXT (RG (UU 1 [(32, I (wr ((k : Int) + 1)))] (CS 32 (vi (wr ((k : Int) + 1))) (vi ((k + 1 : Nat) : Int)) VC (UU 1 [(10, I ((k + 1 : Nat) : Int))] (ENDOPS (BK (k + 1, ys3, n) [1, 5, 8, 9, 10] 0 [] ⟨hl_y2, hd_y2, (hv0.trans (by simp_all [heldGo]))⟩ (by simp))))))))))))
 obtain rfl := drop_nil hk LO
 refine EXIT (PASS trivial (PASS trivial (OUT (NEXT (XG (UU 2 [(4, I n)] (XF rfl (vi n) () [] (by simp_all [RV, heldGo]))))))))

theorem piTiedIn_c (W : World) (list : List Party) (list_a : Option Addr) (list_c : Nat) (hlist : Rd partyL W list_a list) (cabin : Int) : Spec Tryz.prog W [] 261 #[.slice list_a list.length list_c, vi cabin] (RV (vi (tiedGo list cabin 0))) := by
 refine ENTER0 (N := 29) (vs := [.slice list_a list.length list_c, vi cabin]) Tryz.func261 rfl rfl (NL rfl) ?_
 have hlist_len := hlist.len
 refine XG (UU 1 [] (NR (UU 1 [(5, I 0)] (XN (SEQ (XG (UU 3 [(8, .v (.slice list_a list.length list_c)), (9, I (list.length : Int)), (10, I 0)] (XN (BLOCK (LOOP (ι := Nat × (List Party) × Int) (fun j => [(1, I cabin), (5, I j.2.2), (8, .v (.slice list_a list.length list_c)), (9, I (list.length : Int)), (10, I (j.1 : Int))]) (fun j => []) (fun j => []) (fun j => j.1 + j.2.1.length = list.length ∧ list.drop j.1 = j.2.1 ∧ tiedGo list cabin 0 = tiedGo j.2.1 cabin j.2.2) (fun j => j.2.1.length) (0, list, 0) [1, 5, 8, 9, 10] ⟨by simp, rfl, rfl⟩ KR rfl rfl ?_))))))))))
 rintro ⟨k, ys, n⟩ ⟨hk, hd, hv0⟩
 try dsimp only at hk hd hv0
 refine XG (UU 1 [(11, B (decide ((k : Int) < (list.length : Int))))] (XN (SEQ (IFK (decide ((k : Int) < (list.length : Int))) (dT fun h1 bh1 => ?_) (dF fun h1 bh1 => ?_)))))
 ·
  obtain ⟨y2, ys3, rfl, hx_y2, hd_y2, hl_y2⟩ := drop_cons hd hk LO
  refine XK (SEQ (BLOCK (XG (OPC (IX 28 (.tmp 8) (.tmp 10) 12 0 list_a list.length list_c .i64 (k : Int) 56 10 (Rd.some hlist LO) LO LO (OPC (LE 56 (.tmp 12) 13 56 list_a (k * 10) 0 (partyE y2) (.agg (partyE y2).toArray) (fun w hw => (hlist.fr hw.fr).flat hx_y2) (UL 2 [(7, .p 0 0)] [(56, partyE y2)] (NR (UU 5 [(18, B (y2.from' == cabin))] (SP 18 (y2.from' == cabin) (aT eq_of_beq fun h4 bh4 => ?_) (aT ne_of_beq_false fun h4 bh4 => ?_))))))))))))
  ·
   refine UU 2 [(20, I y2.size)] (OPC (CX 21 (fun w hw => within_c w y2.size 1 6) ?_))
   rintro ⟨⟩
   refine UU 1 [(22, B (inB y2.size 1 6))] (NI (inB y2.size 1 6) (fun bh5 => ?_) (fun bh5 => ?_))
   ·
    have h5 := bh5
    refine RG (UU 5 [(5, I (wr (n + y2.size)))] (ENDOPS (OUTN (NEXT (RG (UU 1 [(27, I (wr ((k : Int) + 1)))] (CS 27 (vi (wr ((k : Int) + 1))) (vi ((k + 1 : Nat) : Int)) VC (UU 1 [(10, I ((k + 1 : Nat) : Int))] (ENDOPS (BK (k + 1, ys3, wr (n + y2.size)) [1, 5, 8, 9, 10] 0 [] ⟨hl_y2, hd_y2, (hv0.trans (by simp_all [tiedGo]))⟩ (by simp)))))))))))
   have h5 := bh5
   refine SKIP (OUTN (NEXT (RG (UU 1 [(27, I (wr ((k : Int) + 1)))] (CS 27 (vi (wr ((k : Int) + 1))) (vi ((k + 1 : Nat) : Int)) VC (UU 1 [(10, I ((k + 1 : Nat) : Int))] (ENDOPS (BK (k + 1, ys3, n) [1, 5, 8, 9, 10] 0 [] ⟨hl_y2, hd_y2, (hv0.trans (by simp_all [tiedGo]))⟩ (by simp)))))))))
  refine UU 4 [(22, B false)] (XN (IFF KR (SKIP (OUTN (NEXT (RG (UU 1 [(27, I (wr ((k : Int) + 1)))] (CS 27 (vi (wr ((k : Int) + 1))) (vi ((k + 1 : Nat) : Int)) VC (UU 1 [(10, I ((k + 1 : Nat) : Int))] (ENDOPS (BK (k + 1, ys3, n) [1, 5, 8, 9, 10] 0 [] ⟨hl_y2, hd_y2, (hv0.trans (by simp_all [tiedGo]))⟩ (by simp))))))))))))
 obtain rfl := drop_nil hk LO
 refine EXIT (PASS trivial (PASS trivial (OUT (NEXT (XG (UU 2 [(4, I n)] (XF rfl (vi n) () [] (by simp_all [RV, tiedGo]))))))))

end SX
end Go.Proofs.YthnbaikmbgaddaaGreat
