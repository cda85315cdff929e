/- Walks, printed by program. -/
import Derived.Test.YtcbpmjfjdjpalaaGreatMdlu
import Derived.Test.YtcbpmjfjdjpalaaGreatE5
namespace Go.Proofs.YtcbpmjfjdjpalaaGreat
namespace SX
open Go Go.RowKit
set_option linter.unusedVariables false
set_option linter.unusedSimpArgs false
set_option maxRecDepth 10000
set_option maxHeartbeats 400000
theorem big_c (W : World) (code : List UInt8) (code_a : Option Addr) (code_c : Nat) (hcode : Rd byteL W code_a code) : Spec Tryz.prog W [] 5 #[.slice code_a code.length code_c] (RV (.bool (decide ((code.length : Int) > 1048576)))) := by
 refine ENTER0 (N := 6) (vs := [.slice code_a code.length code_c]) Tryz.func5 rfl rfl (NL rfl) ?_
 have hcode_len := hcode.len
 refine SEQ (RG (UU 1 [] (NR (UU 4 [(2, B (decide ((code.length : Int) > 1048576)))] (ENDOPS (NEXT (RF rfl (.bool (decide ((code.length : Int) > 1048576))) () [] ?_ ?_)))))))
 · rfl
 · rfl

theorem l25Tail_c (W : World) (code : List UInt8) (code_a : Option Addr) (code_c : Nat) (hcode : Rd byteL W code_a code) (hcap : code.length ≤ code_c) : Spec Tryz.prog W [] 19 #[.slice code_a code.length code_c] (⟨{q : HH × List UInt8 // ∀ w, Rd byteL w code_a code → Rd byteL w q.1.1 q.2}, fun q => .slice q.1.1.1 q.1.2.length q.1.1.2, fun q => []⟩) := by
 refine ENTER0 (N := 9) (vs := [.slice code_a code.length code_c]) Tryz.func19 rfl rfl (NL rfl) ?_
 have hcode_len := hcode.len
 refine SEQ (RG (UU 1 [] (ENDOPS (NEXT (SEQ (SEQ (RG (UU 3 [(5, B ((code.length : Int) == 0))] (NI ((code.length : Int) == 0) (fun bh1 => ?_) (fun bh1 => ?_))))))))))
 ·
  have h1 := eq_of_beq bh1
  refine SEQ (RG (UU 2 [(2, .v (.slice code_a code.length code_c))] (ENDOPS (NEXT (RF rfl (.slice code_a code.length code_c) ⟨((code_a, code_c), code), fun w h => h⟩ [] ?_ ?_)))))
  · rfl
  · rfl
 ·
  have h1 := ne_of_beq_false bh1
  refine SKIP (NEXT (SEQ (RG (UU 1 [(7, .v (.slice code_a code.length code_c))] (OPC (CUTL 22 (.tmp 7) (.const (vi 1)) 8 22 (by kernel_rfl) (NL rfl) code_a code.length code_c .i64 1 (by kernel_rfl) (by kernel_rfl) 5 byteL code (by kernel_rfl) (by kernel_rfl) (by omega) (by first | omega | (simp only [List.length_append, List.length_cons, List.length_nil, List.length_take, List.length_drop] at *; omega)) rfl (by omega) (fun a2 hsh3 => ?_)))))))
  have hsh3 : ∀ w, Rd byteL w code_a code → Rd byteL w a2 (code.drop 1) := hsh3
  have hln4 : (code.drop 1).length = code.length - 1 := by first | (simp; done) | (simp; omega)
  refine CS 8 (.slice a2 (code.length - 1) (code_c - 1)) (.slice a2 ((code.drop 1).length) (code_c - 1)) (by rw [hln4]) (UU 1 [(2, .v (.slice a2 ((code.drop 1).length) (code_c - 1)))] (ENDOPS (NEXT (RF rfl (.slice a2 ((code.drop 1).length) (code_c - 1)) ⟨((a2, code_c - 1), code.drop 1), fun w h => hsh3 w h⟩ [] ?_ ?_))))
  · rfl
  · rfl

theorem drawPassed_c (W : World) (code : List UInt8) (code_a : Option Addr) (code_c : Nat) (hcode : Rd byteL W code_a code) (hcap : code.length ≤ code_c) : Spec Tryz.prog W [] 6 #[.slice code_a code.length code_c] (⟨{q : (HH × HH × HH × HH × HH) × (House × Int × Int) // (fun x : House × Int × Int => HouseSz x.1) q.2}, fun q => .tuple #[.agg (hC q.1.2.1 q.1.1.1.1 q.1.1.1.2 q.1.1.2.1.1 q.1.1.2.1.2 q.1.1.2.2.1.1 q.1.1.2.2.1.2 q.1.1.2.2.2.1.1 q.1.1.2.2.2.1.2 q.1.1.2.2.2.2.1 q.1.1.2.2.2.2.2).toArray, vi q.1.2.2.1, vi q.1.2.2.2], fun q => [slA 3 intL (.slice q.1.1.1.1 q.1.2.1.rules.seats.length q.1.1.1.2) q.1.2.1.rules.seats, slA 46 partyL (.slice q.1.1.2.1.1 q.1.2.1.parties.length q.1.1.2.1.2) q.1.2.1.parties, slA 60 (cabinLx 63 99 114) (.slice q.1.1.2.2.1.1 q.1.2.1.cabins.length q.1.1.2.2.1.2) q.1.2.1.cabins, slA 3 intL (.slice q.1.1.2.2.2.1.1 q.1.2.1.todo.length q.1.1.2.2.2.1.2) q.1.2.1.todo, slA 3 intL (.slice q.1.1.2.2.2.2.1 q.1.2.1.jobs.length q.1.1.2.2.2.2.2) q.1.2.1.jobs]⟩) := by
 refine ENTER0 (N := 48) (vs := [.slice code_a code.length code_c]) Tryz.func6 rfl rfl (NL rfl) ?_
 have hcode_len := hcode.len
 refine SEQ (RG (UL 3 [(2, .p 0 0)] [(30, hZ)] (NR (UU 1 [(10, .v (.slice code_a code.length code_c))] (OPC (CA 17 #[.slice code_a code.length code_c] (some 11) (⟨{q : (HH × HH × HH × HH × HH) × (House × Int) // (fun x : House × Int => HouseSz x.1) q.2}, fun q => .tuple #[.agg (hC q.1.2.1 q.1.1.1.1 q.1.1.1.2 q.1.1.2.1.1 q.1.1.2.1.2 q.1.1.2.2.1.1 q.1.1.2.2.1.2 q.1.1.2.2.2.1.1 q.1.1.2.2.2.1.2 q.1.1.2.2.2.2.1 q.1.1.2.2.2.2.2).toArray, vi q.1.2.2], fun q => [slA 3 intL (.slice q.1.1.1.1 q.1.2.1.rules.seats.length q.1.1.1.2) q.1.2.1.rules.seats, slA 46 partyL (.slice q.1.1.2.1.1 q.1.2.1.parties.length q.1.1.2.1.2) q.1.2.1.parties, slA 60 (cabinLx 63 99 114) (.slice q.1.1.2.2.1.1 q.1.2.1.cabins.length q.1.1.2.2.1.2) q.1.2.1.cabins, slA 3 intL (.slice q.1.1.2.2.2.1.1 q.1.2.1.todo.length q.1.1.2.2.2.1.2) q.1.2.1.todo, slA 3 intL (.slice q.1.1.2.2.2.2.1 q.1.2.1.jobs.length q.1.1.2.2.2.2.2) q.1.2.1.jobs]⟩) (fun w hw => l15Args_c w code code_a code_c (hcode.fr hw.fr)) ?_))))))
 rintro ⟨⟨⟨⟨a3, c4⟩, ⟨a5, c6⟩, ⟨a7, c8⟩, ⟨a9, c10⟩, ⟨a11, c12⟩⟩, m1⟩, hm2⟩
 try dsimp only at hm2
 refine UL 6 [(5, .p 1 0), (6, I m1.2)] [(30, hZ), (30, (hC m1.1 a3 c4 a5 c6 a7 c8 a9 c10 a11 c12))] (NR (UU 1 [(14, .v (.slice code_a code.length code_c))] (OPC (CA 19 #[.slice code_a code.length code_c] (some 15) (⟨{q : HH × List UInt8 // ∀ w, Rd byteL w code_a code → Rd byteL w q.1.1 q.2}, fun q => .slice q.1.1.1 q.1.2.length q.1.1.2, fun q => []⟩) (fun w hw => l25Tail_c w code code_a code_c (hcode.fr hw.fr) (by assumption)) ?_))))
 rintro ⟨⟨⟨a13, c14⟩, xs15⟩, hp16⟩
 have hrd17 := hp16 _ hcode
 refine OPC (CA 18 #[.slice a13 xs15.length c14] (some 16) (⟨Value, fun p => p, fun p => [curA (⟨W.heap.size, 79, a13, xs15.length, c14⟩) p]⟩) (fun w hw => l1New_c w xs15 a13 c14 (hrd17.fr hw.fr) W.heap.size hw.fr.size) ?_)
 rintro p18
 refine UU 1 [(7, .v (p18))] (ENDOPS (NEXT (SEQ (SEQ (RG (UU 5 [(21, B (decide ((m1.1.parties.length : Int) > 0)))] (SP 21 (decide ((m1.1.parties.length : Int) > 0)) (fun bh19 => ?_) (fun bh19 => ?_))))))))
 ·
  have h19 := of_decide_eq_true bh19
  refine UU 1 [(22, .v (p18))] (OPC (CALL 20 #[p18, vi 6] (some 23) (by kernel_rfl) [5] [curA (⟨W.heap.size, 79, a13, xs15.length, c14⟩) p18] _ rfl (⟨{x : Bool // True}, fun q => .bool q.1, fun q => [curA (⟨W.heap.size, 79, a13, xs15.length, c14⟩) p18]⟩) (fun w hw => l1Once_c w (⟨W.heap.size, 79, a13, xs15.length, c14⟩) (CodeOk.of hrd17 hw.fr) p18 6) (NO rfl) ?_))
  rintro ⟨m20, hm21⟩
  try dsimp only at hm21
  refine UU 2 [(25, B (!m20))] (NI (!m20) (fun bh22 => ?_) (fun bh22 => ?_))
  ·
   have h22 := notT bh22
   refine SEQ (FACT (a5.isSome = true) (fun w hw => SlO.isS (hw.own 1 rfl) (by first | omega | (dsimp only; omega))) (fun hs23 => (EXPORT (fun bs hbs => ?_))))
   obtain ⟨b24, b25, rfl⟩ := len2 hbs
   refine REGIONH (by kernel_rfl) 11 rfl [ptC b24 30 hZ, ptC b25 30 (hC m1.1 a3 c4 a5 c6 a7 c8 a9 c10 a11 c12), slA 3 intL (.slice a3 m1.1.rules.seats.length c4) m1.1.rules.seats, slA 46 partyL (.slice a5 m1.1.parties.length c6) m1.1.parties, slA 60 (cabinLx 63 99 114) (.slice a7 m1.1.cabins.length c8) m1.1.cabins, slA 3 intL (.slice a9 m1.1.todo.length c10) m1.1.todo, slA 3 intL (.slice a11 m1.1.jobs.length c12) m1.1.jobs] (HP [0, 0, 0, 0, 0, 0, 0] 0 [(26, .e (some ⟨b25, 0, none⟩) 0 11)] (HLOADE (i := 1) (js := [0, 0, 0, 0, 0, 0, 0])  27 (.tmp 26) 27 27 (by kernel_rfl) (NL rfl) (some ⟨b25, 0, none⟩) 0 11 ((hC m1.1 a3 c4 a5 c6 a7 c8 a9 c10 a11 c12)) (.slice a5 m1.1.parties.length c6) (by kernel_rfl) (fun w hw => ptC_elem (hw.own 1 rfl)) (by kernel_rfl) (by kernel_rfl) rfl ?_))
   refine HP [0, 0, 0, 0, 0, 0, 0] 2 [(28, .v (p18))] (HP [0, 0, 0, 0, 0, 0, 0] 3 [(29, .e (some ⟨b25, 0, none⟩) 0 11)] (HLOADE (i := 4) (js := [0, 0, 0, 0, 0, 0, 0])  27 (.tmp 29) 30 27 (by kernel_rfl) (NL rfl) (some ⟨b25, 0, none⟩) 0 11 ((hC m1.1 a3 c4 a5 c6 a7 c8 a9 c10 a11 c12)) (.slice a5 m1.1.parties.length c6) (by kernel_rfl) (fun w hw => ptC_elem (hw.own 1 rfl)) (by kernel_rfl) (by kernel_rfl) rfl (HP [0, 0, 0, 0, 0, 0, 0] 5 [(31, I (m1.1.parties.length : Int))] (HALL [6, 9] (by kernel_rfl) (by decide) ⟨?_, ?_⟩))))
   ·
    refine CALL 21 #[p18, vi (m1.1.parties.length : Int)] (some 32) (by kernel_rfl) [7] [curA (⟨W.heap.size, 79, a13, xs15.length, c14⟩) p18] _ rfl (⟨{x : Int // 0 ≤ x ∧ ((m1.1.parties.length : Int) ≤ 0 → x = 0) ∧ (0 < (m1.1.parties.length : Int) → x < (m1.1.parties.length : Int))}, fun q => vi q.1, fun q => [curA (⟨W.heap.size, 79, a13, xs15.length, c14⟩) p18]⟩) (fun w hw => l1Below_c w (⟨W.heap.size, 79, a13, xs15.length, c14⟩) (CodeOk.of hrd17 hw.fr) p18 (m1.1.parties.length : Int)) (NO rfl) ?_
    rintro ⟨m26, hm27⟩
    try dsimp only at hm27
    refine HKEEP (js := [0, 0, 0, 0, 0, 0, 0]) rfl ?_
    obtain ⟨x28, hx29⟩ : ∃ y, m1.1.parties[m26.toNat]? = some y := ⟨_, List.getElem?_eq_getElem (by omega)⟩
    refine HINDEX (i := 7) (js := [0, 0, 0, 0, 0, 0, 0])  27 (.tmp 27) (.tmp 32) 33 0 (by kernel_rfl) (NL rfl) a5 m1.1.parties.length c6 .i64 m26 46 10 (by kernel_rfl) (by kernel_rfl) (by kernel_rfl) (by kernel_rfl) hs23 (by omega) (by omega) (by kernel_rfl) rfl (HLOADE (i := 8) (js := [0, 0, 0, 0, 0, 0, 0])  46 (.tmp 33) 34 46 (by kernel_rfl) (NL rfl) a5 (m26.toNat * 10) 0 (partyE x28) (.agg (partyE x28).toArray) (by kernel_rfl) (fun w hw => (hw.rdO 3 rfl).flat hx29) (by kernel_rfl) (by kernel_rfl) rfl (HALL [9] (by kernel_rfl) (by decide) (UO [(8, .p 0 0)] [(46, [vi 0, vi 0, vi 0, vi 0, vi 0, vi 0, vi 0, vi 0, vi 0, vi 0])] (HKEEP (js := [0, 0, 0, 0, 0, 0, 0]) rfl (HALL [10] (by kernel_rfl) (by decide) (UO [] [(46, partyE x28)] (HKEEP (js := [0, 0, 0, 0, 0, 0, 0]) rfl (HEND (by kernel_rfl) (IMPORT (L0 := [(30, hZ), (30, (hC m1.1 a3 c4 a5 c6 a7 c8 a9 c10 a11 c12))]) (L1 := [(46, partyE x28)]) [b24, b25] rfl [0, 0] _ rfl [(2, .p 0 0), (5, .p 1 0), (6, I m1.2), (7, .v (p18)), (8, .p 2 0)] (by kernel_rfl) (by kernel_rfl) (NEXT (SEQ (SEQ (RG ?_)))))))))))))
    refine UU 1 [(35, .v (p18))] (OPC (CALL 20 #[p18, vi 4] (some 36) (by kernel_rfl) [5] [curA (⟨W.heap.size, 79, a13, xs15.length, c14⟩) p18] _ rfl (⟨{x : Bool // True}, fun q => .bool q.1, fun q => [curA (⟨W.heap.size, 79, a13, xs15.length, c14⟩) p18]⟩) (fun w hw => l1Once_c w (⟨W.heap.size, 79, a13, xs15.length, c14⟩) (CodeOk.of hrd17 hw.fr) p18 4) (NO rfl) ?_))
    rintro ⟨m30, hm31⟩
    try dsimp only at hm31
    refine UU 1 [(37, B (!m30))] (NI (!m30) (fun bh32 => ?_) (fun bh32 => ?_))
    ·
     have h32 := notT bh32
     refine RG (UU 3 [(6, I x28.cabin)] (ENDOPS (NEXT (SEQ (EXPORT (fun bs hbs => ?_))))))
     obtain ⟨b33, b34, b35, rfl⟩ := len3 hbs
     refine REGIONH (by kernel_rfl) 7 rfl [ptC b34 30 (hC m1.1 a3 c4 a5 c6 a7 c8 a9 c10 a11 c12), ptC b35 46 [vi x28.id, vi x28.cabin, vi x28.from', vi x28.size, vi x28.tier, vi x28.since, vi x28.turn, vi x28.state, vi x28.until', vi x28.asked], slA 3 intL (.slice a3 m1.1.rules.seats.length c4) m1.1.rules.seats, slA 46 partyL (.slice a5 m1.1.parties.length c6) m1.1.parties, slA 60 (cabinLx 63 99 114) (.slice a7 m1.1.cabins.length c8) m1.1.cabins, slA 3 intL (.slice a9 m1.1.todo.length c10) m1.1.todo, slA 3 intL (.slice a11 m1.1.jobs.length c12) m1.1.jobs, curA (⟨W.heap.size, 79, a13, xs15.length, c14⟩) p18] (HLOADE (i := 0) (js := [1, 1, 1, 1, 1, 1, 1, 1])  30 (.tmp 5) 40 30 (by kernel_rfl) (NL rfl) (some ⟨b34, 0, none⟩) 0 0 ((hC m1.1 a3 c4 a5 c6 a7 c8 a9 c10 a11 c12)) (.agg (hC m1.1 a3 c4 a5 c6 a7 c8 a9 c10 a11 c12).toArray) (by kernel_rfl) (fun w hw => ptC_elem (hw.own 0 rfl)) (by kernel_rfl) (by kernel_rfl) rfl ?_)
     refine HP [1, 1, 1, 1, 1, 1, 1, 1] 1 [(41, I x28.cabin)] (HP [1, 1, 1, 1, 1, 1, 1, 1] 2 [(42, .e (some ⟨b35, 0, none⟩) 0 0)] (HLOADE (i := 3) (js := [1, 1, 1, 1, 1, 1, 1, 1])  3 (.tmp 42) 43 3 (by kernel_rfl) (NL rfl) (some ⟨b35, 0, none⟩) 0 0 (partyE x28) (vi x28.id) (by kernel_rfl) (fun w hw => ptC_elem (hw.own 1 rfl)) (by kernel_rfl) (by kernel_rfl) rfl (HALL [4] (by kernel_rfl) (by decide) (STOREC 30 (.tmp 2) (.tmp 40) 0 (by kernel_rfl) 0 _ b33 0 30 hZ (hC m1.1 a3 c4 a5 c6 a7 c8 a9 c10 a11 c12) rfl (.agg (hC m1.1 a3 c4 a5 c6 a7 c8 a9 c10 a11 c12).toArray) (by kernel_rfl) (by kernel_rfl) (by kernel_rfl) (HKEEP (js := [0, 0, 0, 0, 0, 0, 0, 0]) rfl (HP [0, 0, 0, 0, 0, 0, 0, 0] 5 [(3, I x28.cabin)] ?_))))))
     refine HP [0, 0, 0, 0, 0, 0, 0, 0] 6 [(4, I x28.id)] (HEND (by kernel_rfl) (IMPORT (L0 := [(30, (hC m1.1 a3 c4 a5 c6 a7 c8 a9 c10 a11 c12)), (30, (hC m1.1 a3 c4 a5 c6 a7 c8 a9 c10 a11 c12)), (46, partyE x28)]) (L1 := []) [b33, b34, b35] rfl [8, 0, 0] _ rfl [(2, .p 0 0), (3, I x28.cabin), (4, I x28.id)] (by kernel_rfl) (by kernel_rfl) (NEXT (RF rfl (.tuple #[.agg (hC m1.1 a3 c4 a5 c6 a7 c8 a9 c10 a11 c12).toArray, vi x28.cabin, vi x28.id]) ⟨(((a3, c4), (a5, c6), (a7, c8), (a9, c10), (a11, c12)), (m1.1, x28.cabin, x28.id)), (by assumption)⟩ [0, 0, 0, 0, 0] ?_ ?_))))
     · rfl
     · rfl
    ·
     have h32 := notF bh32
     refine SKIP (NEXT (SEQ (EXPORT (fun bs hbs => ?_))))
     obtain ⟨b36, b37, b38, rfl⟩ := len3 hbs
     refine REGIONH (by kernel_rfl) 7 rfl [ptC b37 30 (hC m1.1 a3 c4 a5 c6 a7 c8 a9 c10 a11 c12), ptC b38 46 [vi x28.id, vi x28.cabin, vi x28.from', vi x28.size, vi x28.tier, vi x28.since, vi x28.turn, vi x28.state, vi x28.until', vi x28.asked], slA 3 intL (.slice a3 m1.1.rules.seats.length c4) m1.1.rules.seats, slA 46 partyL (.slice a5 m1.1.parties.length c6) m1.1.parties, slA 60 (cabinLx 63 99 114) (.slice a7 m1.1.cabins.length c8) m1.1.cabins, slA 3 intL (.slice a9 m1.1.todo.length c10) m1.1.todo, slA 3 intL (.slice a11 m1.1.jobs.length c12) m1.1.jobs, curA (⟨W.heap.size, 79, a13, xs15.length, c14⟩) p18] (HLOADE (i := 0) (js := [1, 1, 1, 1, 1, 1, 1, 1])  30 (.tmp 5) 40 30 (by kernel_rfl) (NL rfl) (some ⟨b37, 0, none⟩) 0 0 ((hC m1.1 a3 c4 a5 c6 a7 c8 a9 c10 a11 c12)) (.agg (hC m1.1 a3 c4 a5 c6 a7 c8 a9 c10 a11 c12).toArray) (by kernel_rfl) (fun w hw => ptC_elem (hw.own 0 rfl)) (by kernel_rfl) (by kernel_rfl) rfl ?_)
     refine HP [1, 1, 1, 1, 1, 1, 1, 1] 1 [(41, I m1.2)] (HP [1, 1, 1, 1, 1, 1, 1, 1] 2 [(42, .e (some ⟨b38, 0, none⟩) 0 0)] (HLOADE (i := 3) (js := [1, 1, 1, 1, 1, 1, 1, 1])  3 (.tmp 42) 43 3 (by kernel_rfl) (NL rfl) (some ⟨b38, 0, none⟩) 0 0 (partyE x28) (vi x28.id) (by kernel_rfl) (fun w hw => ptC_elem (hw.own 1 rfl)) (by kernel_rfl) (by kernel_rfl) rfl (HALL [4] (by kernel_rfl) (by decide) (STOREC 30 (.tmp 2) (.tmp 40) 0 (by kernel_rfl) 0 _ b36 0 30 hZ (hC m1.1 a3 c4 a5 c6 a7 c8 a9 c10 a11 c12) rfl (.agg (hC m1.1 a3 c4 a5 c6 a7 c8 a9 c10 a11 c12).toArray) (by kernel_rfl) (by kernel_rfl) (by kernel_rfl) (HKEEP (js := [0, 0, 0, 0, 0, 0, 0, 0]) rfl (HP [0, 0, 0, 0, 0, 0, 0, 0] 5 [(3, I m1.2)] (HP [0, 0, 0, 0, 0, 0, 0, 0] 6 [(4, I x28.id)] ?_)))))))
     refine HEND (by kernel_rfl) (IMPORT (L0 := [(30, (hC m1.1 a3 c4 a5 c6 a7 c8 a9 c10 a11 c12)), (30, (hC m1.1 a3 c4 a5 c6 a7 c8 a9 c10 a11 c12)), (46, partyE x28)]) (L1 := []) [b36, b37, b38] rfl [8, 0, 0] _ rfl [(2, .p 0 0), (3, I m1.2), (4, I x28.id)] (by kernel_rfl) (by kernel_rfl) (NEXT (RF rfl (.tuple #[.agg (hC m1.1 a3 c4 a5 c6 a7 c8 a9 c10 a11 c12).toArray, vi m1.2, vi x28.id]) ⟨(((a3, c4), (a5, c6), (a7, c8), (a9, c10), (a11, c12)), (m1.1, m1.2, x28.id)), (by assumption)⟩ [0, 0, 0, 0, 0] ?_ ?_)))
     · rfl
     · rfl
   ·
    refine UO [(8, .p 0 0)] [(46, [vi 0, vi 0, vi 0, vi 0, vi 0, vi 0, vi 0, vi 0, vi 0, vi 0])] (HKEEP (js := [0, 0, 0, 0, 0, 0, 0]) rfl (HALL [6] (by kernel_rfl) (by decide) (CALL 21 #[p18, vi (m1.1.parties.length : Int)] (some 32) (by kernel_rfl) [7] [curA (⟨W.heap.size, 79, a13, xs15.length, c14⟩) p18] _ rfl (⟨{x : Int // 0 ≤ x ∧ ((m1.1.parties.length : Int) ≤ 0 → x = 0) ∧ (0 < (m1.1.parties.length : Int) → x < (m1.1.parties.length : Int))}, fun q => vi q.1, fun q => [curA (⟨W.heap.size, 79, a13, xs15.length, c14⟩) p18]⟩) (fun w hw => l1Below_c w (⟨W.heap.size, 79, a13, xs15.length, c14⟩) (CodeOk.of hrd17 hw.fr) p18 (m1.1.parties.length : Int)) (NO rfl) ?_)))
    rintro ⟨m39, hm40⟩
    try dsimp only at hm40
    refine HKEEP (js := [0, 0, 0, 0, 0, 0, 0]) rfl ?_
    obtain ⟨x41, hx42⟩ : ∃ y, m1.1.parties[m39.toNat]? = some y := ⟨_, List.getElem?_eq_getElem (by omega)⟩
    refine HINDEX (i := 7) (js := [0, 0, 0, 0, 0, 0, 0])  27 (.tmp 27) (.tmp 32) 33 0 (by kernel_rfl) (NL rfl) a5 m1.1.parties.length c6 .i64 m39 46 10 (by kernel_rfl) (by kernel_rfl) (by kernel_rfl) (by kernel_rfl) hs23 (by omega) (by omega) (by kernel_rfl) rfl (HLOADE (i := 8) (js := [0, 0, 0, 0, 0, 0, 0])  46 (.tmp 33) 34 46 (by kernel_rfl) (NL rfl) a5 (m39.toNat * 10) 0 (partyE x41) (.agg (partyE x41).toArray) (by kernel_rfl) (fun w hw => (hw.rdO 3 rfl).flat hx42) (by kernel_rfl) (by kernel_rfl) rfl (HALL [10] (by kernel_rfl) (by decide) (UO [] [(46, partyE x41)] (HKEEP (js := [0, 0, 0, 0, 0, 0, 0]) rfl (HEND (by kernel_rfl) (IMPORT (L0 := [(30, hZ), (30, (hC m1.1 a3 c4 a5 c6 a7 c8 a9 c10 a11 c12))]) (L1 := [(46, partyE x41)]) [b24, b25] rfl [0, 0] _ rfl [(2, .p 0 0), (5, .p 1 0), (6, I m1.2), (7, .v (p18)), (8, .p 2 0)] (by kernel_rfl) (by kernel_rfl) (NEXT (SEQ (SEQ (RG (UU 1 [(35, .v (p18))] (OPC (CALL 20 #[p18, vi 4] (some 36) (by kernel_rfl) [5] [curA (⟨W.heap.size, 79, a13, xs15.length, c14⟩) p18] _ rfl (⟨{x : Bool // True}, fun q => .bool q.1, fun q => [curA (⟨W.heap.size, 79, a13, xs15.length, c14⟩) p18]⟩) (fun w hw => l1Once_c w (⟨W.heap.size, 79, a13, xs15.length, c14⟩) (CodeOk.of hrd17 hw.fr) p18 4) (NO rfl) ?_)))))))))))))
    rintro ⟨m43, hm44⟩
    try dsimp only at hm44
    refine UU 1 [(37, B (!m43))] (NI (!m43) (fun bh45 => ?_) (fun bh45 => ?_))
    ·
     have h45 := notT bh45
     refine RG (UU 3 [(6, I x41.cabin)] (ENDOPS (NEXT (SEQ (EXPORT (fun bs hbs => ?_))))))
     obtain ⟨b46, b47, b48, rfl⟩ := len3 hbs
     refine REGIONH (by kernel_rfl) 7 rfl [ptC b47 30 (hC m1.1 a3 c4 a5 c6 a7 c8 a9 c10 a11 c12), ptC b48 46 [vi x41.id, vi x41.cabin, vi x41.from', vi x41.size, vi x41.tier, vi x41.since, vi x41.turn, vi x41.state, vi x41.until', vi x41.asked], slA 3 intL (.slice a3 m1.1.rules.seats.length c4) m1.1.rules.seats, slA 46 partyL (.slice a5 m1.1.parties.length c6) m1.1.parties, slA 60 (cabinLx 63 99 114) (.slice a7 m1.1.cabins.length c8) m1.1.cabins, slA 3 intL (.slice a9 m1.1.todo.length c10) m1.1.todo, slA 3 intL (.slice a11 m1.1.jobs.length c12) m1.1.jobs, curA (⟨W.heap.size, 79, a13, xs15.length, c14⟩) p18] (HLOADE (i := 0) (js := [1, 1, 1, 1, 1, 1, 1, 1])  30 (.tmp 5) 40 30 (by kernel_rfl) (NL rfl) (some ⟨b47, 0, none⟩) 0 0 ((hC m1.1 a3 c4 a5 c6 a7 c8 a9 c10 a11 c12)) (.agg (hC m1.1 a3 c4 a5 c6 a7 c8 a9 c10 a11 c12).toArray) (by kernel_rfl) (fun w hw => ptC_elem (hw.own 0 rfl)) (by kernel_rfl) (by kernel_rfl) rfl ?_)
     refine HP [1, 1, 1, 1, 1, 1, 1, 1] 1 [(41, I x41.cabin)] (HP [1, 1, 1, 1, 1, 1, 1, 1] 2 [(42, .e (some ⟨b48, 0, none⟩) 0 0)] (HLOADE (i := 3) (js := [1, 1, 1, 1, 1, 1, 1, 1])  3 (.tmp 42) 43 3 (by kernel_rfl) (NL rfl) (some ⟨b48, 0, none⟩) 0 0 (partyE x41) (vi x41.id) (by kernel_rfl) (fun w hw => ptC_elem (hw.own 1 rfl)) (by kernel_rfl) (by kernel_rfl) rfl (HALL [4] (by kernel_rfl) (by decide) (STOREC 30 (.tmp 2) (.tmp 40) 0 (by kernel_rfl) 0 _ b46 0 30 hZ (hC m1.1 a3 c4 a5 c6 a7 c8 a9 c10 a11 c12) rfl (.agg (hC m1.1 a3 c4 a5 c6 a7 c8 a9 c10 a11 c12).toArray) (by kernel_rfl) (by kernel_rfl) (by kernel_rfl) (HKEEP (js := [0, 0, 0, 0, 0, 0, 0, 0]) rfl (HP [0, 0, 0, 0, 0, 0, 0, 0] 5 [(3, I x41.cabin)] ?_))))))
     refine HP [0, 0, 0, 0, 0, 0, 0, 0] 6 [(4, I x41.id)] (HEND (by kernel_rfl) (IMPORT (L0 := [(30, (hC m1.1 a3 c4 a5 c6 a7 c8 a9 c10 a11 c12)), (30, (hC m1.1 a3 c4 a5 c6 a7 c8 a9 c10 a11 c12)), (46, partyE x41)]) (L1 := []) [b46, b47, b48] rfl [8, 0, 0] _ rfl [(2, .p 0 0), (3, I x41.cabin), (4, I x41.id)] (by kernel_rfl) (by kernel_rfl) (NEXT (RF rfl (.tuple #[.agg (hC m1.1 a3 c4 a5 c6 a7 c8 a9 c10 a11 c12).toArray, vi x41.cabin, vi x41.id]) ⟨(((a3, c4), (a5, c6), (a7, c8), (a9, c10), (a11, c12)), (m1.1, x41.cabin, x41.id)), (by assumption)⟩ [0, 0, 0, 0, 0] ?_ ?_))))
     · rfl
     · rfl
    ·
     have h45 := notF bh45
     refine SKIP (NEXT (SEQ (EXPORT (fun bs hbs => ?_))))
     obtain ⟨b49, b50, b51, rfl⟩ := len3 hbs
     refine REGIONH (by kernel_rfl) 7 rfl [ptC b50 30 (hC m1.1 a3 c4 a5 c6 a7 c8 a9 c10 a11 c12), ptC b51 46 [vi x41.id, vi x41.cabin, vi x41.from', vi x41.size, vi x41.tier, vi x41.since, vi x41.turn, vi x41.state, vi x41.until', vi x41.asked], slA 3 intL (.slice a3 m1.1.rules.seats.length c4) m1.1.rules.seats, slA 46 partyL (.slice a5 m1.1.parties.length c6) m1.1.parties, slA 60 (cabinLx 63 99 114) (.slice a7 m1.1.cabins.length c8) m1.1.cabins, slA 3 intL (.slice a9 m1.1.todo.length c10) m1.1.todo, slA 3 intL (.slice a11 m1.1.jobs.length c12) m1.1.jobs, curA (⟨W.heap.size, 79, a13, xs15.length, c14⟩) p18] (HLOADE (i := 0) (js := [1, 1, 1, 1, 1, 1, 1, 1])  30 (.tmp 5) 40 30 (by kernel_rfl) (NL rfl) (some ⟨b50, 0, none⟩) 0 0 ((hC m1.1 a3 c4 a5 c6 a7 c8 a9 c10 a11 c12)) (.agg (hC m1.1 a3 c4 a5 c6 a7 c8 a9 c10 a11 c12).toArray) (by kernel_rfl) (fun w hw => ptC_elem (hw.own 0 rfl)) (by kernel_rfl) (by kernel_rfl) rfl ?_)
     refine HP [1, 1, 1, 1, 1, 1, 1, 1] 1 [(41, I m1.2)] (HP [1, 1, 1, 1, 1, 1, 1, 1] 2 [(42, .e (some ⟨b51, 0, none⟩) 0 0)] (HLOADE (i := 3) (js := [1, 1, 1, 1, 1, 1, 1, 1])  3 (.tmp 42) 43 3 (by kernel_rfl) (NL rfl) (some ⟨b51, 0, none⟩) 0 0 (partyE x41) (vi x41.id) (by kernel_rfl) (fun w hw => ptC_elem (hw.own 1 rfl)) (by kernel_rfl) (by kernel_rfl) rfl (HALL [4] (by kernel_rfl) (by decide) (STOREC 30 (.tmp 2) (.tmp 40) 0 (by kernel_rfl) 0 _ b49 0 30 hZ (hC m1.1 a3 c4 a5 c6 a7 c8 a9 c10 a11 c12) rfl (.agg (hC m1.1 a3 c4 a5 c6 a7 c8 a9 c10 a11 c12).toArray) (by kernel_rfl) (by kernel_rfl) (by kernel_rfl) (HKEEP (js := [0, 0, 0, 0, 0, 0, 0, 0]) rfl (HP [0, 0, 0, 0, 0, 0, 0, 0] 5 [(3, I m1.2)] (HP [0, 0, 0, 0, 0, 0, 0, 0] 6 [(4, I x41.id)] ?_)))))))
     refine HEND (by kernel_rfl) (IMPORT (L0 := [(30, (hC m1.1 a3 c4 a5 c6 a7 c8 a9 c10 a11 c12)), (30, (hC m1.1 a3 c4 a5 c6 a7 c8 a9 c10 a11 c12)), (46, partyE x41)]) (L1 := []) [b49, b50, b51] rfl [8, 0, 0] _ rfl [(2, .p 0 0), (3, I m1.2), (4, I x41.id)] (by kernel_rfl) (by kernel_rfl) (NEXT (RF rfl (.tuple #[.agg (hC m1.1 a3 c4 a5 c6 a7 c8 a9 c10 a11 c12).toArray, vi m1.2, vi x41.id]) ⟨(((a3, c4), (a5, c6), (a7, c8), (a9, c10), (a11, c12)), (m1.1, m1.2, x41.id)), (by assumption)⟩ [0, 0, 0, 0, 0] ?_ ?_)))
     · rfl
     · rfl
  ·
   have h22 := notF bh22
   refine SKIP (NEXT (SEQ (EXPORT (fun bs hbs => ?_))))
   obtain ⟨b52, b53, rfl⟩ := len2 hbs
   refine REGIONH (by kernel_rfl) 7 rfl [ptC b53 30 (hC m1.1 a3 c4 a5 c6 a7 c8 a9 c10 a11 c12), slA 3 intL (.slice a3 m1.1.rules.seats.length c4) m1.1.rules.seats, slA 46 partyL (.slice a5 m1.1.parties.length c6) m1.1.parties, slA 60 (cabinLx 63 99 114) (.slice a7 m1.1.cabins.length c8) m1.1.cabins, slA 3 intL (.slice a9 m1.1.todo.length c10) m1.1.todo, slA 3 intL (.slice a11 m1.1.jobs.length c12) m1.1.jobs] (HLOADE (i := 0) (js := [1, 1, 1, 1, 1, 1])  30 (.tmp 5) 44 30 (by kernel_rfl) (NL rfl) (some ⟨b53, 0, none⟩) 0 0 ((hC m1.1 a3 c4 a5 c6 a7 c8 a9 c10 a11 c12)) (.agg (hC m1.1 a3 c4 a5 c6 a7 c8 a9 c10 a11 c12).toArray) (by kernel_rfl) (fun w hw => ptC_elem (hw.own 0 rfl)) (by kernel_rfl) (by kernel_rfl) rfl ?_)
   refine HP [1, 1, 1, 1, 1, 1] 1 [(45, I m1.2)] (HP [1, 1, 1, 1, 1, 1] 2 [(46, .v (p18))] (HALL [3] (by kernel_rfl) (by decide) (CALL 21 #[p18, vi 14] (some 47) (by kernel_rfl) [7] [curA (⟨W.heap.size, 79, a13, xs15.length, c14⟩) p18] _ rfl (⟨{x : Int // 0 ≤ x ∧ (14 ≤ 0 → x = 0) ∧ (0 < 14 → x < 14)}, fun q => vi q.1, fun q => [curA (⟨W.heap.size, 79, a13, xs15.length, c14⟩) p18]⟩) (fun w hw => l1Below_c w (⟨W.heap.size, 79, a13, xs15.length, c14⟩) (CodeOk.of hrd17 hw.fr) p18 14) (NO rfl) ?_)))
   rintro ⟨m54, hm55⟩
   try dsimp only at hm55
   refine HKEEP (js := [1, 1, 1, 1, 1, 1]) rfl (HALL [4] (by kernel_rfl) (by decide) (STOREC 30 (.tmp 2) (.tmp 44) 0 (by kernel_rfl) 0 _ b52 0 30 hZ (hC m1.1 a3 c4 a5 c6 a7 c8 a9 c10 a11 c12) rfl (.agg (hC m1.1 a3 c4 a5 c6 a7 c8 a9 c10 a11 c12).toArray) (by kernel_rfl) (by kernel_rfl) (by kernel_rfl) (HKEEP (js := [0, 0, 0, 0, 0, 0]) rfl (HP [0, 0, 0, 0, 0, 0] 5 [(3, I m1.2)] (HP [0, 0, 0, 0, 0, 0] 6 [(4, I m54)] (HEND (by kernel_rfl) (IMPORT (L0 := [(30, (hC m1.1 a3 c4 a5 c6 a7 c8 a9 c10 a11 c12)), (30, (hC m1.1 a3 c4 a5 c6 a7 c8 a9 c10 a11 c12))]) (L1 := []) [b52, b53] rfl [7, 0] _ rfl [(2, .p 0 0), (3, I m1.2), (4, I m54)] (by kernel_rfl) (by kernel_rfl) (NEXT (RET ?_)))))))))
   refine FIN (.tuple #[.agg (hC m1.1 a3 c4 a5 c6 a7 c8 a9 c10 a11 c12).toArray, vi m1.2, vi m54]) (by kernel_rfl) ⟨(((a3, c4), (a5, c6), (a7, c8), (a9, c10), (a11, c12)), (m1.1, m1.2, m54)), (by assumption)⟩ ?_ [0, 0, 0, 0, 0] ?_
   · rfl
   · rfl
 ·
  have h19 := of_decide_eq_false bh19
  refine UU 4 [(25, B false)] (ENDOPS (NEXT (IFF (by kernel_rfl) (SKIP (NEXT (SEQ (EXPORT (fun bs hbs => ?_))))))))
  obtain ⟨b56, b57, rfl⟩ := len2 hbs
  refine REGIONH (by kernel_rfl) 7 rfl [ptC b57 30 (hC m1.1 a3 c4 a5 c6 a7 c8 a9 c10 a11 c12), slA 3 intL (.slice a3 m1.1.rules.seats.length c4) m1.1.rules.seats, slA 46 partyL (.slice a5 m1.1.parties.length c6) m1.1.parties, slA 60 (cabinLx 63 99 114) (.slice a7 m1.1.cabins.length c8) m1.1.cabins, slA 3 intL (.slice a9 m1.1.todo.length c10) m1.1.todo, slA 3 intL (.slice a11 m1.1.jobs.length c12) m1.1.jobs] (HLOADE (i := 0) (js := [1, 1, 1, 1, 1, 1])  30 (.tmp 5) 44 30 (by kernel_rfl) (NL rfl) (some ⟨b57, 0, none⟩) 0 0 ((hC m1.1 a3 c4 a5 c6 a7 c8 a9 c10 a11 c12)) (.agg (hC m1.1 a3 c4 a5 c6 a7 c8 a9 c10 a11 c12).toArray) (by kernel_rfl) (fun w hw => ptC_elem (hw.own 0 rfl)) (by kernel_rfl) (by kernel_rfl) rfl ?_)
  refine HP [1, 1, 1, 1, 1, 1] 1 [(45, I m1.2)] (HP [1, 1, 1, 1, 1, 1] 2 [(46, .v (p18))] (HALL [3] (by kernel_rfl) (by decide) (CALL 21 #[p18, vi 14] (some 47) (by kernel_rfl) [7] [curA (⟨W.heap.size, 79, a13, xs15.length, c14⟩) p18] _ rfl (⟨{x : Int // 0 ≤ x ∧ (14 ≤ 0 → x = 0) ∧ (0 < 14 → x < 14)}, fun q => vi q.1, fun q => [curA (⟨W.heap.size, 79, a13, xs15.length, c14⟩) p18]⟩) (fun w hw => l1Below_c w (⟨W.heap.size, 79, a13, xs15.length, c14⟩) (CodeOk.of hrd17 hw.fr) p18 14) (NO rfl) ?_)))
  rintro ⟨m58, hm59⟩
  try dsimp only at hm59
  refine HKEEP (js := [1, 1, 1, 1, 1, 1]) rfl (HALL [4] (by kernel_rfl) (by decide) (STOREC 30 (.tmp 2) (.tmp 44) 0 (by kernel_rfl) 0 _ b56 0 30 hZ (hC m1.1 a3 c4 a5 c6 a7 c8 a9 c10 a11 c12) rfl (.agg (hC m1.1 a3 c4 a5 c6 a7 c8 a9 c10 a11 c12).toArray) (by kernel_rfl) (by kernel_rfl) (by kernel_rfl) (HKEEP (js := [0, 0, 0, 0, 0, 0]) rfl (HP [0, 0, 0, 0, 0, 0] 5 [(3, I m1.2)] (HP [0, 0, 0, 0, 0, 0] 6 [(4, I m58)] (HEND (by kernel_rfl) (IMPORT (L0 := [(30, (hC m1.1 a3 c4 a5 c6 a7 c8 a9 c10 a11 c12)), (30, (hC m1.1 a3 c4 a5 c6 a7 c8 a9 c10 a11 c12))]) (L1 := []) [b56, b57] rfl [7, 0] _ rfl [(2, .p 0 0), (3, I m1.2), (4, I m58)] (by kernel_rfl) (by kernel_rfl) (NEXT (RET ?_)))))))))
  refine FIN (.tuple #[.agg (hC m1.1 a3 c4 a5 c6 a7 c8 a9 c10 a11 c12).toArray, vi m1.2, vi m58]) (by kernel_rfl) ⟨(((a3, c4), (a5, c6), (a7, c8), (a9, c10), (a11, c12)), (m1.1, m1.2, m58)), (by assumption)⟩ ?_ [0, 0, 0, 0, 0] ?_
  · rfl
  · rfl

end SX
end Go.Proofs.YtcbpmjfjdjpalaaGreat
