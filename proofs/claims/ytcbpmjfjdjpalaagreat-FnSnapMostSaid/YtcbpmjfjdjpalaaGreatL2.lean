/- Texts of this claim, put together by program. -/
import Derived.Test.YtcbpmjfjdjpalaaGreatMdlx
import Derived.Test.YtcbpmjfjdjpalaaGreatE5
import Derived.Test.YtcbpmjfjdjpalaaGreatU3
import Derived.Test.YtcbpmjfjdjpalaaGreatU4
/- Walks, printed by program. -/
namespace Go.Proofs.YtcbpmjfjdjpalaaGreat
namespace SX
open Go Go.RowKit
set_option linter.unusedVariables false
set_option linter.unusedSimpArgs false
set_option maxRecDepth 10000
set_option maxHeartbeats 400000
theorem big_c (W : World) (code : List UInt8) (code_a : Option Addr) (code_c : Nat) (hcode : Rd byteL W code_a code) : Spec Tryz.prog W [] 5 #[.slice code_a code.length code_c] (RV (.bool (decide ((code.length : Int) > 1048576)))) := by
 refine ENTER0 (N := 6) (vs := [.slice code_a code.length code_c]) Tryz.func5 rfl rfl (NL rfl) ?_
 have hcode_len := hcode.len
 refine SEQ (RG (UU 1 [] (NR (UU 4 [(2, B (decide ((code.length : Int) > 1048576)))] (ENDOPS (NEXT (RF rfl (.bool (decide ((code.length : Int) > 1048576))) () [] ?_ ?_)))))))
 · rfl
 · rfl

theorem l19Seq_c (W : World) (d : Cd) (hd : CodeOk W d) (p : Value) : Spec Tryz.prog W [curA d p] 34 #[p] (⟨{x : Int // True}, fun q => vi q.1, fun q => [curA (d) p]⟩) := by
 refine ENTERC (N := 6) (vs := [p]) Tryz.func34 rfl rfl (NL rfl) (fun S0 hS hP => ?_)
 refine SEQ (RG (UU 1 [] (NR (UU 1 [(3, .v (p))] (OPC (BUILDS 24 9 #[(0, .const (vi 0)), (1, .const (vi 0)), (2, .const (vi 1)), (3, .const (vi 7)), (4, .const (vi 300)), (5, .const (vi 1000000)), (6, .const (vi 1000001)), (7, .const (vi (-1))), (8, .const (vi 9223372036854775807))] 4 24 (by kernel_rfl) (NL rfl) 3 [vi 0, vi 0, vi 1, vi 7, vi 300, vi 1000000, vi 1000001, vi (-1), vi 9223372036854775807] (by kernel_rfl) intL [0, 0, 1, 7, 300, 1000000, 1000001, -1, 9223372036854775807] rfl (by simp only [maxLen]; omega) [] [] _ rfl (flatRep rfl) (fun a1 ha2 => (FACT (9 = ([0, 0, 1, 7, 300, 1000000, 1000001, -1, 9223372036854775807]).length) (fun w hw => (SlO.lenE (hw.own 1 rfl)).1) (fun hln3 => (OPC (CALL 52 #[p, .slice a1 9 9] (some 5) (by kernel_rfl) [0] [curA (d) p] _ rfl (⟨{x : Int // True}, fun q => vi q.1, fun q => [curA (d) p]⟩) (fun w hw => (congrArg (fun z : Nat => Spec Tryz.prog w [curA (d) p] 52 #[p, .slice a1 z 9] (⟨{x : Int // True}, fun q => vi q.1, fun q => [curA (d) p]⟩)) hln3).mpr (l1PickInt_c w (d) (hd.fr hw.fr hS) p ([0, 0, 1, 7, 300, 1000000, 1000001, -1, 9223372036854775807]) a1 9 (RdP.own hw 1 0 rfl rfl (by decide)) (by first | omega | decide | simp))) (NO rfl) ?_)))))))))))
 rintro ⟨m4, hm5⟩
 try dsimp only at hm5
 refine UU 1 [(2, I m4)] (ENDOPS (NEXT (RF rfl (vi m4) ⟨m4, trivial⟩ [1] ?_ ?_)))
 · rfl
 · rfl

theorem drawSnapText_c (W : World) (code : List UInt8) (code_a : Option Addr) (code_c : Nat) (hcode : Rd byteL W code_a code) : Spec Tryz.prog W [] 11 #[.slice code_a code.length code_c] (⟨{q : (HH × HH × HH × HH × HH) × (House × Int) // (fun x : House × Int => HouseSz x.1) q.2}, fun q => .tuple #[.agg (hC q.1.2.1 q.1.1.1.1 q.1.1.1.2 q.1.1.2.1.1 q.1.1.2.1.2 q.1.1.2.2.1.1 q.1.1.2.2.1.2 q.1.1.2.2.2.1.1 q.1.1.2.2.2.1.2 q.1.1.2.2.2.2.1 q.1.1.2.2.2.2.2).toArray, vi q.1.2.2], fun q => [slA 3 intL (.slice q.1.1.1.1 q.1.2.1.rules.seats.length q.1.1.1.2) q.1.2.1.rules.seats, slA 46 partyL (.slice q.1.1.2.1.1 q.1.2.1.parties.length q.1.1.2.1.2) q.1.2.1.parties, slA 60 (cabinLx 63 99 114) (.slice q.1.1.2.2.1.1 q.1.2.1.cabins.length q.1.1.2.2.1.2) q.1.2.1.cabins, slA 3 intL (.slice q.1.1.2.2.2.1.1 q.1.2.1.todo.length q.1.1.2.2.2.1.2) q.1.2.1.todo, slA 3 intL (.slice q.1.1.2.2.2.2.1 q.1.2.1.jobs.length q.1.1.2.2.2.2.2) q.1.2.1.jobs]⟩) := by
 refine ENTER0 (N := 17) (vs := [.slice code_a code.length code_c]) Tryz.func11 rfl rfl (NL rfl) ?_
 have hcode_len := hcode.len
 refine SEQ (RG (UL 2 [(2, .p 0 0)] [(30, hZ)] (NR (UU 1 [(6, .v (.slice code_a code.length code_c))] (OPC (CA 18 #[.slice code_a code.length code_c] (some 7) (⟨Value, fun p => p, fun p => [curA (⟨W.heap.size, 79, code_a, code.length, code_c⟩) p]⟩) (fun w hw => l1New_c w code code_a code_c (hcode.fr hw.fr) W.heap.size hw.fr.size) ?_))))))
 rintro p1
 refine UU 1 [(4, .v (p1))] (NR (UU 1 [(8, .v (p1))] (OPC (CALL 32 #[p1] (some 9) (by kernel_rfl) [0] [curA (⟨W.heap.size, 79, code_a, code.length, code_c⟩) p1] _ rfl (⟨{q : (HH × HH × HH × HH × HH) × House // (fun x : House => 1 ≤ x.cabins.length ∧ x.cabins.length ≤ 4 ∧ x.rules.seats.length ≤ 4 ∧ x.parties.length ≤ 9 ∧ x.todo.length ≤ 4 ∧ x.jobs.length ≤ 3 ∧ ∀ c ∈ x.cabins, CabinSz c) q.2}, fun q => .agg (hC q.1.2 q.1.1.1.1 q.1.1.1.2 q.1.1.2.1.1 q.1.1.2.1.2 q.1.1.2.2.1.1 q.1.1.2.2.1.2 q.1.1.2.2.2.1.1 q.1.1.2.2.2.1.2 q.1.1.2.2.2.2.1 q.1.1.2.2.2.2.2).toArray, fun q => [slA 3 intL (.slice q.1.1.1.1 q.1.2.rules.seats.length q.1.1.1.2) q.1.2.rules.seats, slA 46 partyL (.slice q.1.1.2.1.1 q.1.2.parties.length q.1.1.2.1.2) q.1.2.parties, slA 60 (cabinLx 63 99 114) (.slice q.1.1.2.2.1.1 q.1.2.cabins.length q.1.1.2.2.1.2) q.1.2.cabins, slA 3 intL (.slice q.1.1.2.2.2.1.1 q.1.2.todo.length q.1.1.2.2.2.1.2) q.1.2.todo, slA 3 intL (.slice q.1.1.2.2.2.2.1 q.1.2.jobs.length q.1.1.2.2.2.2.2) q.1.2.jobs, curA (⟨W.heap.size, 79, code_a, code.length, code_c⟩) p1]⟩) (fun w hw => l11Right_c w (⟨W.heap.size, 79, code_a, code.length, code_c⟩) (CodeOk.of hcode hw.fr) p1) (NO rfl) ?_))))
 rintro ⟨⟨⟨⟨a4, c5⟩, ⟨a6, c7⟩, ⟨a8, c9⟩, ⟨a10, c11⟩, ⟨a12, c13⟩⟩, m2⟩, hm3⟩
 try dsimp only at hm3
 have hcz9 := hm3.2.2.2.2.2.2; have hwc9 : wr ((m2.cabins.length : Int) - 1) = (m2.cabins.length : Int) - 1 := wr_of (by omega) (by omega)
 refine UL 2 [(5, .p 1 0)] [(30, hZ), (30, (hC m2 a4 c5 a6 c7 a8 c9 a10 c11 a12 c13))] (ENDOPS (NEXT (SEQ (SEQ (RG (UU 1 [(10, .v (p1))] (OPC (CALL 20 #[p1, vi 8] (some 11) (by kernel_rfl) [5] [curA (⟨W.heap.size, 79, code_a, code.length, code_c⟩) p1] _ rfl (⟨{x : Bool // True}, fun q => .bool q.1, fun q => [curA (⟨W.heap.size, 79, code_a, code.length, code_c⟩) p1]⟩) (fun w hw => l1Once_c w (⟨W.heap.size, 79, code_a, code.length, code_c⟩) (CodeOk.of hcode hw.fr) p1 8) (NO rfl) ?_))))))))
 rintro ⟨m14, hm15⟩
 try dsimp only at hm15
 refine NI (m14) (fun bh16 => ?_) (fun bh16 => ?_)
 ·
  have h16 := bh16
  refine RG (UU 1 [(12, .v (p1))] (OPC (CALL 33 #[p1] (some 13) (by kernel_rfl) [5] [curA (⟨W.heap.size, 79, code_a, code.length, code_c⟩) p1] _ rfl (⟨{q : (HH × HH × HH × HH × HH) × House // (fun x : House => HouseSz x) q.2}, fun q => .agg (hC q.1.2 q.1.1.1.1 q.1.1.1.2 q.1.1.2.1.1 q.1.1.2.1.2 q.1.1.2.2.1.1 q.1.1.2.2.1.2 q.1.1.2.2.2.1.1 q.1.1.2.2.2.1.2 q.1.1.2.2.2.2.1 q.1.1.2.2.2.2.2).toArray, fun q => [slA 3 intL (.slice q.1.1.1.1 q.1.2.rules.seats.length q.1.1.1.2) q.1.2.rules.seats, slA 46 partyL (.slice q.1.1.2.1.1 q.1.2.parties.length q.1.1.2.1.2) q.1.2.parties, slA 60 (cabinLx 63 99 114) (.slice q.1.1.2.2.1.1 q.1.2.cabins.length q.1.1.2.2.1.2) q.1.2.cabins, slA 3 intL (.slice q.1.1.2.2.2.1.1 q.1.2.todo.length q.1.1.2.2.2.1.2) q.1.2.todo, slA 3 intL (.slice q.1.1.2.2.2.2.1 q.1.2.jobs.length q.1.1.2.2.2.2.2) q.1.2.jobs, curA (⟨W.heap.size, 79, code_a, code.length, code_c⟩) p1]⟩) (fun w hw => l11Draw_c w (⟨W.heap.size, 79, code_a, code.length, code_c⟩) (CodeOk.of hcode hw.fr) p1) (NO rfl) ?_)))
  rintro ⟨⟨⟨⟨a19, c20⟩, ⟨a21, c22⟩, ⟨a23, c24⟩, ⟨a25, c26⟩, ⟨a27, c28⟩⟩, m17⟩, hm18⟩
  try dsimp only at hm18
  refine UL 1 [] [(30, hZ), (30, (hC m17 a19 c20 a21 c22 a23 c24 a25 c26 a27 c28))] (ENDOPS (NEXT (SEQ (EXPORT (fun bs hbs => ?_)))))
  obtain ⟨b29, b30, rfl⟩ := len2 hbs
  refine REGIONH (by kernel_rfl) 5 rfl [ptC b30 30 (hC m17 a19 c20 a21 c22 a23 c24 a25 c26 a27 c28), slA 3 intL (.slice a4 m2.rules.seats.length c5) m2.rules.seats, slA 46 partyL (.slice a6 m2.parties.length c7) m2.parties, slA 60 (cabinLx 63 99 114) (.slice a8 m2.cabins.length c9) m2.cabins, slA 3 intL (.slice a10 m2.todo.length c11) m2.todo, slA 3 intL (.slice a12 m2.jobs.length c13) m2.jobs, slA 3 intL (.slice a19 m17.rules.seats.length c20) m17.rules.seats, slA 46 partyL (.slice a21 m17.parties.length c22) m17.parties, slA 60 (cabinLx 63 99 114) (.slice a23 m17.cabins.length c24) m17.cabins, slA 3 intL (.slice a25 m17.todo.length c26) m17.todo, slA 3 intL (.slice a27 m17.jobs.length c28) m17.jobs] (HLOADE (i := 0) (js := [1, 1, 1, 1, 1, 1, 1, 1, 1, 1, 1])  30 (.tmp 5) 14 30 (by kernel_rfl) (NL rfl) (some ⟨b30, 0, none⟩) 0 0 ((hC m17 a19 c20 a21 c22 a23 c24 a25 c26 a27 c28)) (.agg (hC m17 a19 c20 a21 c22 a23 c24 a25 c26 a27 c28).toArray) (by kernel_rfl) (fun w hw => ptC_elem (hw.own 0 rfl)) (by kernel_rfl) (by kernel_rfl) rfl ?_)
  refine HP [1, 1, 1, 1, 1, 1, 1, 1, 1, 1, 1] 1 [(15, .v (p1))] (HALL [2] (by kernel_rfl) (by decide) (CALL 34 #[p1] (some 16) (by kernel_rfl) [12] [curA (⟨W.heap.size, 79, code_a, code.length, code_c⟩) p1] _ rfl (⟨{x : Int // True}, fun q => vi q.1, fun q => [curA (⟨W.heap.size, 79, code_a, code.length, code_c⟩) p1]⟩) (fun w hw => l19Seq_c w (⟨W.heap.size, 79, code_a, code.length, code_c⟩) (CodeOk.of hcode hw.fr) p1) (NO rfl) ?_))
  rintro ⟨m31, hm32⟩
  try dsimp only at hm32
  refine HKEEP (js := [1, 1, 1, 1, 1, 1, 1, 1, 1, 1, 1]) rfl (HALL [3] (by kernel_rfl) (by decide) (STOREC 30 (.tmp 2) (.tmp 14) 0 (by kernel_rfl) 0 _ b29 0 30 hZ (hC m17 a19 c20 a21 c22 a23 c24 a25 c26 a27 c28) rfl (.agg (hC m17 a19 c20 a21 c22 a23 c24 a25 c26 a27 c28).toArray) (by kernel_rfl) (by kernel_rfl) (by kernel_rfl) (HKEEP (js := [0, 0, 0, 0, 0, 0, 0, 0, 0, 0, 0]) rfl (HP [0, 0, 0, 0, 0, 0, 0, 0, 0, 0, 0] 4 [(3, I m31)] (HEND (by kernel_rfl) (IMPORT (L0 := [(30, (hC m17 a19 c20 a21 c22 a23 c24 a25 c26 a27 c28)), (30, (hC m17 a19 c20 a21 c22 a23 c24 a25 c26 a27 c28))]) (L1 := []) [b29, b30] rfl [12, 0] _ rfl [(2, .p 0 0), (3, I m31)] (by kernel_rfl) (by kernel_rfl) (NEXT (RET ?_))))))))
  refine FIN (.tuple #[.agg (hC m17 a19 c20 a21 c22 a23 c24 a25 c26 a27 c28).toArray, vi m31]) (by kernel_rfl) ⟨(((a19, c20), (a21, c22), (a23, c24), (a25, c26), (a27, c28)), (m17, m31)), (by first | assumption | exact (by refine (show _ ∧ _ ∧ _ ∧ _ ∧ _ ∧ _ from ⟨?_, ?_, ?_, ?_, ?_, ?_⟩) <;> first | omega | (dsimp only; omega) | assumption | (simp only [List.length_append, List.length_cons, List.length_nil, List.length_set, List.length_take]; omega) | exact mem_set_of (by assumption) (by assumption) | exact fun c hc => (by assumption : ∀ c ∈ _, CabinSz c) c (List.mem_of_mem_take hc)))⟩ ?_ [5, 5, 5, 5, 5] ?_
  · rfl
  · rfl
 ·
  have h16 := bh16
  refine SKIP (NEXT (SEQ (EXPORT (fun bs hbs => ?_))))
  obtain ⟨b33, b34, rfl⟩ := len2 hbs
  refine REGIONH (by kernel_rfl) 5 rfl [ptC b34 30 (hC m2 a4 c5 a6 c7 a8 c9 a10 c11 a12 c13), slA 3 intL (.slice a4 m2.rules.seats.length c5) m2.rules.seats, slA 46 partyL (.slice a6 m2.parties.length c7) m2.parties, slA 60 (cabinLx 63 99 114) (.slice a8 m2.cabins.length c9) m2.cabins, slA 3 intL (.slice a10 m2.todo.length c11) m2.todo, slA 3 intL (.slice a12 m2.jobs.length c13) m2.jobs] (HLOADE (i := 0) (js := [1, 1, 1, 1, 1, 1])  30 (.tmp 5) 14 30 (by kernel_rfl) (NL rfl) (some ⟨b34, 0, none⟩) 0 0 ((hC m2 a4 c5 a6 c7 a8 c9 a10 c11 a12 c13)) (.agg (hC m2 a4 c5 a6 c7 a8 c9 a10 c11 a12 c13).toArray) (by kernel_rfl) (fun w hw => ptC_elem (hw.own 0 rfl)) (by kernel_rfl) (by kernel_rfl) rfl ?_)
  refine HP [1, 1, 1, 1, 1, 1] 1 [(15, .v (p1))] (HALL [2] (by kernel_rfl) (by decide) (CALL 34 #[p1] (some 16) (by kernel_rfl) [7] [curA (⟨W.heap.size, 79, code_a, code.length, code_c⟩) p1] _ rfl (⟨{x : Int // True}, fun q => vi q.1, fun q => [curA (⟨W.heap.size, 79, code_a, code.length, code_c⟩) p1]⟩) (fun w hw => l19Seq_c w (⟨W.heap.size, 79, code_a, code.length, code_c⟩) (CodeOk.of hcode hw.fr) p1) (NO rfl) ?_))
  rintro ⟨m35, hm36⟩
  try dsimp only at hm36
  refine HKEEP (js := [1, 1, 1, 1, 1, 1]) rfl (HALL [3] (by kernel_rfl) (by decide) (STOREC 30 (.tmp 2) (.tmp 14) 0 (by kernel_rfl) 0 _ b33 0 30 hZ (hC m2 a4 c5 a6 c7 a8 c9 a10 c11 a12 c13) rfl (.agg (hC m2 a4 c5 a6 c7 a8 c9 a10 c11 a12 c13).toArray) (by kernel_rfl) (by kernel_rfl) (by kernel_rfl) (HKEEP (js := [0, 0, 0, 0, 0, 0]) rfl (HP [0, 0, 0, 0, 0, 0] 4 [(3, I m35)] (HEND (by kernel_rfl) (IMPORT (L0 := [(30, (hC m2 a4 c5 a6 c7 a8 c9 a10 c11 a12 c13)), (30, (hC m2 a4 c5 a6 c7 a8 c9 a10 c11 a12 c13))]) (L1 := []) [b33, b34] rfl [7, 0] _ rfl [(2, .p 0 0), (3, I m35)] (by kernel_rfl) (by kernel_rfl) (NEXT (RET ?_))))))))
  refine FIN (.tuple #[.agg (hC m2 a4 c5 a6 c7 a8 c9 a10 c11 a12 c13).toArray, vi m35]) (by kernel_rfl) ⟨(((a4, c5), (a6, c7), (a8, c9), (a10, c11), (a12, c13)), (m2, m35)), (by first | assumption | exact (by refine (show _ ∧ _ ∧ _ ∧ _ ∧ _ ∧ _ from ⟨?_, ?_, ?_, ?_, ?_, ?_⟩) <;> first | omega | (dsimp only; omega) | assumption | (simp only [List.length_append, List.length_cons, List.length_nil, List.length_set, List.length_take]; omega) | exact mem_set_of (by assumption) (by assumption) | exact fun c hc => (by assumption : ∀ c ∈ _, CabinSz c) c (List.mem_of_mem_take hc)))⟩ ?_ [0, 0, 0, 0, 0] ?_
  · rfl
  · rfl

end SX
end Go.Proofs.YtcbpmjfjdjpalaaGreat
/- Walks, printed by program. -/
namespace Go.Proofs.YtcbpmjfjdjpalaaGreat
namespace SX
open Go Go.RowKit
set_option linter.unusedVariables false
set_option linter.unusedSimpArgs false
set_option maxRecDepth 10000
set_option maxHeartbeats 400000
theorem fnSnapMost_c (W : World) (code : List UInt8) (code_a : Option Addr) (code_c : Nat) (hcode : Rd byteL W code_a code) : Spec Tryz.prog W [] 4 #[.slice code_a code.length code_c] (RV (.bool true)) := by
 refine ENTER0 (N := 42) (vs := [.slice code_a code.length code_c]) Tryz.func4 rfl rfl (NL rfl) ?_
 have hcode_len := hcode.len
 refine SEQ (RG (UU 1 [] (ENDOPS (NEXT (SEQ (SEQ (RG (UU 1 [(6, .v (.slice code_a code.length code_c))] (OPC (CA 5 #[.slice code_a code.length code_c] (some 7) (RV (.bool (decide ((code.length : Int) > 1048576)))) (fun w hw => big_c w code code_a code_c (hcode.fr hw.fr)) ?_))))))))))
 rintro ⟨⟩
 refine NI (decide ((code.length : Int) > 1048576)) (fun bh1 => ?_) (fun bh1 => ?_)
 ·
  have h1 := of_decide_eq_true bh1
  refine SEQ (RG (UU 1 [(2, B true)] (ENDOPS (NEXT (RF rfl (.bool true) () [] ?_ ?_)))))
  · (first | rfl | (exfalso; simp_all; done) | (exfalso; have h9 := snapText_most (h := xx.1) (seq := xx.2) (by assumption); have h8 := snapText_most (h := xx.1) (seq := 1000000) (by assumption); omega) | (show Value.bool _ = Value.bool true; congr 1; first | (rw [snapText_no (by assumption)]; rfl) | (simp [snapText_most (h := xx.1) (seq := 1000000) (by assumption)]; done)))
  · rfl
 ·
  have h1 := of_decide_eq_false bh1
  refine SKIP (NEXT (SEQ (RG (UU 1 [(9, .v (.slice code_a code.length code_c))] (OPC (CA 11 #[.slice code_a code.length code_c] (some 10) (⟨{q : (HH × HH × HH × HH × HH) × (House × Int) // (fun x : House × Int => HouseSz x.1) q.2}, fun q => .tuple #[.agg (hC q.1.2.1 q.1.1.1.1 q.1.1.1.2 q.1.1.2.1.1 q.1.1.2.1.2 q.1.1.2.2.1.1 q.1.1.2.2.1.2 q.1.1.2.2.2.1.1 q.1.1.2.2.2.1.2 q.1.1.2.2.2.2.1 q.1.1.2.2.2.2.2).toArray, vi q.1.2.2], fun q => [slA 3 intL (.slice q.1.1.1.1 q.1.2.1.rules.seats.length q.1.1.1.2) q.1.2.1.rules.seats, slA 46 partyL (.slice q.1.1.2.1.1 q.1.2.1.parties.length q.1.1.2.1.2) q.1.2.1.parties, slA 60 (cabinLx 63 99 114) (.slice q.1.1.2.2.1.1 q.1.2.1.cabins.length q.1.1.2.2.1.2) q.1.2.1.cabins, slA 3 intL (.slice q.1.1.2.2.2.1.1 q.1.2.1.todo.length q.1.1.2.2.2.1.2) q.1.2.1.todo, slA 3 intL (.slice q.1.1.2.2.2.2.1 q.1.2.1.jobs.length q.1.1.2.2.2.2.2) q.1.2.1.jobs]⟩) (fun w hw => drawSnapText_c w code code_a code_c (hcode.fr hw.fr)) ?_))))))
  rintro ⟨⟨⟨⟨a4, c5⟩, ⟨a6, c7⟩, ⟨a8, c9⟩, ⟨a10, c11⟩, ⟨a12, c13⟩⟩, m2⟩, hm3⟩
  try dsimp only at hm3
  refine UL 6 [(3, .p 0 0), (4, I m2.2)] [(30, (hC m2.1 a4 c5 a6 c7 a8 c9 a10 c11 a12 c13))] (NR (UU 2 [(14, .v (.agg #[.slice a4 m2.1.rules.seats.length c5, vi m2.1.rules.tiers, vi m2.1.rules.room, vi m2.1.rules.size, vi m2.1.rules.period, vi m2.1.rules.window, vi m2.1.rules.rest, vi m2.1.rules.tries, vi m2.1.rules.crew]))] (OPC (CA 12 #[.agg #[.slice a4 m2.1.rules.seats.length c5, vi m2.1.rules.tiers, vi m2.1.rules.room, vi m2.1.rules.size, vi m2.1.rules.period, vi m2.1.rules.window, vi m2.1.rules.rest, vi m2.1.rules.tries, vi m2.1.rules.crew]] (some 15) (RV (vi (snapMost m2.1.rules))) (fun w hw => iSnapMost_c w m2.1.rules a4 c5 (hw.rdO 0 rfl)) ?_))))
  rintro ⟨⟩
  refine UU 1 [(5, I (snapMost m2.1.rules))] (ENDOPS (NEXT (SEQ (SEQ (RG (UU 3 [(16, I (snapMost m2.1.rules)), (18, .v (.agg #[.slice a4 m2.1.rules.seats.length c5, vi m2.1.rules.tiers, vi m2.1.rules.room, vi m2.1.rules.size, vi m2.1.rules.period, vi m2.1.rules.window, vi m2.1.rules.rest, vi m2.1.rules.tries, vi m2.1.rules.crew]))] (OPC (CA 13 #[.agg #[.slice a4 m2.1.rules.seats.length c5, vi m2.1.rules.tiers, vi m2.1.rules.room, vi m2.1.rules.size, vi m2.1.rules.period, vi m2.1.rules.window, vi m2.1.rules.rest, vi m2.1.rules.tries, vi m2.1.rules.crew]] (some 19) (RV (vi (snapMost m2.1.rules))) (fun w hw => sSnapMost_c w m2.1.rules a4 c5 (hw.rdO 0 rfl)) ?_))))))))
  rintro ⟨⟩
  refine UU 1 [(20, B ((snapMost m2.1.rules) != (snapMost m2.1.rules)))] (NI ((snapMost m2.1.rules) != (snapMost m2.1.rules)) (fun bh14 => ?_) (fun bh14 => ?_))
  ·
   have h14 := bne_iff_ne.1 bh14
   refine SEQ (RG (UU 1 [(2, B false)] (ENDOPS (NEXT (RF rfl (.bool false) () [] ?_ ?_)))))
   · (first | rfl | (exfalso; simp_all; done) | (exfalso; have h9 := snapText_most (h := m2.1) (seq := m2.2) (by assumption); have h8 := snapText_most (h := m2.1) (seq := 1000000) (by assumption); omega) | (show Value.bool _ = Value.bool true; congr 1; first | (rw [snapText_no (by assumption)]; rfl) | (simp [snapText_most (h := m2.1) (seq := 1000000) (by assumption)]; done)))
   · rfl
  ·
   have h14 := bneF bh14
   refine SKIP (NEXT (SEQ (SEQ (RG (UU 1 [(21, .v (.agg (hC m2.1 a4 c5 a6 c7 a8 c9 a10 c11 a12 c13).toArray))] (FACT (m2.1.rules.seats.length ≤ c5) (fun w hw => SlO.capE (hw.own 0 rfl)) (fun hcap15 => (FACT (m2.1.parties.length ≤ c7) (fun w hw => SlO.capE (hw.own 1 rfl)) (fun hcap16 => (FACT (m2.1.cabins.length ≤ c9) (fun w hw => SlO.capE (hw.own 2 rfl)) (fun hcap17 => (FACT (m2.1.todo.length ≤ c11) (fun w hw => SlO.capE (hw.own 3 rfl)) (fun hcap18 => (FACT (m2.1.jobs.length ≤ c13) (fun w hw => SlO.capE (hw.own 4 rfl)) (fun hcap19 => (OPC (CA 14 #[.agg (hC m2.1 a4 c5 a6 c7 a8 c9 a10 c11 a12 c13).toArray] (some 22) (RV (.bool (houseOk m2.1))) (fun w hw => sHouseOk_c w m2.1 a4 c5 (hw.rdO 0 rfl) a6 c7 (hw.rdO 1 rfl) a8 c9 (hw.rdO 2 rfl) a10 c11 (hw.rdO 3 rfl) a12 c13 (hw.rdO 4 rfl) (by assumption) (by first | assumption | omega | (dsimp only; omega) | (simp only [List.length_append, List.length_cons, List.length_nil] at *; omega)) (by first | assumption | omega | (dsimp only; omega) | (simp only [List.length_append, List.length_cons, List.length_nil] at *; omega))) ?_)))))))))))))))))
   rintro ⟨⟩
   refine UU 1 [(23, B (!(houseOk m2.1)))] (NI (!(houseOk m2.1)) (fun bh20 => ?_) (fun bh20 => ?_))
   ·
    have h20 := notT bh20
    refine SEQ (RG (UU 2 [(24, .v (.agg (hC m2.1 a4 c5 a6 c7 a8 c9 a10 c11 a12 c13).toArray)), (25, I m2.2)] (FACT (m2.1.rules.seats.length ≤ c5) (fun w hw => SlO.capE (hw.own 0 rfl)) (fun hcap21 => (FACT (m2.1.parties.length ≤ c7) (fun w hw => SlO.capE (hw.own 1 rfl)) (fun hcap22 => (FACT (m2.1.cabins.length ≤ c9) (fun w hw => SlO.capE (hw.own 2 rfl)) (fun hcap23 => (FACT (m2.1.todo.length ≤ c11) (fun w hw => SlO.capE (hw.own 3 rfl)) (fun hcap24 => (FACT (m2.1.jobs.length ≤ c13) (fun w hw => SlO.capE (hw.own 4 rfl)) (fun hcap25 => (OPC (CA 15 #[.agg (hC m2.1 a4 c5 a6 c7 a8 c9 a10 c11 a12 c13).toArray, vi m2.2] (some 26) (RV (.string (bs (snapText m2.1 m2.2)))) (fun w hw => iSnapText_c w m2.1 a4 c5 (hw.rdO 0 rfl) a6 c7 (hw.rdO 1 rfl) a8 c9 (hw.rdO 2 rfl) a10 c11 (hw.rdO 3 rfl) a12 c13 (hw.rdO 4 rfl) m2.2 (by assumption) (by first | assumption | omega | (dsimp only; omega) | (simp only [List.length_append, List.length_cons, List.length_nil] at *; omega)) (by first | assumption | omega | (dsimp only; omega) | (simp only [List.length_append, List.length_cons, List.length_nil] at *; omega))) ?_))))))))))))))
    rintro ⟨⟩
    have hr26 := snapText_sz m2.1 m2.2
    refine UU 3 [(2, B ((((snapText m2.1 m2.2).length : Nat) : Int) == 0))] (ENDOPS (NEXT (RF rfl (.bool ((((snapText m2.1 m2.2).length : Nat) : Int) == 0)) () [] ?_ ?_)))
    · (first | rfl | (exfalso; simp_all; done) | (exfalso; have h9 := snapText_most (h := m2.1) (seq := m2.2) (by assumption); have h8 := snapText_most (h := m2.1) (seq := 1000000) (by assumption); omega) | (show Value.bool _ = Value.bool true; congr 1; first | (rw [snapText_no (by assumption)]; rfl) | (simp [snapText_most (h := m2.1) (seq := 1000000) (by assumption)]; done)))
    · rfl
   ·
    have h20 := notF bh20
    refine SKIP (NEXT (SEQ (RG (UU 2 [(29, .v (.agg (hC m2.1 a4 c5 a6 c7 a8 c9 a10 c11 a12 c13).toArray)), (30, I m2.2)] (FACT (m2.1.rules.seats.length ≤ c5) (fun w hw => SlO.capE (hw.own 0 rfl)) (fun hcap27 => (FACT (m2.1.parties.length ≤ c7) (fun w hw => SlO.capE (hw.own 1 rfl)) (fun hcap28 => (FACT (m2.1.cabins.length ≤ c9) (fun w hw => SlO.capE (hw.own 2 rfl)) (fun hcap29 => (FACT (m2.1.todo.length ≤ c11) (fun w hw => SlO.capE (hw.own 3 rfl)) (fun hcap30 => (FACT (m2.1.jobs.length ≤ c13) (fun w hw => SlO.capE (hw.own 4 rfl)) (fun hcap31 => (OPC (CA 15 #[.agg (hC m2.1 a4 c5 a6 c7 a8 c9 a10 c11 a12 c13).toArray, vi m2.2] (some 31) (RV (.string (bs (snapText m2.1 m2.2)))) (fun w hw => iSnapText_c w m2.1 a4 c5 (hw.rdO 0 rfl) a6 c7 (hw.rdO 1 rfl) a8 c9 (hw.rdO 2 rfl) a10 c11 (hw.rdO 3 rfl) a12 c13 (hw.rdO 4 rfl) m2.2 (by assumption) (by first | assumption | omega | (dsimp only; omega) | (simp only [List.length_append, List.length_cons, List.length_nil] at *; omega)) (by first | assumption | omega | (dsimp only; omega) | (simp only [List.length_append, List.length_cons, List.length_nil] at *; omega))) ?_))))))))))))))))
    rintro ⟨⟩
    have hr32 := snapText_sz m2.1 m2.2
    refine UU 4 [(35, B (decide ((((snapText m2.1 m2.2).length : Nat) : Int) ≤ (snapMost m2.1.rules))))] (SP 35 (decide ((((snapText m2.1 m2.2).length : Nat) : Int) ≤ (snapMost m2.1.rules))) (fun bh33 => ?_) (fun bh33 => ?_))
    ·
     have h33 := of_decide_eq_true bh33
     refine UU 1 [(36, .v (.agg (hC m2.1 a4 c5 a6 c7 a8 c9 a10 c11 a12 c13).toArray))] (FACT (m2.1.rules.seats.length ≤ c5) (fun w hw => SlO.capE (hw.own 0 rfl)) (fun hcap34 => (FACT (m2.1.parties.length ≤ c7) (fun w hw => SlO.capE (hw.own 1 rfl)) (fun hcap35 => (FACT (m2.1.cabins.length ≤ c9) (fun w hw => SlO.capE (hw.own 2 rfl)) (fun hcap36 => (FACT (m2.1.todo.length ≤ c11) (fun w hw => SlO.capE (hw.own 3 rfl)) (fun hcap37 => (FACT (m2.1.jobs.length ≤ c13) (fun w hw => SlO.capE (hw.own 4 rfl)) (fun hcap38 => (OPC (CA 16 #[.agg (hC m2.1 a4 c5 a6 c7 a8 c9 a10 c11 a12 c13).toArray, vi 1000000] (some 37) (RV (.string (bs (snapText m2.1 1000000)))) (fun w hw => sSnapText_c w m2.1 a4 c5 (hw.rdO 0 rfl) a6 c7 (hw.rdO 1 rfl) a8 c9 (hw.rdO 2 rfl) a10 c11 (hw.rdO 3 rfl) a12 c13 (hw.rdO 4 rfl) 1000000 (by assumption) (by first | assumption | omega | (dsimp only; omega) | (simp only [List.length_append, List.length_cons, List.length_nil] at *; omega)) (by first | assumption | omega | (dsimp only; omega) | (simp only [List.length_append, List.length_cons, List.length_nil] at *; omega))) ?_))))))))))))
     rintro ⟨⟩
     have hr39 := snapText_sz m2.1 1000000
     refine UU 5 [(2, B (decide ((((snapText m2.1 1000000).length : Nat) : Int) ≤ (snapMost m2.1.rules))))] (ENDOPS (NEXT (RF rfl (.bool (decide ((((snapText m2.1 1000000).length : Nat) : Int) ≤ (snapMost m2.1.rules)))) () [] ?_ ?_)))
     · (first | rfl | (exfalso; simp_all; done) | (exfalso; have h9 := snapText_most (h := m2.1) (seq := m2.2) (by assumption); have h8 := snapText_most (h := m2.1) (seq := 1000000) (by assumption); omega) | (show Value.bool _ = Value.bool true; congr 1; first | (rw [snapText_no (by assumption)]; rfl) | (simp [snapText_most (h := m2.1) (seq := 1000000) (by assumption)]; done)))
     · rfl
    ·
     have h33 := of_decide_eq_false bh33
     refine UU 7 [(2, B false)] (ENDOPS (NEXT (RF rfl (.bool false) () [] ?_ ?_)))
     · (first | rfl | (exfalso; simp_all; done) | (exfalso; have h9 := snapText_most (h := m2.1) (seq := m2.2) (by assumption); have h8 := snapText_most (h := m2.1) (seq := 1000000) (by assumption); omega) | (show Value.bool _ = Value.bool true; congr 1; first | (rw [snapText_no (by assumption)]; rfl) | (simp [snapText_most (h := m2.1) (seq := 1000000) (by assumption)]; done)))
     · rfl

end SX
end Go.Proofs.YtcbpmjfjdjpalaaGreat
