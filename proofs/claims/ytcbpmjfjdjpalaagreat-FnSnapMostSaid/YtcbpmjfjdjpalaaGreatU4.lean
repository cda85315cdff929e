/- Walks, printed by program. -/
import Derived.Test.YtcbpmjfjdjpalaaGreatMdlx
import Derived.Test.YtcbpmjfjdjpalaaGreatU2
namespace Go.Proofs.YtcbpmjfjdjpalaaGreat
namespace SX
open Go Go.RowKit
set_option linter.unusedVariables false
set_option linter.unusedSimpArgs false
set_option maxRecDepth 10000
set_option maxHeartbeats 400000
theorem sPutNum_c (W : World) (n : Int) : Spec Tryz.prog W [] 86 #[vi n] (⟨HH, fun p => .slice p.1 ((putNum n).length) p.2, fun p => [slA 5 byteL (.slice p.1 (putNum n).length p.2) (putNum n)]⟩) := by
 refine ENTER0 (N := 25) (vs := [vi n]) Tryz.func86 rfl rfl (NL rfl) ?_
 refine SEQ (RG (UU 1 [] (NR (OPC (BUILDS 22 0 #[] 4 22 (by kernel_rfl) (NL rfl) 5 [] (by kernel_rfl) byteL [] rfl (by simp only [maxLen]; omega) [] [] _ rfl (flatRep rfl) (fun a1 ha2 => (UU 1 [(3, .v (.slice a1 0 0))] (ENDOPS (NEXT (SEQ (SEQ (RG (UU 1 [(5, I n)] (OPC (CA 37 #[vi n, vi 0, vi 2147483647] (some 6) (RV (.bool (inB n 0 2147483647))) (fun w hw => l1In_c w n 0 2147483647) ?_)))))))))))))))
 rintro ⟨⟩
 refine UU 1 [(7, B (!(inB n 0 2147483647)))] (NI (!(inB n 0 2147483647)) (fun bh3 => ?_) (fun bh3 => ?_))
 ·
  have h3 := notT bh3
  refine SEQ (RG (UU 2 [(2, .v (.slice a1 0 0))] (ENDOPS (NEXT (RET (PASS trivial ?_))))))
  have e4 : [] = putNum n := by simp [putNum, *]
  refine FIN (.slice a1 0 0) (by kernel_rfl) (a1, 0) ?_ [0] ?_
  · exact congrArg (fun z : List UInt8 => Value.slice a1 z.length 0) e4
  · exact congrArg (fun z : List UInt8 => some [slA 5 byteL (.slice a1 z.length 0) z]) e4
 ·
  have h3 := notF bh3
  have hn : 0 ≤ n ∧ n ≤ 2147483647 := by simpa [inB] using h3
  refine SKIP (NEXT (SEQ (BLOCK (CS 0 (vi n) (vi ((n.toNat : Nat) : Int)) (by rw [Int.toNat_of_nonneg hn.1]) (LOOP (ι := Nat × (Option Addr) × Nat × (List UInt8)) (fun j => [(0, I (j.1 : Int)), (3, .v (.slice j.2.1 j.2.2.2.length j.2.2.1))]) (fun j => []) (fun j => [slA 5 byteL (.slice j.2.1 j.2.2.2.length j.2.2.1) j.2.2.2]) (fun j => j.1 ≤ 2147483647 ∧ j.2.2.2.length + j.1 ≤ 2147483647 ∧ j.2.2.2 ++ putGo j.1 = putGo n.toNat) (fun j => j.1) (n.toNat, a1, 0, []) [0, 3] ⟨by dsimp only; omega, by simp; omega, rfl⟩ (by kernel_rfl) rfl rfl ?_)))))
  rintro ⟨m, oa, oc, out⟩ ⟨hm, hl, hv⟩
  try dsimp only at hm hl hv
  refine SEQ (SEQ (RG (UU 2 [(10, B (decide ((m : Int) > 127)))] (NI (decide ((m : Int) > 127)) (fun bh5 => ?_) (fun bh5 => ?_)))))
  ·
   have h5 := of_decide_eq_true bh5
   refine SKIP (NEXT (BLOCK (SEQ (RG (UU 3 [(11, .v (.slice oa out.length oc)), (13, I (Int.tmod (m : Int) 128))] (CS 13 (vi (Int.tmod (m : Int) 128)) (vi ((m % 128 : Nat) : Int)) (vi_rem m 128) (UU 1 [(14, I (wr (((m % 128 : Nat) : Int) + 128)))] (CS 14 (vi (wr (((m % 128 : Nat) : Int) + 128))) (vi (((m % 128) + 128 : Nat) : Int)) (vi_cast (by omega) (by omega)) (UU 1 [(15, .v (.int .u8 (IntKind.wrap .u8 (((m % 128) + 128 : Nat) : Int))))] (CS 15 (.int .u8 (IntKind.wrap .u8 (((m % 128) + 128 : Nat) : Int))) (.int .u8 (((byteOf (((m % 128) + 128 : Nat) : Int)).toNat : Nat) : Int)) (v8 (((m % 128) + 128 : Nat) : Int)) (OPC (BUILDS 22 1 #[(0, .tmp 15)] 16 22 (by kernel_rfl) (NL rfl) 5 [.int .u8 (((byteOf (((m % 128) + 128 : Nat) : Int)).toNat : Nat) : Int)] (by kernel_rfl) byteL ([byteOf (((m % 128) + 128 : Nat) : Int)] : List UInt8) rfl (by simp only [maxLen]; omega) [] [] _ rfl (flatRep rfl) (fun a6 ha7 => (OPC (APPENDO 22 (.tmp 11) (.tmp 16) 17 22 (by kernel_rfl) (NL rfl) (.slice oa out.length oc) a6 1 1 (by kernel_rfl) (by kernel_rfl) ha7 5 (by kernel_rfl) byteL (.int .u8 0) 1 (by kernel_rfl) rfl (by decide) 0 0 out ([byteOf (((m % 128) + 128 : Nat) : Int)] : List UInt8) _ rfl rfl (by first | omega | (simp only [List.length_append, List.length_cons, List.length_nil, List.length_take, List.length_drop] at *; omega)) (by simp only [maxLen]; first | omega | (simp only [List.length_append, List.length_cons, List.length_nil, List.length_take, List.length_drop] at *; omega)) (fun a8 c9 hn10 => ?_))))))))))))))))
   refine UU 1 [(3, .v (.slice a8 ((out ++ ([byteOf (((m % 128) + 128 : Nat) : Int)] : List UInt8)).length) c9))] (ENDOPS (NEXT (RG (UU 2 [(19, I (wr (Int.tdiv (m : Int) 128)))] (CS 19 (vi (wr (Int.tdiv (m : Int) 128))) (vi ((m / 128 : Nat) : Int)) (vi_quo m 128 (by decide) (by omega)) (UU 1 [(0, I ((m / 128 : Nat) : Int))] (ENDOPS (OUTN (BK (m / 128, a8, c9, out ++ ([byteOf (((m % 128) + 128 : Nat) : Int)] : List UInt8)) [0, 3] 0 [0] ⟨by dsimp only; omega, by simp only [List.length_append, List.length_cons, List.length_nil]; omega, by rw [← hv, putGo_ge (n := m) (by omega)]; simp⟩ (by dsimp only; omega))))))))))
  ·
   have h5 := of_decide_eq_false bh5
   refine EXIT (PASS trivial (PASS trivial (OUT (NEXT (SEQ (RG (UU 3 [(20, .v (.slice oa out.length oc)), (22, .v (.int .u8 (IntKind.wrap .u8 (m : Int))))] (CS 22 (.int .u8 (IntKind.wrap .u8 (m : Int))) (.int .u8 (((byteOf (m : Int)).toNat : Nat) : Int)) (v8 (m : Int)) (OPC (BUILDS 22 1 #[(0, .tmp 22)] 23 22 (by kernel_rfl) (NL rfl) 5 [.int .u8 (((byteOf (m : Int)).toNat : Nat) : Int)] (by kernel_rfl) byteL ([byteOf (m : Int)] : List UInt8) rfl (by simp only [maxLen]; omega) [] [] _ rfl (flatRep rfl) (fun a11 ha12 => (OPC (APPENDO 22 (.tmp 20) (.tmp 23) 24 22 (by kernel_rfl) (NL rfl) (.slice oa out.length oc) a11 1 1 (by kernel_rfl) (by kernel_rfl) ha12 5 (by kernel_rfl) byteL (.int .u8 0) 1 (by kernel_rfl) rfl (by decide) 0 0 out ([byteOf (m : Int)] : List UInt8) _ rfl rfl (by first | omega | (simp only [List.length_append, List.length_cons, List.length_nil, List.length_take, List.length_drop] at *; omega)) (by simp only [maxLen]; first | omega | (simp only [List.length_append, List.length_cons, List.length_nil, List.length_take, List.length_drop] at *; omega)) (fun a13 c14 hn15 => (UU 1 [(2, .v (.slice a13 ((out ++ ([byteOf (m : Int)] : List UInt8)).length) c14))] (ENDOPS (NEXT (RET ?_))))))))))))))))))
   have e16 : out ++ ([byteOf (m : Int)] : List UInt8) = putNum n := by rw [putNum, if_pos (by simpa [inB] using hn), ← hv, putGo_lt (n := m) (by omega)]
   refine FIN (.slice a13 ((out ++ ([byteOf (m : Int)] : List UInt8)).length) c14) (by kernel_rfl) (a13, c14) ?_ [0] ?_
   · exact congrArg (fun z : List UInt8 => Value.slice a13 z.length c14) e16
   · exact congrArg (fun z : List UInt8 => some [slA 5 byteL (.slice a13 z.length c14) z]) e16

theorem sNums_c (W : World) (list : List Int) (list_a : Option Addr) (list_c : Nat) (hlist : Rd intL W list_a list) (hb : list.length ≤ 1048576) : Spec Tryz.prog W [] 47 #[.slice list_a list.length list_c] (RV (.string (bs (putNums list)))) := by
 refine ENTER0 (N := 21) (vs := [.slice list_a list.length list_c]) Tryz.func47 rfl rfl (NL rfl) ?_
 have hlist_len := hlist.len
 refine SEQ (RG (UU 1 [] (NR (OPC (BUILDS 22 0 #[] 5 22 (by kernel_rfl) (NL rfl) 5 [] (by kernel_rfl) byteL [] rfl (by simp only [maxLen]; omega) [] [] _ rfl (flatRep rfl) (fun a1 ha2 => (UU 1 [(3, .v (.slice a1 0 0))] (ENDOPS (NEXT (SEQ (SEQ (RG (UU 1 [(4, I 0)] (ENDOPS (NEXT (BLOCK (LOOP (ι := Nat × (List Int) × (Option Addr) × Nat × (List UInt8)) (fun j => [(0, .v (.slice list_a list.length list_c)), (3, .v (.slice j.2.2.1 j.2.2.2.2.length j.2.2.2.1)), (4, I (j.1 : Int))]) (fun j => []) (fun j => [slA 5 byteL (.slice j.2.2.1 j.2.2.2.2.length j.2.2.2.1) j.2.2.2.2]) (fun j => j.1 + j.2.1.length = list.length ∧ list.drop j.1 = j.2.1 ∧ putNums list = j.2.2.2.2 ++ putNums j.2.1 ∧ j.2.2.2.2.length ≤ 5 * j.1) (fun j => j.2.1.length) (0, list, a1, 0, []) [0, 3, 4] ⟨by simp, rfl, rfl, by simp⟩ (by kernel_rfl) rfl rfl ?_)))))))))))))))))
 rintro ⟨k, ys, oa, oc, out⟩ ⟨hk, hd, hv0, hv1⟩
 try dsimp only at hk hd hv0 hv1
 refine SEQ (SEQ (RG (UU 4 [(9, B (decide ((k : Int) < (list.length : Int))))] (NI (decide ((k : Int) < (list.length : Int))) (fun bh3 => ?_) (fun bh3 => ?_)))))
 ·
  have h3 := of_decide_eq_true bh3
  obtain ⟨y4, ys5, rfl, hx_y4, hd_y4, hl_y4⟩ := drop_cons hd hk (by omega)
  refine SKIP (NEXT (SEQ (BLOCK (RG (UU 3 [(12, .v (.slice oa out.length oc)), (13, .v (.slice list_a list.length list_c)), (14, I (k : Int))] (OPC (IX 24 (.tmp 13) (.tmp 14) 15 0 list_a list.length list_c .i64 (k : Int) 3 1 (Rd.some hlist (by omega)) (by omega) (by omega) (OPC (LE 3 (.tmp 15) 16 3 list_a (k * 1) 0 ([vi y4]) (vi y4) (fun w hw => (hlist.fr hw.fr).flat hx_y4) (OPC (CA 86 #[vi y4] (some 17) (⟨HH, fun p => .slice p.1 ((putNum y4).length) p.2, fun p => [slA 5 byteL (.slice p.1 (putNum y4).length p.2) (putNum y4)]⟩) (fun w hw => sPutNum_c w y4) ?_)))))))))))
  rintro ⟨a6, c7⟩
  have hr8 := putNum_len y4
  refine OPC (APPENDR 22 (.tmp 12) (.tmp 17) 18 22 (by kernel_rfl) (NL rfl) (.slice oa out.length oc) a6 ((putNum y4).length) c7 (by kernel_rfl) (by kernel_rfl) 5 (by kernel_rfl) (.int .u8 0) 1 (by kernel_rfl) rfl (by decide) 0 out (putNum y4) _ rfl rfl (fun w hw => (hw.rdO 1 rfl)) (by have := putNum_len y4; omega) (by have := putNum_len y4; simp only [maxLen]; omega) (fun a9 c10 hn11 => (UU 1 [(3, .v (.slice a9 ((out ++ (putNum y4)).length) c10))] (ENDOPS (OUTN (NEXT (RG (UU 2 [(11, I (wr ((k : Int) + 1)))] (CS 11 (vi (wr ((k : Int) + 1))) (vi ((k + 1 : Nat) : Int)) (vi_cast (by omega) (by omega)) (UU 1 [(4, I ((k + 1 : Nat) : Int))] (ENDOPS (BK (k + 1, ys5, a9, c10, out ++ (putNum y4)) [0, 3, 4] 0 [1] ⟨hl_y4, hd_y4, hv0.trans (by simp [putNums]), by have := putNum_len y4; simp only [List.length_append]; omega⟩ (by simp)))))))))))))
 ·
  have h3 := of_decide_eq_false bh3
  obtain rfl := drop_nil hk (by omega)
  refine EXIT (PASS trivial (PASS trivial (OUT (NEXT (SEQ (RG (UU 1 [(19, .v (.slice oa out.length oc))] (OPC (RUNV (.convert 22 9 (.tmp 19)) 20 9 (by kernel_rfl) (NL rfl) (.string (bs out)) (runs_bstr (a := oa) (n := out.length) (c := oc) (xs := out) (e := 5) (by kernel_rfl) (by kernel_rfl) (by kernel_rfl) (by kernel_rfl) rfl (fun w hw => (hw.rdO 0 rfl))) (UU 1 [(2, .v (.string (bs out)))] (ENDOPS (NEXT (RF rfl (.string (bs out)) () [] ?_ ?_)))))))))))))
  · (simp only [RV, hv0]; simp [putNums])
  · rfl

theorem sCrc_c (W : World) (b : List UInt8) (b_a : Option Addr) (b_c : Nat) (hb : Rd byteL W b_a b) : Spec Tryz.prog W [] 50 #[.slice b_a b.length b_c] (RV (vi ((crc b : Nat) : Int))) := by
 refine ENTER0 (N := 34) (vs := [.slice b_a b.length b_c]) Tryz.func50 rfl rfl (NL rfl) ?_
 have hb_len := hb.len
 refine SEQ (RG (UU 1 [] (NR (UU 1 [(3, I 4294967295)] (ENDOPS (NEXT (SEQ (SEQ (RG (UU 1 [(4, I 0)] (ENDOPS (NEXT (BLOCK (LOOP (ι := Nat × (List UInt8) × Nat) (fun j => [(0, .v (.slice b_a b.length b_c)), (3, I (j.2.2 : Int)), (4, I (j.1 : Int))]) (fun j => []) (fun j => []) (fun j => j.1 + j.2.1.length = b.length ∧ b.drop j.1 = j.2.1 ∧ crcGo 4294967295 b = crcGo j.2.2 j.2.1 ∧ j.2.2 < 4294967296) (fun j => j.2.1.length) (0, b, 4294967295) [0, 3, 4] ⟨by simp, rfl, rfl, by dsimp only; omega⟩ (by kernel_rfl) rfl rfl ?_))))))))))))))
 rintro ⟨k, ys, x⟩ ⟨hk, hd, hv0, hv1⟩
 try dsimp only at hk hd hv0 hv1
 refine SEQ (SEQ (RG (UU 4 [(10, B (decide ((k : Int) < (b.length : Int))))] (NI (decide ((k : Int) < (b.length : Int))) (fun bh1 => ?_) (fun bh1 => ?_)))))
 ·
  have h1 := of_decide_eq_true bh1
  obtain ⟨y2, ys3, rfl, hx_y2, hd_y2, hl_y2⟩ := drop_cons hd hk (by omega)
  have := UInt8.toNat_lt y2
  refine SKIP (NEXT (SEQ (BLOCK (SEQ (RG (UU 3 [(13, I (x : Int)), (14, .v (.slice b_a b.length b_c)), (15, I (k : Int))] (OPC (IX 22 (.tmp 14) (.tmp 15) 16 0 b_a b.length b_c .i64 (k : Int) 5 1 (Rd.some hb (by omega)) (by omega) (by omega) (OPC (LE 5 (.tmp 16) 17 5 b_a (k * 1) 0 ([.int .u8 (y2.toNat : Int)]) (.int .u8 (y2.toNat : Int)) (fun w hw => (hb.fr hw.fr).flat hx_y2) (UU 1 [(18, I (IntKind.wrap .i64 (y2.toNat : Int)))] (CS 18 (vi (IntKind.wrap .i64 (y2.toNat : Int))) (vi (y2.toNat : Int)) (vi_u8 y2) (UU 1 [(19, I (wr (((BitVec.ofInt 64 (x : Int) ^^^ BitVec.ofInt 64 (y2.toNat : Int)).toNat : Int))))] (CS 19 (vi (wr (((BitVec.ofInt 64 (x : Int) ^^^ BitVec.ofInt 64 (y2.toNat : Int)).toNat : Int)))) (vi ((x ^^^ y2.toNat : Nat) : Int)) (vi_xor x y2.toNat (by omega) (by omega)) (UU 1 [(3, I ((x ^^^ y2.toNat : Nat) : Int))] (NR (UU 1 [(5, I 0)] (ENDOPS (NEXT (BLOCK (LOOP (ι := Nat × Nat × Nat) (fun j => [(0, .v (.slice b_a b.length b_c)), (3, I (j.2.2 : Int)), (4, I (k : Int)), (5, I (j.1 : Int))]) (fun j => []) (fun j => []) (fun j => j.1 + j.2.1 = 8 ∧ crcIt 8 (x ^^^ y2.toNat) = crcIt j.2.1 j.2.2 ∧ j.2.2 < 4294967296) (fun j => j.2.1) (0, 8, x ^^^ y2.toNat) [0, 3, 4, 5] ⟨by simp, rfl, crc8_lt hv1 _⟩ (by kernel_rfl) rfl rfl ?_)))))))))))))))))))))
  rintro ⟨i, r, z⟩ ⟨hki, hvi0, hvi1⟩
  try dsimp only at hki hvi0 hvi1
  refine SEQ (SEQ (RG (UU 2 [(21, B (decide ((i : Int) < 8)))] (NI (decide ((i : Int) < 8)) (fun bh4 => ?_) (fun bh4 => ?_)))))
  ·
   have h4 := of_decide_eq_true bh4
   obtain ⟨r5, rfl⟩ : ∃ z, r = z + 1 := ⟨r - 1, by omega⟩
   refine SKIP (NEXT (SEQ (BLOCK (SEQ (RG (UU 2 [(25, I (Int.tmod (z : Int) 2))] (CS 25 (vi (Int.tmod (z : Int) 2)) (vi ((z % 2 : Nat) : Int)) (vi_rem z 2) (UU 2 [(6, B (((z % 2 : Nat) : Int) == 1))] (NR (UU 2 [(28, I (wr (Int.tdiv (z : Int) 2)))] (CS 28 (vi (wr (Int.tdiv (z : Int) 2))) (vi ((z / 2 : Nat) : Int)) (vi_quo z 2 (by decide) (by omega)) (UU 1 [(3, I ((z / 2 : Nat) : Int))] (NR (UU 1 [(29, B (((z % 2 : Nat) : Int) == 1))] (NI (((z % 2 : Nat) : Int) == 1) (fun bh6 => ?_) (fun bh6 => ?_))))))))))))))))
   ·
    have h6 := eq_of_beq bh6
    refine RG (UU 2 [(31, I (wr (((BitVec.ofInt 64 ((z / 2 : Nat) : Int) ^^^ BitVec.ofInt 64 3988292384).toNat : Int))))] (CS 31 (vi (wr (((BitVec.ofInt 64 ((z / 2 : Nat) : Int) ^^^ BitVec.ofInt 64 3988292384).toNat : Int)))) (vi (((z / 2) ^^^ 3988292384 : Nat) : Int)) (vi_xor (z / 2) 3988292384 (by omega) (by omega)) (UU 1 [(3, I (((z / 2) ^^^ 3988292384 : Nat) : Int))] (ENDOPS (OUTN (NEXT (RG (UU 2 [(23, I (wr ((i : Int) + 1)))] (CS 23 (vi (wr ((i : Int) + 1))) (vi ((i + 1 : Nat) : Int)) (vi_cast (by omega) (by omega)) (UU 1 [(5, I ((i + 1 : Nat) : Int))] (ENDOPS (BK (i + 1, r5, (z / 2) ^^^ 3988292384) [0, 3, 4, 5] 0 [] ⟨by dsimp only; omega, hvi0.trans (by simp only [crcIt, crcStep]; split <;> first | rfl | (exfalso; omega)), (by first | (dsimp only; omega) | exact xor32 (by omega) (show 3988292384 < 4294967296 by decide))⟩ (by simp)))))))))))))
   ·
    have h6 := ne_of_beq_false bh6
    refine SKIP (OUTN (NEXT (RG (UU 2 [(23, I (wr ((i : Int) + 1)))] (CS 23 (vi (wr ((i : Int) + 1))) (vi ((i + 1 : Nat) : Int)) (vi_cast (by omega) (by omega)) (UU 1 [(5, I ((i + 1 : Nat) : Int))] (ENDOPS (BK (i + 1, r5, z / 2) [0, 3, 4, 5] 0 [] ⟨by dsimp only; omega, hvi0.trans (by simp only [crcIt, crcStep]; split <;> first | rfl | (exfalso; omega)), (by first | (dsimp only; omega) | exact xor32 (by omega) (show 3988292384 < 4294967296 by decide))⟩ (by simp)))))))))
  ·
   have h4 := of_decide_eq_false bh4
   obtain rfl : r = 0 := by omega
   refine EXIT (PASS trivial (PASS trivial (OUT (OUTN (NEXT (RG (UU 2 [(12, I (wr ((k : Int) + 1)))] (CS 12 (vi (wr ((k : Int) + 1))) (vi ((k + 1 : Nat) : Int)) (vi_cast (by omega) (by omega)) (UU 1 [(4, I ((k + 1 : Nat) : Int))] (ENDOPS (BK (k + 1, ys3, z) [0, 3, 4] 0 [] ⟨hl_y2, hd_y2, hv0.trans ((crcGo_cons x y2 ys3).trans (congrArg (fun q => crcGo q ys3) (hvi0.trans (crcIt_zero z)))), by assumption⟩ (by simp))))))))))))
 ·
  have h1 := of_decide_eq_false bh1
  obtain rfl := drop_nil hk (by omega)
  refine EXIT (PASS trivial (PASS trivial (OUT (NEXT (SEQ (RG (UU 2 [(33, I (wr (((BitVec.ofInt 64 (x : Int) ^^^ BitVec.ofInt 64 4294967295).toNat : Int))))] (CS 33 (vi (wr (((BitVec.ofInt 64 (x : Int) ^^^ BitVec.ofInt 64 4294967295).toNat : Int)))) (vi ((x ^^^ 4294967295 : Nat) : Int)) (vi_xor x 4294967295 (by omega) (by omega)) (UU 1 [(2, I ((x ^^^ 4294967295 : Nat) : Int))] (ENDOPS (NEXT (RF rfl (vi ((x ^^^ 4294967295 : Nat) : Int)) () [] ?_ ?_))))))))))))
  · (simp only [RV, crc]; rw [hv0, crcGo_nil])
  · rfl

theorem four_c (W : World) (n : Int) : Spec Tryz.prog W [] 49 #[vi n] (RV (.string (bs (four n)))) := by
 refine ENTER0 (N := 16) (vs := [vi n]) Tryz.func49 rfl rfl (NL rfl) ?_
 refine SEQ (RG (UU 1 [] (NR (UU 3 [(5, .v (.int .u8 (IntKind.wrap .u8 (Int.fdiv n (2 ^ 24)))))] (CS 5 (.int .u8 (IntKind.wrap .u8 (Int.fdiv n (2 ^ 24)))) (.int .u8 (((byteOf (Int.fdiv n (2 ^ 24))).toNat : Nat) : Int)) (v8 (Int.fdiv n (2 ^ 24))) (UU 3 [(8, .v (.int .u8 (IntKind.wrap .u8 (Int.fdiv n (2 ^ 16)))))] (CS 8 (.int .u8 (IntKind.wrap .u8 (Int.fdiv n (2 ^ 16)))) (.int .u8 (((byteOf (Int.fdiv n (2 ^ 16))).toNat : Nat) : Int)) (v8 (Int.fdiv n (2 ^ 16))) (UU 3 [(11, .v (.int .u8 (IntKind.wrap .u8 (Int.fdiv n (2 ^ 8)))))] (CS 11 (.int .u8 (IntKind.wrap .u8 (Int.fdiv n (2 ^ 8)))) (.int .u8 (((byteOf (Int.fdiv n (2 ^ 8))).toNat : Nat) : Int)) (v8 (Int.fdiv n (2 ^ 8))) (UU 2 [(13, .v (.int .u8 (IntKind.wrap .u8 n)))] (CS 13 (.int .u8 (IntKind.wrap .u8 n)) (.int .u8 (((byteOf n).toNat : Nat) : Int)) (v8 n) (OPC (BUILDS 22 4 #[(0, .tmp 5), (1, .tmp 8), (2, .tmp 11), (3, .tmp 13)] 14 22 (by kernel_rfl) (NL rfl) 5 [.int .u8 (((byteOf (Int.fdiv n (2 ^ 24))).toNat : Nat) : Int), .int .u8 (((byteOf (Int.fdiv n (2 ^ 16))).toNat : Nat) : Int), .int .u8 (((byteOf (Int.fdiv n (2 ^ 8))).toNat : Nat) : Int), .int .u8 (((byteOf n).toNat : Nat) : Int)] (by kernel_rfl) byteL ([byteOf (Int.fdiv n (2 ^ 24)), byteOf (Int.fdiv n (2 ^ 16)), byteOf (Int.fdiv n (2 ^ 8)), byteOf n] : List UInt8) rfl (by simp only [maxLen]; omega) [] [] _ rfl (flatRep rfl) (fun a1 ha2 => (FACT (4 = ([byteOf (Int.fdiv n (2 ^ 24)), byteOf (Int.fdiv n (2 ^ 16)), byteOf (Int.fdiv n (2 ^ 8)), byteOf n] : List UInt8).length) (fun w hw => (SlO.lenE (hw.own 0 rfl)).1) (fun hln3 => ?_))))))))))))))))
 refine OPC (RUNV (.convert 22 9 (.tmp 14)) 15 9 (by kernel_rfl) (NL rfl) (.string (bs ([byteOf (Int.fdiv n (2 ^ 24)), byteOf (Int.fdiv n (2 ^ 16)), byteOf (Int.fdiv n (2 ^ 8)), byteOf n] : List UInt8))) (runs_bstr (a := a1) (n := 4) (c := 4) (xs := ([byteOf (Int.fdiv n (2 ^ 24)), byteOf (Int.fdiv n (2 ^ 16)), byteOf (Int.fdiv n (2 ^ 8)), byteOf n] : List UInt8)) (e := 5) (by kernel_rfl) (by kernel_rfl) (by kernel_rfl) (by kernel_rfl) hln3.symm (fun w hw => (hw.rdO 0 rfl))) (UU 1 [(2, .v (.string (bs ([byteOf (Int.fdiv n (2 ^ 24)), byteOf (Int.fdiv n (2 ^ 16)), byteOf (Int.fdiv n (2 ^ 8)), byteOf n] : List UInt8))))] (ENDOPS (NEXT (RF rfl (.string (bs ([byteOf (Int.fdiv n (2 ^ 24)), byteOf (Int.fdiv n (2 ^ 16)), byteOf (Int.fdiv n (2 ^ 8)), byteOf n] : List UInt8))) () [] ?_ ?_)))))
 · simp [RV, four]
 · rfl

theorem sSnapMost_c (W : World) (r : Rules) (r_seats_a : Option Addr) (r_seats_c : Nat) (hr_seats : Rd intL W r_seats_a r.seats) : Spec Tryz.prog W [] 13 #[.agg #[.slice r_seats_a r.seats.length r_seats_c, vi r.tiers, vi r.room, vi r.size, vi r.period, vi r.window, vi r.rest, vi r.tries, vi r.crew]] (RV (vi (snapMost r))) := by
 refine ENTER0 (N := 22) (vs := [.agg #[.slice r_seats_a r.seats.length r_seats_c, vi r.tiers, vi r.room, vi r.size, vi r.period, vi r.window, vi r.rest, vi r.tries, vi r.crew]]) Tryz.func13 rfl rfl (NL rfl) ?_
 have hr_seats_len := hr_seats.len
 refine SEQ (RG (UL 2 [(1, .p 0 0)] [(26, [.slice r_seats_a r.seats.length r_seats_c, vi r.tiers, vi r.room, vi r.size, vi r.period, vi r.window, vi r.rest, vi r.tries, vi r.crew])] (ENDOPS (NEXT (SEQ (SEQ (RG (UU 1 [(4, .v (.agg #[.slice r_seats_a r.seats.length r_seats_c, vi r.tiers, vi r.room, vi r.size, vi r.period, vi r.window, vi r.rest, vi r.tries, vi r.crew]))] (OPC (CA 36 #[.agg #[.slice r_seats_a r.seats.length r_seats_c, vi r.tiers, vi r.room, vi r.size, vi r.period, vi r.window, vi r.rest, vi r.tries, vi r.crew]] (some 5) (RV (.bool (rulesOk r))) (fun w hw => sRulesOk_c w r r_seats_a r_seats_c (hr_seats.fr hw.fr)) ?_))))))))))
 rintro ⟨⟩
 refine UU 1 [(6, B (!(rulesOk r)))] (NI (!(rulesOk r)) (fun bh1 => ?_) (fun bh1 => ?_))
 ·
  have h1 := notT bh1
  refine SEQ (RG (UU 1 [(2, I 0)] (ENDOPS (NEXT (RF rfl (vi 0) () [] ?_ ?_)))))
  · simp [RV, snapMost, *]
  · rfl
 ·
  have h1 := notF bh1
  refine SKIP (NEXT (SEQ (RG (UU 4 [(3, I (r.seats.length : Int))] (NR (UU 13 [(2, I (wr ((wr ((wr (24 + (wr (3 * (r.seats.length : Int))))) + (wr ((wr (17 * r.room)) * (r.seats.length : Int))))) + r.crew)))] (ENDOPS (NEXT (RF rfl (vi (wr ((wr ((wr (24 + (wr (3 * (r.seats.length : Int))))) + (wr ((wr (17 * r.room)) * (r.seats.length : Int))))) + r.crew))) () [] ?_ ?_)))))))))
  · simp [RV, snapMost, *]
  · rfl

theorem sSnapText_c (W : World) (ho : House) (ho_rules_seats_a : Option Addr) (ho_rules_seats_c : Nat) (hho_rules_seats : Rd intL W ho_rules_seats_a ho.rules.seats) (ho_parties_a : Option Addr) (ho_parties_c : Nat) (hho_parties : Rd partyL W ho_parties_a ho.parties) (ho_cabins_a : Option Addr) (ho_cabins_c : Nat) (hho_cabins : Rd (cabinLx 63 99 114) W ho_cabins_a ho.cabins) (ho_todo_a : Option Addr) (ho_todo_c : Nat) (hho_todo : Rd intL W ho_todo_a ho.todo) (ho_jobs_a : Option Addr) (ho_jobs_c : Nat) (hho_jobs : Rd intL W ho_jobs_a ho.jobs) (seq : Int) (hsz : HouseSz ho) (hcp : ho.parties.length ≤ ho_parties_c) (hct : ho.todo.length ≤ ho_todo_c) : Spec Tryz.prog W [] 16 #[.agg (hC ho ho_rules_seats_a ho_rules_seats_c ho_parties_a ho_parties_c ho_cabins_a ho_cabins_c ho_todo_a ho_todo_c ho_jobs_a ho_jobs_c).toArray, vi seq] (RV (.string (bs (snapText ho seq)))) := by
 refine ENTER0 (N := 26) (vs := [.agg (hC ho ho_rules_seats_a ho_rules_seats_c ho_parties_a ho_parties_c ho_cabins_a ho_cabins_c ho_todo_a ho_todo_c ho_jobs_a ho_jobs_c).toArray, vi seq]) Tryz.func16 rfl rfl (NL rfl) ?_
 have hs9 := hsz.1; have hs8 := hsz.2.1; have hs7 := hsz.2.2.1; have hs6 := hsz.2.2.2.1; have hs5 := hsz.2.2.2.2.1; have hs4 := hsz.2.2.2.2.2
 have hho_rules_seats_len := hho_rules_seats.len
 have hho_parties_len := hho_parties.len
 have hho_cabins_len := hho_cabins.len
 have hho_todo_len := hho_todo.len
 have hho_jobs_len := hho_jobs.len
 refine SEQ (RG (UL 2 [(2, .p 0 0)] [(30, (hC ho ho_rules_seats_a ho_rules_seats_c ho_parties_a ho_parties_c ho_cabins_a ho_cabins_c ho_todo_a ho_todo_c ho_jobs_a ho_jobs_c))] (ENDOPS (NEXT (SEQ (SEQ (RG (UU 1 [(6, .v (.agg (hC ho ho_rules_seats_a ho_rules_seats_c ho_parties_a ho_parties_c ho_cabins_a ho_cabins_c ho_todo_a ho_todo_c ho_jobs_a ho_jobs_c).toArray))] (OPC (CA 14 #[.agg (hC ho ho_rules_seats_a ho_rules_seats_c ho_parties_a ho_parties_c ho_cabins_a ho_cabins_c ho_todo_a ho_todo_c ho_jobs_a ho_jobs_c).toArray] (some 7) (RV (.bool (houseOk ho))) (fun w hw => sHouseOk_c w ho ho_rules_seats_a ho_rules_seats_c (hho_rules_seats.fr hw.fr) ho_parties_a ho_parties_c (hho_parties.fr hw.fr) ho_cabins_a ho_cabins_c (hho_cabins.fr hw.fr) ho_todo_a ho_todo_c (hho_todo.fr hw.fr) ho_jobs_a ho_jobs_c (hho_jobs.fr hw.fr) (by assumption) (by first | assumption | omega | (dsimp only; omega) | (simp only [List.length_append, List.length_cons, List.length_nil] at *; omega)) (by first | assumption | omega | (dsimp only; omega) | (simp only [List.length_append, List.length_cons, List.length_nil] at *; omega))) ?_))))))))))
 rintro ⟨⟩
 refine UU 2 [(9, B (!(houseOk ho)))] (SP 9 (!(houseOk ho)) (fun bh1 => ?_) (fun bh1 => ?_))
 ·
  have h1 := notT bh1
  have hno := h1
  refine UU 4 [(13, B true)] (ENDOPS (NEXT (IFT (by kernel_rfl) (SEQ (RG (UU 1 [(4, .v (.string (bs ([]))))] (ENDOPS (NEXT (RF rfl (.string (bs ([]))) () [] ?_ ?_)))))))))
  · (show Value.string _ = Value.string (bs (snapText ho seq)); congr 2; first | exact (snapText_no hno).symm | exact (snapText_no2 (by assumption)).symm | (rw [snapText_yes hok (by assumption)]; simp [snapWith, putNums_cons, four_nat]; done))
  · rfl
 ·
  have h1 := notF bh1
  have hok := h1
  refine UU 1 [(10, I seq)] (OPC (CA 37 #[vi seq, vi 0, vi 1000000] (some 11) (RV (.bool (inB seq 0 1000000))) (fun w hw => l1In_c w seq 0 1000000) ?_))
  rintro ⟨⟩
  refine UU 2 [(13, B (!(inB seq 0 1000000)))] (NI (!(inB seq 0 1000000)) (fun bh2 => ?_) (fun bh2 => ?_))
  ·
   have h2 := notT bh2
   refine SEQ (RG (UU 1 [(4, .v (.string (bs ([]))))] (ENDOPS (NEXT (RF rfl (.string (bs ([]))) () [] ?_ ?_)))))
   · (show Value.string _ = Value.string (bs (snapText ho seq)); congr 2; first | exact (snapText_no hno).symm | exact (snapText_no2 (by assumption)).symm | (rw [snapText_yes hok (by assumption)]; simp [snapWith, putNums_cons, four_nat]; done))
   · rfl
  ·
   have h2 := notF bh2
   refine SKIP (NEXT (SEQ (RG (UU 1 [(14, I seq)] (OPC (BUILDS 24 1 #[(0, .tmp 14)] 15 24 (by kernel_rfl) (NL rfl) 3 [vi seq] (by kernel_rfl) intL [seq] rfl (by simp only [maxLen]; omega) [] [] _ rfl (flatRep rfl) (fun a3 ha4 => (UU 1 [(16, .v (.agg (hC ho ho_rules_seats_a ho_rules_seats_c ho_parties_a ho_parties_c ho_cabins_a ho_cabins_c ho_todo_a ho_todo_c ho_jobs_a ho_jobs_c).toArray))] (OPC (CA 48 #[.agg (hC ho ho_rules_seats_a ho_rules_seats_c ho_parties_a ho_parties_c ho_cabins_a ho_cabins_c ho_todo_a ho_todo_c ho_jobs_a ho_jobs_c).toArray] (some 17) (⟨HH, fun p => .slice p.1 ((houseNums ho).length) p.2, fun p => [slA 3 intL (.slice p.1 (houseNums ho).length p.2) (houseNums ho)]⟩) (fun w hw => sHouseNums_c w ho ho_rules_seats_a ho_rules_seats_c (hho_rules_seats.fr hw.fr) ho_parties_a ho_parties_c (hho_parties.fr hw.fr) ho_cabins_a ho_cabins_c (hho_cabins.fr hw.fr) ho_todo_a ho_todo_c (hho_todo.fr hw.fr) ho_jobs_a ho_jobs_c (hho_jobs.fr hw.fr) (by assumption) (by first | assumption | omega | (dsimp only; omega) | (simp only [List.length_append, List.length_cons, List.length_nil] at *; omega)) (by first | assumption | omega | (dsimp only; omega) | (simp only [List.length_append, List.length_cons, List.length_nil] at *; omega))) ?_))))))))))
   rintro ⟨a5, c6⟩
   have hr7 := houseNums_sz ho
   refine OPC (APPENDR 24 (.tmp 15) (.tmp 17) 18 24 (by kernel_rfl) (NL rfl) (.slice a3 1 1) a5 ((houseNums ho).length) c6 (by kernel_rfl) (by kernel_rfl) 3 (by kernel_rfl) (vi 0) 8 (by kernel_rfl) rfl (by decide) 0 ([seq]) (houseNums ho) _ rfl rfl (fun w hw => (hw.rdO 1 rfl)) (by first | omega | (simp only [List.length_append, List.length_cons, List.length_nil, List.length_take, List.length_drop] at *; omega)) (by simp only [maxLen]; first | omega | (simp only [List.length_append, List.length_cons, List.length_nil, List.length_take, List.length_drop] at *; omega)) (fun a8 c9 hn10 => (OPC (CA 47 #[.slice a8 ((([seq]) ++ (houseNums ho)).length) c9] (some 19) (RV (.string (bs (putNums (([seq]) ++ (houseNums ho)))))) (fun w hw => sNums_c w (([seq]) ++ (houseNums ho)) a8 c9 (hw.rdO 1 rfl) (by simp only [List.length_cons, List.length_append, List.length_nil]; omega)) ?_))))
   rintro ⟨⟩
   have hr11 := putNums_len (([seq]) ++ (houseNums ho))
   refine UU 1 [(5, .v (.string (bs (putNums (([seq]) ++ (houseNums ho))))))] (NR (UU 1 [(20, .v (.string (bs (putNums (([seq]) ++ (houseNums ho))))))] (OPC (CONVB 9 22 (.tmp 20) 21 22 (by kernel_rfl) (NL rfl) (putNums (([seq]) ++ (houseNums ho))) (by kernel_rfl) 5 (by kernel_rfl) (by kernel_rfl) (by kernel_rfl) (by first | omega | (simp only [List.length_append, List.length_cons, List.length_nil, List.length_take, List.length_drop] at *; omega)) (fun a12 c13 ha14 => (OPC (CA 50 #[.slice a12 ((putNums (([seq]) ++ (houseNums ho))).length) c13] (some 22) (RV (vi ((crc (putNums (([seq]) ++ (houseNums ho))) : Nat) : Int))) (fun w hw => sCrc_c w (putNums (([seq]) ++ (houseNums ho))) a12 c13 (hw.rdO 2 rfl)) ?_)))))))
   rintro ⟨⟩
   refine OPC (CA 49 #[vi ((crc (putNums (([seq]) ++ (houseNums ho))) : Nat) : Int)] (some 23) (RV (.string (bs (four ((crc (putNums (([seq]) ++ (houseNums ho))) : Nat) : Int))))) (fun w hw => four_c w ((crc (putNums (([seq]) ++ (houseNums ho))) : Nat) : Int)) ?_)
   rintro ⟨⟩
   have hr15 := four_len ((crc (putNums (([seq]) ++ (houseNums ho))) : Nat) : Int)
   refine UU 1 [(24, .v (.string (bs (putNums (([seq]) ++ (houseNums ho))))))] (OPC (RUNV (.binOp .add 9 (.tmp 23) (.tmp 24) 9) 25 9 (by kernel_rfl) (NL rfl) (.string (bs ((four ((crc (putNums (([seq]) ++ (houseNums ho))) : Nat) : Int)) ++ (putNums (([seq]) ++ (houseNums ho)))))) (runs_scat (a := four ((crc (putNums (([seq]) ++ (houseNums ho))) : Nat) : Int)) (b := putNums (([seq]) ++ (houseNums ho))) (by kernel_rfl) (by kernel_rfl) (by first | omega | (simp only [List.length_append, List.length_cons, List.length_nil, List.length_take, List.length_drop] at *; omega))) (UU 1 [(4, .v (.string (bs ((four ((crc (putNums (([seq]) ++ (houseNums ho))) : Nat) : Int)) ++ (putNums (([seq]) ++ (houseNums ho)))))))] (ENDOPS (NEXT (RF rfl (.string (bs ((four ((crc (putNums (([seq]) ++ (houseNums ho))) : Nat) : Int)) ++ (putNums (([seq]) ++ (houseNums ho)))))) () [] ?_ ?_))))))
   · (show Value.string _ = Value.string (bs (snapText ho seq)); congr 2; first | exact (snapText_no hno).symm | exact (snapText_no2 (by assumption)).symm | (rw [snapText_yes hok (by assumption)]; simp [snapWith, putNums_cons, four_nat]; done))
   · rfl

end SX
end Go.Proofs.YtcbpmjfjdjpalaaGreat
