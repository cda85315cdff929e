/- Walks, printed by program. -/
import Derived.Test.YtpdijcbgdalphabGreatDoorMdl9
import Derived.Test.YtpdijcbgdalphabGreatDoorSxe
import Derived.Test.YtpdijcbgdalphabGreatDoorSxc
import Derived.Test.YtpdijcbgdalphabGreatDoorProg
namespace Go.Proofs.YtpdijcbgdalphabGreatDoor
namespace SX
open Go Go.RowKit
set_option linter.unusedVariables false
set_option linter.unusedSimpArgs false
set_option maxRecDepth 10000
set_option maxHeartbeats 400000
theorem l1In_c (W : World) (x : Int) (lo : Int) (hi : Int) : Spec Tryz.prog W [] 60 #[vi x, vi lo, vi hi] (RV (.bool (inB x lo hi))) := by
 refine ENTER0 (N := 15) (vs := [vi x, vi lo, vi hi]) Tryz.func60 rfl rfl (NL rfl) ?_
 refine SEQ (REGION [0] rfl (RUN0 1 [] [(0, I x), (1, I lo), (2, I hi)] ?_ rfl ?_))
 · as_aux_lemma => kernel_rfl
 refine ENDOPS (NEXT (SEQ (REGION [0, 1, 2, 3, 4, 5, 6, 7, 8] rfl (RUN0 4 [4, 5, 6, 7, 8] [(0, I x), (2, I hi), (10, B (decide (x ≥ lo)))] ?_ rfl ?_))))
 · as_aux_lemma => kernel_rfl
 refine SPLIT (d := 10) (decide (x ≥ lo)) ?_ (fun bh1 => ?_) (fun bh1 => ?_)
 · as_aux_lemma => kernel_rfl
 ·
  have h1 := bh1
  have h1 := of_decide_eq_true h1
  refine RUN0 5 [] [(6, B (decide (x ≤ hi)))] ?_ rfl ?_
  · as_aux_lemma => kernel_rfl
  refine ENDOPS (NEXT (RET (FIN (.bool (decide (x ≤ hi))) ?_ () ?_ [] ?_)))
  · as_aux_lemma => kernel_rfl
  · simp [RV, inB, *]
  · rfl
 ·
  have h1 := bh1
  have h1 := of_decide_eq_false h1
  refine RUN0 5 [] [(6, B false)] ?_ rfl ?_
  · as_aux_lemma => kernel_rfl
  refine ENDOPS (NEXT (RET (FIN (.bool false) ?_ () ?_ [] ?_)))
  · as_aux_lemma => kernel_rfl
  · simp [RV, inB, *]
  · rfl

theorem l1New_c (W : World) (code : List UInt8) (code_a : Option Addr) (code_c : Nat) (hcode : Rd byteL W code_a code) (lo : Nat) (hlo : lo ≤ W.heap.size) : Spec Tryz.prog W [] 17 #[.slice code_a code.length code_c] (⟨Value, fun p => p, fun p => [curA (⟨lo, 60, code_a, code.length, code_c⟩) p]⟩) := by
 refine ENTER0 (N := 32) (vs := [.slice code_a code.length code_c]) Tryz.func17 rfl rfl (NL rfl) ?_
 have hcode_len := hcode.len
 refine SEQ (REGION [0] rfl (RUN0 1 [] [(0, .v (.slice code_a code.length code_c))] ?_ rfl ?_))
 · as_aux_lemma => kernel_rfl
 refine ENDOPS (NEXT (SEQ (REGION [0, 1, 2, 3] rfl (RUN0 4 [] [(0, .v (.slice code_a code.length code_c)), (3, I (wr (28285 + (code.length : Int))))] ?_ rfl ?_))))
 · as_aux_lemma => kernel_rfl
 refine ENDOPS (NEXT (SEQ (SEQ (REGION [0] rfl (RUN0 1 [] [(0, .v (.slice code_a code.length code_c)), (3, I (wr (28285 + (code.length : Int)))), (4, I 0)] ?_ rfl ?_)))))
 · as_aux_lemma => kernel_rfl
 refine ENDOPS (NEXT (BLOCK (LOOP (ι := Nat × (List UInt8) × Int) (fun j => [(0, .v (.slice code_a code.length code_c)), (3, I j.2.2), (4, I (j.1 : Int))]) (fun j => []) (fun j => []) (fun j => j.1 + j.2.1.length = code.length ∧ code.drop j.1 = j.2.1 ∧ True) (fun j => j.2.1.length) (0, code, wr (28285 + (code.length : Int))) [0, 3, 4] ⟨by simp, rfl, trivial⟩ ?_ rfl rfl ?_)))
 · as_aux_lemma => kernel_rfl
 rintro ⟨k, ys, hh⟩ ⟨hk, hd, hv0⟩
 try dsimp only at hk hd hv0
 refine SEQ (SEQ (REGION [0, 1, 2, 3, 4, 5, 6, 7] rfl (RUN0 5 [5, 6, 7] [(0, .v (.slice code_a code.length code_c)), (3, I hh), (4, I (k : Int)), (12, B (decide ((k : Int) < (code.length : Int))))] ?_ rfl ?_)))
 · as_aux_lemma => kernel_rfl
 refine SPLIT (d := 12) (decide ((k : Int) < (code.length : Int))) ?_ (fun bh1 => ?_) (fun bh1 => ?_)
 · as_aux_lemma => kernel_rfl
 ·
  have h1 := bh1
  have h1 := of_decide_eq_true h1
  obtain ⟨y2, ys3, rfl, hx_y2, hd_y2, hl_y2⟩ := drop_cons hd hk (by omega)
  have := UInt8.toNat_lt y2
  refine RUN0 3 [] [(0, .v (.slice code_a code.length code_c)), (3, I hh), (4, I (k : Int)), (15, B (decide ((k : Int) < 4000)))] ?_ rfl ?_
  · as_aux_lemma => kernel_rfl
  refine ENDOPS (NEXT (IF (decide ((k : Int) < 4000)) ?_ (fun bh4 => ?_) (fun bh4 => ?_)))
  · as_aux_lemma => kernel_rfl
  ·
   have h4 := bh4
   have h4 := of_decide_eq_true h4
   refine SKIP (NEXT (SEQ (BLOCK (REGION [0, 1, 2, 3, 4, 5, 6, 7, 8, 9, 10] rfl (RUN0 4 [4, 5, 6, 7, 8, 9, 10] [(0, .v (.slice code_a code.length code_c)), (4, I (k : Int)), (19, I (wr (hh * 131))), (20, .v (.slice code_a code.length code_c)), (21, I (k : Int))] ?_ rfl ?_)))))
   · as_aux_lemma => kernel_rfl
   refine OPC (INDEX 22 (.tmp 20) (.tmp 21) 22 0 ?_ (NL rfl) code_a code.length code_c .i64 (k : Int) 5 1 ?_ ?_ ?_ ?_ (Rd.some hcode (by omega)) (by omega) (by omega) ?_)
   iterate 5 (as_aux_lemma => kernel_rfl)
   refine OPC (LOADE 5 (.tmp 22) 23 5 ?_ (NL rfl) code_a (k * 1) 0 [.int .u8 (y2.toNat : Int)] (.int .u8 (y2.toNat : Int)) ?_ (fun w hw => (hcode.fr hw.fr).flat hx_y2) ?_ ?_)
   iterate 3 (as_aux_lemma => kernel_rfl)
   refine RUN0 1 [7, 8, 9, 10] [(0, .v (.slice code_a code.length code_c)), (4, I (k : Int)), (19, I (wr (hh * 131))), (24, I (IntKind.wrap .i64 (y2.toNat : Int)))] ?_ rfl ?_
   · as_aux_lemma => kernel_rfl
   refine CAST (d := 24) (vi (IntKind.wrap .i64 (y2.toNat : Int))) (vi (y2.toNat : Int)) ?_ (vi_u8 y2) ?_
   · as_aux_lemma => kernel_rfl
   refine RUN0 4 [] [(0, .v (.slice code_a code.length code_c)), (3, I (wr (((BitVec.ofInt 64 (wr ((wr ((wr (hh * 131)) + (y2.toNat : Int))) + 7)) &&& BitVec.ofInt 64 1073741823).toNat : Int)))), (4, I (k : Int))] ?_ rfl ?_
   · as_aux_lemma => kernel_rfl
   refine ENDOPS (OUTN (NEXT (REGION [0, 1, 2] rfl (RUN0 2 [2] [(0, .v (.slice code_a code.length code_c)), (3, I (wr (((BitVec.ofInt 64 (wr ((wr ((wr (hh * 131)) + (y2.toNat : Int))) + 7)) &&& BitVec.ofInt 64 1073741823).toNat : Int)))), (17, I (wr ((k : Int) + 1)))] ?_ rfl ?_))))
   · as_aux_lemma => kernel_rfl
   refine CAST (d := 17) (vi (wr ((k : Int) + 1))) (vi ((k + 1 : Nat) : Int)) ?_ (vi_cast (by omega) (by omega)) ?_
   · as_aux_lemma => kernel_rfl
   refine RUN0 1 [] [(0, .v (.slice code_a code.length code_c)), (3, I (wr (((BitVec.ofInt 64 (wr ((wr ((wr (hh * 131)) + (y2.toNat : Int))) + 7)) &&& BitVec.ofInt 64 1073741823).toNat : Int)))), (4, I ((k + 1 : Nat) : Int))] ?_ rfl ?_
   · as_aux_lemma => kernel_rfl
   refine ENDOPS (BACK (k + 1, ys3, wr (((BitVec.ofInt 64 (wr ((wr ((wr (hh * 131)) + (y2.toNat : Int))) + 7)) &&& BitVec.ofInt 64 1073741823).toNat : Int))) [0, 3, 4] 0 [] _ ⟨hl_y2, hd_y2, trivial⟩ (by simp) ?_ rfl rfl rfl)
   · as_aux_lemma => kernel_rfl
  ·
   have h4 := bh4
   have h4 := of_decide_eq_false h4
   refine EXIT (PASS trivial (PASS trivial (OUT (NEXT (SEQ (REGION [0, 1, 2, 3, 4] rfl (RUN 5 [] [(2, .p 0 0)] [(60, [.slice code_a code.length code_c, vi 0, vi hh])] ?_ rfl ?_)))))))
   · as_aux_lemma => kernel_rfl
   refine ENDOPS (NEXT (RET (BOXOUT 2 (by rfl) (fun b hnb => ?_))))
   refine CLOSECUR (d := ⟨lo, 60, code_a, code.length, code_c⟩) (b := b) (i := 0) (h := hh) 0 _ rfl (by omega) (by dsimp only; omega) ?_
   refine FIN ((.pointer (some ⟨b, 0, none⟩))) ?_ (.pointer (some ⟨b, 0, none⟩)) ?_ [0] ?_
   · as_aux_lemma => kernel_rfl
   · rfl
   · rfl
 ·
  have h1 := bh1
  have h1 := of_decide_eq_false h1
  obtain rfl := drop_nil hk (by omega)
  refine RUN0 3 [] [(0, .v (.slice code_a code.length code_c)), (3, I hh), (4, I (k : Int)), (15, B false)] ?_ rfl ?_
  · as_aux_lemma => kernel_rfl
  refine ENDOPS (NEXT (IFF ?_ ?_))
  · as_aux_lemma => kernel_rfl
  refine EXIT (PASS trivial (PASS trivial (OUT (NEXT (SEQ (REGION [0, 1, 2, 3, 4] rfl (RUN 5 [] [(2, .p 0 0)] [(60, [.slice code_a code.length code_c, vi 0, vi hh])] ?_ rfl ?_)))))))
  · as_aux_lemma => kernel_rfl
  refine ENDOPS (NEXT (RET (BOXOUT 2 (by rfl) (fun b hnb => ?_))))
  refine CLOSECUR (d := ⟨lo, 60, code_a, code.length, code_c⟩) (b := b) (i := 0) (h := hh) 0 _ rfl (by omega) (by dsimp only; omega) ?_
  refine FIN ((.pointer (some ⟨b, 0, none⟩))) ?_ (.pointer (some ⟨b, 0, none⟩)) ?_ [0] ?_
  · as_aux_lemma => kernel_rfl
  · rfl
  · rfl

theorem l1Byte_c (W : World) (d : Cd) (hd : CodeOk W d) (p : Value) : Spec Tryz.prog W [curA d p] 54 #[p] (⟨{x : Int // 0 ≤ x ∧ x < 256}, fun q => vi q.1, fun q => [curA (d) p]⟩) := by
 refine ENTERC (N := 58) (vs := [p]) Tryz.func54 rfl rfl (NL rfl) (fun S0 hS hP => ?_)
 obtain ⟨xs, hxn, hx⟩ := hd
 have hxl := Rd.len hx.rd0
 refine OPENCUR 0 _ rfl (fun b ci ch hpe hci hlo => ?_)
 subst hpe
 obtain ⟨cn, rfl⟩ : ∃ n : Nat, ci = n := ⟨ci.toNat, by omega⟩
 refine ASE (d := 0) rfl ?_
 refine SEQ (REGION [0] rfl (RUN0 1 [] [(0, .e (some ⟨b, 0, none⟩) 0 0)] ?_ rfl ?_))
 · as_aux_lemma => kernel_rfl
 refine ENDOPS (NEXT (SEQ (REGION [0, 1, 2, 3, 4, 5, 6, 7, 8, 9] rfl (RUN0 4 [4, 5, 6, 7, 8, 9] [(0, .e (some ⟨b, 0, none⟩) 0 0), (4, .e (some ⟨b, 0, none⟩) 0 0), (7, .e (some ⟨b, 0, none⟩) 0 2)] ?_ rfl ?_))))
 · as_aux_lemma => kernel_rfl
 refine OPC (LOADE 3 (.tmp 7) 8 3 ?_ (NL rfl) (some ⟨b, 0, none⟩) 0 2 [.slice d.a d.n d.c, vi (cn : Int), vi ch] (vi ch) ?_ (fun w hw => ptC_elem (hw.own 0 rfl)) ?_ ?_)
 iterate 3 (as_aux_lemma => kernel_rfl)
 refine RUN0 4 [9] [(0, .e (some ⟨b, 0, none⟩) 0 0), (10, I (wr ((wr (ch * 6364136223846793005)) + 1442695040888963407))), (12, .e (some ⟨b, 0, none⟩) 0 2)] ?_ rfl ?_
 · as_aux_lemma => kernel_rfl
 refine OPC (STOREC 3 (.tmp 12) (.tmp 10) 0 ?_ 0 _ b 2 d.t [.slice d.a d.n d.c, vi (cn : Int), vi ch] [.slice d.a d.n d.c, vi (cn : Int), vi (wr ((wr (ch * 6364136223846793005)) + 1442695040888963407))] rfl (vi (wr ((wr (ch * 6364136223846793005)) + 1442695040888963407))) ?_ ?_ ?_ ?_)
 iterate 4 (as_aux_lemma => kernel_rfl)
 refine ENDOPS (NEXT (SEQ (REGIONQ ?_ ?_ ?_)))
 iterate 2 (as_aux_lemma => kernel_rfl)
 refine QRUN 3 0 3 [(0, .e (some ⟨b, 0, none⟩) 0 0), (15, .e (some ⟨b, 0, none⟩) 0 2)] ?_ rfl ?_
 · as_aux_lemma => kernel_rfl
 refine QLOADE 3 (.tmp 15) 16 3 ?_ (NL rfl) (some ⟨b, 0, none⟩) 0 2 [.slice d.a d.n d.c, vi (cn : Int), vi (wr ((wr (ch * 6364136223846793005)) + 1442695040888963407))] (vi (wr ((wr (ch * 6364136223846793005)) + 1442695040888963407))) ?_ (fun w hw => ptC_elem (hw.own 0 rfl)) ?_ ?_
 iterate 3 (as_aux_lemma => kernel_rfl)
 refine QRUN 4 4 8 [(0, .e (some ⟨b, 0, none⟩) 0 0), (17, I (Int.fdiv (wr ((wr (ch * 6364136223846793005)) + 1442695040888963407)) (2 ^ 33))), (20, .e (some ⟨b, 0, none⟩) 0 2)] ?_ rfl ?_
 · as_aux_lemma => kernel_rfl
 refine QLOADE 3 (.tmp 20) 21 3 ?_ (NL rfl) (some ⟨b, 0, none⟩) 0 2 [.slice d.a d.n d.c, vi (cn : Int), vi (wr ((wr (ch * 6364136223846793005)) + 1442695040888963407))] (vi (wr ((wr (ch * 6364136223846793005)) + 1442695040888963407))) ?_ (fun w hw => ptC_elem (hw.own 0 rfl)) ?_ ?_
 iterate 3 (as_aux_lemma => kernel_rfl)
 refine QRUN 4 9 13 [(0, .e (some ⟨b, 0, none⟩) 0 0), (3, I (wr (((BitVec.ofInt 64 (wr (((BitVec.ofInt 64 (Int.fdiv (wr ((wr (ch * 6364136223846793005)) + 1442695040888963407)) (2 ^ 33)) ^^^ BitVec.ofInt 64 (Int.fdiv (wr ((wr (ch * 6364136223846793005)) + 1442695040888963407)) (2 ^ 45))).toNat : Int))) &&& BitVec.ofInt 64 255).toNat : Int))))] ?_ rfl ?_
 · as_aux_lemma => kernel_rfl
 refine QEND rfl (NEXT (SEQ (SEQ (REGIONQ ?_ ?_ ?_))))
 iterate 2 (as_aux_lemma => kernel_rfl)
 refine QRUN 3 0 3 [(0, .e (some ⟨b, 0, none⟩) 0 0), (3, I (wr (((BitVec.ofInt 64 (wr (((BitVec.ofInt 64 (Int.fdiv (wr ((wr (ch * 6364136223846793005)) + 1442695040888963407)) (2 ^ 33)) ^^^ BitVec.ofInt 64 (Int.fdiv (wr ((wr (ch * 6364136223846793005)) + 1442695040888963407)) (2 ^ 45))).toNat : Int))) &&& BitVec.ofInt 64 255).toNat : Int)))), (27, .e (some ⟨b, 0, none⟩) 0 1)] ?_ rfl ?_
 · as_aux_lemma => kernel_rfl
 refine QLOADE 3 (.tmp 27) 28 3 ?_ (NL rfl) (some ⟨b, 0, none⟩) 0 1 [.slice d.a d.n d.c, vi (cn : Int), vi (wr ((wr (ch * 6364136223846793005)) + 1442695040888963407))] (vi (cn : Int)) ?_ (fun w hw => ptC_elem (hw.own 0 rfl)) ?_ ?_
 iterate 3 (as_aux_lemma => kernel_rfl)
 refine QRUN 3 4 7 [(0, .e (some ⟨b, 0, none⟩) 0 0), (3, I (wr (((BitVec.ofInt 64 (wr (((BitVec.ofInt 64 (Int.fdiv (wr ((wr (ch * 6364136223846793005)) + 1442695040888963407)) (2 ^ 33)) ^^^ BitVec.ofInt 64 (Int.fdiv (wr ((wr (ch * 6364136223846793005)) + 1442695040888963407)) (2 ^ 45))).toNat : Int))) &&& BitVec.ofInt 64 255).toNat : Int)))), (28, I (cn : Int)), (31, .e (some ⟨b, 0, none⟩) 0 0)] ?_ rfl ?_
 · as_aux_lemma => kernel_rfl
 refine QLOADE 22 (.tmp 31) 32 22 ?_ (NL rfl) (some ⟨b, 0, none⟩) 0 0 [.slice d.a d.n d.c, vi (cn : Int), vi (wr ((wr (ch * 6364136223846793005)) + 1442695040888963407))] (.slice d.a d.n d.c) ?_ (fun w hw => ptC_elem (hw.own 0 rfl)) ?_ ?_
 iterate 3 (as_aux_lemma => kernel_rfl)
 refine QRUN 2 8 10 [(0, .e (some ⟨b, 0, none⟩) 0 0), (3, I (wr (((BitVec.ofInt 64 (wr (((BitVec.ofInt 64 (Int.fdiv (wr ((wr (ch * 6364136223846793005)) + 1442695040888963407)) (2 ^ 33)) ^^^ BitVec.ofInt 64 (Int.fdiv (wr ((wr (ch * 6364136223846793005)) + 1442695040888963407)) (2 ^ 45))).toNat : Int))) &&& BitVec.ofInt 64 255).toNat : Int)))), (34, B (decide ((cn : Int) < (d.n : Int))))] ?_ rfl ?_
 · as_aux_lemma => kernel_rfl
 refine QEND rfl (NEXT (IF (decide ((cn : Int) < (d.n : Int))) ?_ (fun bh1 => ?_) (fun bh1 => ?_)))
 · as_aux_lemma => kernel_rfl
 ·
  have h1 := bh1
  have h1 := of_decide_eq_true h1
  refine SEQ (REGIONQ ?_ ?_ ?_)
  iterate 2 (as_aux_lemma => kernel_rfl)
  refine QRUN 4 0 4 [(0, .e (some ⟨b, 0, none⟩) 0 0), (35, I (wr (((BitVec.ofInt 64 (wr (((BitVec.ofInt 64 (Int.fdiv (wr ((wr (ch * 6364136223846793005)) + 1442695040888963407)) (2 ^ 33)) ^^^ BitVec.ofInt 64 (Int.fdiv (wr ((wr (ch * 6364136223846793005)) + 1442695040888963407)) (2 ^ 45))).toNat : Int))) &&& BitVec.ofInt 64 255).toNat : Int)))), (38, .e (some ⟨b, 0, none⟩) 0 0)] ?_ rfl ?_
  · as_aux_lemma => kernel_rfl
  refine QLOADE 22 (.tmp 38) 39 22 ?_ (NL rfl) (some ⟨b, 0, none⟩) 0 0 [.slice d.a d.n d.c, vi (cn : Int), vi (wr ((wr (ch * 6364136223846793005)) + 1442695040888963407))] (.slice d.a d.n d.c) ?_ (fun w hw => ptC_elem (hw.own 0 rfl)) ?_ ?_
  iterate 3 (as_aux_lemma => kernel_rfl)
  refine QRUN 3 5 8 [(0, .e (some ⟨b, 0, none⟩) 0 0), (35, I (wr (((BitVec.ofInt 64 (wr (((BitVec.ofInt 64 (Int.fdiv (wr ((wr (ch * 6364136223846793005)) + 1442695040888963407)) (2 ^ 33)) ^^^ BitVec.ofInt 64 (Int.fdiv (wr ((wr (ch * 6364136223846793005)) + 1442695040888963407)) (2 ^ 45))).toNat : Int))) &&& BitVec.ofInt 64 255).toNat : Int)))), (39, .v (.slice d.a d.n d.c)), (42, .e (some ⟨b, 0, none⟩) 0 1)] ?_ rfl ?_
  · as_aux_lemma => kernel_rfl
  refine QLOADE 3 (.tmp 42) 43 3 ?_ (NL rfl) (some ⟨b, 0, none⟩) 0 1 [.slice d.a d.n d.c, vi (cn : Int), vi (wr ((wr (ch * 6364136223846793005)) + 1442695040888963407))] (vi (cn : Int)) ?_ (fun w hw => ptC_elem (hw.own 0 rfl)) ?_ ?_
  iterate 3 (as_aux_lemma => kernel_rfl)
  obtain ⟨x2, hx3⟩ : ∃ y, xs[cn]? = some y := ⟨_, List.getElem?_eq_getElem (by omega)⟩
  refine QINDEX 22 (.tmp 39) (.tmp 43) 44 0 ?_ (NL rfl) d.a d.n d.c .i64 (cn : Int) 5 1 ?_ ?_ ?_ ?_ (Rd.some hx.rd0 (by omega)) (by omega) (by omega) ?_
  iterate 5 (as_aux_lemma => kernel_rfl)
  refine QLOADE 5 (.tmp 44) 45 5 ?_ (NL rfl) d.a (cn * 1) 0 [.int .u8 (x2.toNat : Int)] (.int .u8 (x2.toNat : Int)) ?_ (fun w hw => (hx.rd hw.fr hS).flat hx3) ?_ ?_
  iterate 3 (as_aux_lemma => kernel_rfl)
  refine QRUN 1 11 12 [(0, .e (some ⟨b, 0, none⟩) 0 0), (35, I (wr (((BitVec.ofInt 64 (wr (((BitVec.ofInt 64 (Int.fdiv (wr ((wr (ch * 6364136223846793005)) + 1442695040888963407)) (2 ^ 33)) ^^^ BitVec.ofInt 64 (Int.fdiv (wr ((wr (ch * 6364136223846793005)) + 1442695040888963407)) (2 ^ 45))).toNat : Int))) &&& BitVec.ofInt 64 255).toNat : Int)))), (46, I (IntKind.wrap .i64 (x2.toNat : Int)))] ?_ rfl ?_
  · as_aux_lemma => kernel_rfl
  refine QCAST (d := 46) (vi (IntKind.wrap .i64 (x2.toNat : Int))) (vi (x2.toNat : Int)) ?_ (vi_u8 x2) ?_
  · as_aux_lemma => kernel_rfl
  refine QRUN 3 12 15 [(0, .e (some ⟨b, 0, none⟩) 0 0), (3, I (wr (((BitVec.ofInt 64 (wr ((wr (((BitVec.ofInt 64 (wr (((BitVec.ofInt 64 (Int.fdiv (wr ((wr (ch * 6364136223846793005)) + 1442695040888963407)) (2 ^ 33)) ^^^ BitVec.ofInt 64 (Int.fdiv (wr ((wr (ch * 6364136223846793005)) + 1442695040888963407)) (2 ^ 45))).toNat : Int))) &&& BitVec.ofInt 64 255).toNat : Int))) + (x2.toNat : Int))) &&& BitVec.ofInt 64 255).toNat : Int))))] ?_ rfl ?_
  · as_aux_lemma => kernel_rfl
  refine QEND rfl (NEXT (REGION [0, 1, 2, 3, 4, 5, 6, 7, 8] rfl (RUN0 4 [4, 5, 6, 7, 8] [(3, I (wr (((BitVec.ofInt 64 (wr ((wr (((BitVec.ofInt 64 (wr (((BitVec.ofInt 64 (Int.fdiv (wr ((wr (ch * 6364136223846793005)) + 1442695040888963407)) (2 ^ 33)) ^^^ BitVec.ofInt 64 (Int.fdiv (wr ((wr (ch * 6364136223846793005)) + 1442695040888963407)) (2 ^ 45))).toNat : Int))) &&& BitVec.ofInt 64 255).toNat : Int))) + (x2.toNat : Int))) &&& BitVec.ofInt 64 255).toNat : Int)))), (49, .e (some ⟨b, 0, none⟩) 0 0), (52, .e (some ⟨b, 0, none⟩) 0 1)] ?_ rfl ?_)))
  · as_aux_lemma => kernel_rfl
  refine OPC (LOADE 3 (.tmp 52) 53 3 ?_ (NL rfl) (some ⟨b, 0, none⟩) 0 1 [.slice d.a d.n d.c, vi (cn : Int), vi (wr ((wr (ch * 6364136223846793005)) + 1442695040888963407))] (vi (cn : Int)) ?_ (fun w hw => ptC_elem (hw.own 0 rfl)) ?_ ?_)
  iterate 3 (as_aux_lemma => kernel_rfl)
  refine RUN0 1 [6, 7, 8] [(3, I (wr (((BitVec.ofInt 64 (wr ((wr (((BitVec.ofInt 64 (wr (((BitVec.ofInt 64 (Int.fdiv (wr ((wr (ch * 6364136223846793005)) + 1442695040888963407)) (2 ^ 33)) ^^^ BitVec.ofInt 64 (Int.fdiv (wr ((wr (ch * 6364136223846793005)) + 1442695040888963407)) (2 ^ 45))).toNat : Int))) &&& BitVec.ofInt 64 255).toNat : Int))) + (x2.toNat : Int))) &&& BitVec.ofInt 64 255).toNat : Int)))), (49, .e (some ⟨b, 0, none⟩) 0 0), (54, I (wr ((cn : Int) + 1)))] ?_ rfl ?_
  · as_aux_lemma => kernel_rfl
  refine CAST (d := 54) (vi (wr ((cn : Int) + 1))) (vi ((cn + 1 : Nat) : Int)) ?_ (vi_cast (by omega) (by omega)) ?_
  · as_aux_lemma => kernel_rfl
  refine RUN0 2 [8] [(3, I (wr (((BitVec.ofInt 64 (wr ((wr (((BitVec.ofInt 64 (wr (((BitVec.ofInt 64 (Int.fdiv (wr ((wr (ch * 6364136223846793005)) + 1442695040888963407)) (2 ^ 33)) ^^^ BitVec.ofInt 64 (Int.fdiv (wr ((wr (ch * 6364136223846793005)) + 1442695040888963407)) (2 ^ 45))).toNat : Int))) &&& BitVec.ofInt 64 255).toNat : Int))) + (x2.toNat : Int))) &&& BitVec.ofInt 64 255).toNat : Int)))), (54, I ((cn + 1 : Nat) : Int)), (56, .e (some ⟨b, 0, none⟩) 0 1)] ?_ rfl ?_
  · as_aux_lemma => kernel_rfl
  refine OPC (STOREC 3 (.tmp 56) (.tmp 54) 0 ?_ 0 _ b 1 d.t [.slice d.a d.n d.c, vi (cn : Int), vi (wr ((wr (ch * 6364136223846793005)) + 1442695040888963407))] [.slice d.a d.n d.c, vi ((cn + 1 : Nat) : Int), vi (wr ((wr (ch * 6364136223846793005)) + 1442695040888963407))] rfl (vi ((cn + 1 : Nat) : Int)) ?_ ?_ ?_ ?_)
  iterate 4 (as_aux_lemma => kernel_rfl)
  refine ENDOPS (NEXT (SEQ (REGION [0, 1] rfl (RUN0 2 [] [(2, I (wr (((BitVec.ofInt 64 (wr ((wr (((BitVec.ofInt 64 (wr (((BitVec.ofInt 64 (Int.fdiv (wr ((wr (ch * 6364136223846793005)) + 1442695040888963407)) (2 ^ 33)) ^^^ BitVec.ofInt 64 (Int.fdiv (wr ((wr (ch * 6364136223846793005)) + 1442695040888963407)) (2 ^ 45))).toNat : Int))) &&& BitVec.ofInt 64 255).toNat : Int))) + (x2.toNat : Int))) &&& BitVec.ofInt 64 255).toNat : Int))))] ?_ rfl ?_))))
  · as_aux_lemma => kernel_rfl
  refine ENDOPS (NEXT (RET (CLOSECUR (i := ((cn + 1 : Nat) : Int)) (h := wr ((wr (ch * 6364136223846793005)) + 1442695040888963407)) 0 _ rfl (by omega) hlo ?_)))
  refine FIN (vi (wr (((BitVec.ofInt 64 (wr ((wr (((BitVec.ofInt 64 (wr (((BitVec.ofInt 64 (Int.fdiv (wr ((wr (ch * 6364136223846793005)) + 1442695040888963407)) (2 ^ 33)) ^^^ BitVec.ofInt 64 (Int.fdiv (wr ((wr (ch * 6364136223846793005)) + 1442695040888963407)) (2 ^ 45))).toNat : Int))) &&& BitVec.ofInt 64 255).toNat : Int))) + (x2.toNat : Int))) &&& BitVec.ofInt 64 255).toNat : Int)))) ?_ ⟨wr (((BitVec.ofInt 64 (wr ((wr (((BitVec.ofInt 64 (wr (((BitVec.ofInt 64 (Int.fdiv (wr ((wr (ch * 6364136223846793005)) + 1442695040888963407)) (2 ^ 33)) ^^^ BitVec.ofInt 64 (Int.fdiv (wr ((wr (ch * 6364136223846793005)) + 1442695040888963407)) (2 ^ 45))).toNat : Int))) &&& BitVec.ofInt 64 255).toNat : Int))) + (x2.toNat : Int))) &&& BitVec.ofInt 64 255).toNat : Int)), and255 _⟩ ?_ [0] ?_
  · as_aux_lemma => kernel_rfl
  · rfl
  · rfl
 ·
  have h1 := bh1
  have h1 := of_decide_eq_false h1
  refine SKIP (NEXT (SEQ (REGION [0, 1] rfl (RUN0 2 [] [(2, I (wr (((BitVec.ofInt 64 (wr (((BitVec.ofInt 64 (Int.fdiv (wr ((wr (ch * 6364136223846793005)) + 1442695040888963407)) (2 ^ 33)) ^^^ BitVec.ofInt 64 (Int.fdiv (wr ((wr (ch * 6364136223846793005)) + 1442695040888963407)) (2 ^ 45))).toNat : Int))) &&& BitVec.ofInt 64 255).toNat : Int))))] ?_ rfl ?_))))
  · as_aux_lemma => kernel_rfl
  refine ENDOPS (NEXT (RET (CLOSECUR (i := (cn : Int)) (h := wr ((wr (ch * 6364136223846793005)) + 1442695040888963407)) 0 _ rfl (by omega) hlo ?_)))
  refine FIN (vi (wr (((BitVec.ofInt 64 (wr (((BitVec.ofInt 64 (Int.fdiv (wr ((wr (ch * 6364136223846793005)) + 1442695040888963407)) (2 ^ 33)) ^^^ BitVec.ofInt 64 (Int.fdiv (wr ((wr (ch * 6364136223846793005)) + 1442695040888963407)) (2 ^ 45))).toNat : Int))) &&& BitVec.ofInt 64 255).toNat : Int)))) ?_ ⟨wr (((BitVec.ofInt 64 (wr (((BitVec.ofInt 64 (Int.fdiv (wr ((wr (ch * 6364136223846793005)) + 1442695040888963407)) (2 ^ 33)) ^^^ BitVec.ofInt 64 (Int.fdiv (wr ((wr (ch * 6364136223846793005)) + 1442695040888963407)) (2 ^ 45))).toNat : Int))) &&& BitVec.ofInt 64 255).toNat : Int)), and255 _⟩ ?_ [0] ?_
  · as_aux_lemma => kernel_rfl
  · rfl
  · rfl

theorem l1Below_c (W : World) (d : Cd) (hd : CodeOk W d) (p : Value) (n : Int) : Spec Tryz.prog W [curA d p] 29 #[p, vi n] (⟨{x : Int // 0 ≤ x ∧ (n ≤ 0 → x = 0) ∧ (0 < n → x < n)}, fun q => vi q.1, fun q => [curA (d) p]⟩) := by
 refine ENTERC (N := 37) (vs := [p, vi n]) Tryz.func29 rfl rfl (NL rfl) (fun S0 hS hP => ?_)
 refine SEQ (REGION [0] rfl (RUN0 1 [] [(0, .v (p)), (1, I n)] ?_ rfl ?_))
 · as_aux_lemma => kernel_rfl
 refine ENDOPS (NEXT (SEQ (SEQ (REGION [0, 1] rfl (RUN0 2 [] [(0, .v (p)), (1, I n), (10, B (decide (n ≤ 0)))] ?_ rfl ?_)))))
 · as_aux_lemma => kernel_rfl
 refine ENDOPS (NEXT (IF (decide (n ≤ 0)) ?_ (fun bh1 => ?_) (fun bh1 => ?_)))
 · as_aux_lemma => kernel_rfl
 ·
  have h1 := bh1
  have h1 := of_decide_eq_true h1
  refine SEQ (REGION [0] rfl (RUN0 1 [] [(4, I 0)] ?_ rfl ?_))
  · as_aux_lemma => kernel_rfl
  refine ENDOPS (NEXT (RET (PASS trivial (FIN (vi 0) ?_ ⟨0, (by omega)⟩ ?_ [0] ?_))))
  · as_aux_lemma => kernel_rfl
  · rfl
  · rfl
 ·
  have h1 := bh1
  have h1 := of_decide_eq_false h1
  refine SKIP (NEXT (SEQ (SEQ (REGION [0, 1] rfl (RUN0 2 [] [(0, .v (p)), (1, I n), (12, B (decide (n ≤ 256)))] ?_ rfl ?_)))))
  · as_aux_lemma => kernel_rfl
  refine ENDOPS (NEXT (IF (decide (n ≤ 256)) ?_ (fun bh2 => ?_) (fun bh2 => ?_)))
  · as_aux_lemma => kernel_rfl
  ·
   have h2 := bh2
   have h2 := of_decide_eq_true h2
   refine SEQ (REGION [0, 1, 2, 3, 4] rfl (RUN0 1 [1, 2, 3, 4] [(1, I n), (13, .v (p))] ?_ rfl ?_))
   · as_aux_lemma => kernel_rfl
   refine OPC (CALL 54 #[p] (some 14) ?_ [0] [curA (d) p] _ rfl (⟨{x : Int // 0 ≤ x ∧ x < 256}, fun q => vi q.1, fun q => [curA (d) p]⟩) (fun w hw => l1Byte_c w (d) (hd.fr hw.fr hS) p) (NO rfl) ?_)
   · as_aux_lemma => kernel_rfl
   rintro ⟨m3, hm4⟩
   try dsimp only at hm4
   refine RUN0 1 [3, 4] [(14, I m3), (15, I n)] ?_ rfl ?_
   · as_aux_lemma => kernel_rfl
   refine OPC (RUNV (.binOp .rem 3 (.tmp 14) (.tmp 15) 3) 16 3 ?_ (NL rfl) (vi (Int.tmod m3 n)) (runs_rem (a := m3) (b := n) ?_ ?_ (by omega)) ?_)
   iterate 3 (as_aux_lemma => kernel_rfl)
   refine RUN0 1 [] [(4, I (Int.tmod m3 n))] ?_ rfl ?_
   · as_aux_lemma => kernel_rfl
   refine ENDOPS (NEXT (RET (PASS trivial (FIN (vi (Int.tmod m3 n)) ?_ ⟨Int.tmod m3 n, (by first | exact tmod_rng (by omega) (by omega) | exact tmod_rng (four_bytes (by assumption) (by assumption) (by assumption) (by assumption)) (by omega))⟩ ?_ [0] ?_))))
   · as_aux_lemma => kernel_rfl
   · rfl
   · rfl
  ·
   have h2 := bh2
   have h2 := of_decide_eq_false h2
   refine SKIP (NEXT (SEQ (REGION [0, 1, 2] rfl (RUN0 1 [1, 2] [(0, .v (p)), (1, I n), (17, .v (p))] ?_ rfl ?_))))
   · as_aux_lemma => kernel_rfl
   refine OPC (CALL 54 #[p] (some 18) ?_ [0] [curA (d) p] _ rfl (⟨{x : Int // 0 ≤ x ∧ x < 256}, fun q => vi q.1, fun q => [curA (d) p]⟩) (fun w hw => l1Byte_c w (d) (hd.fr hw.fr hS) p) (NO rfl) ?_)
   · as_aux_lemma => kernel_rfl
   rintro ⟨m5, hm6⟩
   try dsimp only at hm6
   refine RUN0 1 [] [(0, .v (p)), (1, I n), (5, I m5)] ?_ rfl ?_
   · as_aux_lemma => kernel_rfl
   refine ENDOPS (NEXT (SEQ (REGION [0, 1, 2] rfl (RUN0 1 [1, 2] [(0, .v (p)), (1, I n), (5, I m5), (19, .v (p))] ?_ rfl ?_))))
   · as_aux_lemma => kernel_rfl
   refine OPC (CALL 54 #[p] (some 20) ?_ [0] [curA (d) p] _ rfl (⟨{x : Int // 0 ≤ x ∧ x < 256}, fun q => vi q.1, fun q => [curA (d) p]⟩) (fun w hw => l1Byte_c w (d) (hd.fr hw.fr hS) p) (NO rfl) ?_)
   · as_aux_lemma => kernel_rfl
   rintro ⟨m7, hm8⟩
   try dsimp only at hm8
   refine RUN0 1 [] [(0, .v (p)), (1, I n), (5, I m5), (6, I m7)] ?_ rfl ?_
   · as_aux_lemma => kernel_rfl
   refine ENDOPS (NEXT (SEQ (REGION [0, 1, 2] rfl (RUN0 1 [1, 2] [(0, .v (p)), (1, I n), (5, I m5), (6, I m7), (21, .v (p))] ?_ rfl ?_))))
   · as_aux_lemma => kernel_rfl
   refine OPC (CALL 54 #[p] (some 22) ?_ [0] [curA (d) p] _ rfl (⟨{x : Int // 0 ≤ x ∧ x < 256}, fun q => vi q.1, fun q => [curA (d) p]⟩) (fun w hw => l1Byte_c w (d) (hd.fr hw.fr hS) p) (NO rfl) ?_)
   · as_aux_lemma => kernel_rfl
   rintro ⟨m9, hm10⟩
   try dsimp only at hm10
   refine RUN0 1 [] [(0, .v (p)), (1, I n), (5, I m5), (6, I m7), (7, I m9)] ?_ rfl ?_
   · as_aux_lemma => kernel_rfl
   refine ENDOPS (NEXT (SEQ (REGION [0, 1, 2] rfl (RUN0 1 [1, 2] [(1, I n), (5, I m5), (6, I m7), (7, I m9), (23, .v (p))] ?_ rfl ?_))))
   · as_aux_lemma => kernel_rfl
   refine OPC (CALL 54 #[p] (some 24) ?_ [0] [curA (d) p] _ rfl (⟨{x : Int // 0 ≤ x ∧ x < 256}, fun q => vi q.1, fun q => [curA (d) p]⟩) (fun w hw => l1Byte_c w (d) (hd.fr hw.fr hS) p) (NO rfl) ?_)
   · as_aux_lemma => kernel_rfl
   rintro ⟨m11, hm12⟩
   try dsimp only at hm12
   refine RUN0 1 [] [(1, I n), (5, I m5), (6, I m7), (7, I m9), (8, I m11)] ?_ rfl ?_
   · as_aux_lemma => kernel_rfl
   refine ENDOPS (NEXT (SEQ (REGION [0, 1, 2, 3, 4, 5, 6, 7, 8, 9, 10, 11, 12] rfl (RUN0 11 [11, 12] [(34, I (wr ((wr ((wr ((wr (m5 * 16777216)) + (wr (m7 * 65536)))) + (wr (m9 * 256)))) + m11))), (35, I n)] ?_ rfl ?_))))
   · as_aux_lemma => kernel_rfl
   refine OPC (RUNV (.binOp .rem 3 (.tmp 34) (.tmp 35) 3) 36 3 ?_ (NL rfl) (vi (Int.tmod (wr ((wr ((wr ((wr (m5 * 16777216)) + (wr (m7 * 65536)))) + (wr (m9 * 256)))) + m11)) n)) (runs_rem (a := wr ((wr ((wr ((wr (m5 * 16777216)) + (wr (m7 * 65536)))) + (wr (m9 * 256)))) + m11)) (b := n) ?_ ?_ (by omega)) ?_)
   iterate 3 (as_aux_lemma => kernel_rfl)
   refine RUN0 1 [] [(4, I (Int.tmod (wr ((wr ((wr ((wr (m5 * 16777216)) + (wr (m7 * 65536)))) + (wr (m9 * 256)))) + m11)) n))] ?_ rfl ?_
   · as_aux_lemma => kernel_rfl
   refine ENDOPS (NEXT (RET (FIN (vi (Int.tmod (wr ((wr ((wr ((wr (m5 * 16777216)) + (wr (m7 * 65536)))) + (wr (m9 * 256)))) + m11)) n)) ?_ ⟨Int.tmod (wr ((wr ((wr ((wr (m5 * 16777216)) + (wr (m7 * 65536)))) + (wr (m9 * 256)))) + m11)) n, (by first | exact tmod_rng (by omega) (by omega) | exact tmod_rng (four_bytes (by assumption) (by assumption) (by assumption) (by assumption)) (by omega))⟩ ?_ [0] ?_)))
   · as_aux_lemma => kernel_rfl
   · rfl
   · rfl

theorem l1Has_c (W : World) (list : List Int) (list_a : Option Addr) (list_c : Nat) (hlist : Rd intL W list_a list) (x : Int) : Spec Tryz.prog W [] 75 #[.slice list_a list.length list_c, vi x] (⟨{x : Bool // True}, fun q => .bool q.1, fun q => []⟩) := by
 refine ENTER0 (N := 18) (vs := [.slice list_a list.length list_c, vi x]) Tryz.func75 rfl rfl (NL rfl) ?_
 have hlist_len := hlist.len
 refine SEQ (REGION [0] rfl (RUN0 1 [] [(0, .v (.slice list_a list.length list_c)), (1, I x)] ?_ rfl ?_))
 · as_aux_lemma => kernel_rfl
 refine ENDOPS (NEXT (SEQ (SEQ (REGION [0] rfl (RUN0 1 [] [(0, .v (.slice list_a list.length list_c)), (1, I x), (5, I 0)] ?_ rfl ?_)))))
 · as_aux_lemma => kernel_rfl
 refine ENDOPS (NEXT (BLOCK (LOOP (ι := Nat × (List Int)) (fun j => [(0, .v (.slice list_a list.length list_c)), (1, I x), (5, I (j.1 : Int))]) (fun j => []) (fun j => []) (fun j => j.1 + j.2.length = list.length ∧ list.drop j.1 = j.2) (fun j => j.2.length) (0, list) [0, 1, 5] ⟨by simp, rfl⟩ ?_ rfl rfl ?_)))
 · as_aux_lemma => kernel_rfl
 rintro ⟨k, ys⟩ ⟨hk, hd⟩
 try dsimp only at hk hd
 refine SEQ (SEQ (REGION [0, 1, 2, 3] rfl (RUN0 4 [] [(0, .v (.slice list_a list.length list_c)), (1, I x), (5, I (k : Int)), (9, B (decide ((k : Int) < (list.length : Int))))] ?_ rfl ?_)))
 · as_aux_lemma => kernel_rfl
 refine ENDOPS (NEXT (IF (decide ((k : Int) < (list.length : Int))) ?_ (fun bh1 => ?_) (fun bh1 => ?_)))
 · as_aux_lemma => kernel_rfl
 ·
  have h1 := bh1
  have h1 := of_decide_eq_true h1
  obtain ⟨y2, ys3, rfl, hx_y2, hd_y2, hl_y2⟩ := drop_cons hd hk (by omega)
  refine SKIP (NEXT (SEQ (BLOCK (SEQ (REGION [0, 1, 2, 3, 4, 5] rfl (RUN0 2 [2, 3, 4, 5] [(0, .v (.slice list_a list.length list_c)), (1, I x), (5, I (k : Int)), (12, .v (.slice list_a list.length list_c)), (13, I (k : Int))] ?_ rfl ?_))))))
  · as_aux_lemma => kernel_rfl
  refine OPC (INDEX 42 (.tmp 12) (.tmp 13) 14 0 ?_ (NL rfl) list_a list.length list_c .i64 (k : Int) 3 1 ?_ ?_ ?_ ?_ (Rd.some hlist (by omega)) (by omega) (by omega) ?_)
  iterate 5 (as_aux_lemma => kernel_rfl)
  refine OPC (LOADE 3 (.tmp 14) 15 3 ?_ (NL rfl) list_a (k * 1) 0 [vi y2] (vi y2) ?_ (fun w hw => (hlist.fr hw.fr).flat hx_y2) ?_ ?_)
  iterate 3 (as_aux_lemma => kernel_rfl)
  refine RUN0 2 [] [(0, .v (.slice list_a list.length list_c)), (1, I x), (5, I (k : Int)), (17, B (y2 == x))] ?_ rfl ?_
  · as_aux_lemma => kernel_rfl
  refine ENDOPS (NEXT (IF (y2 == x) ?_ (fun bh4 => ?_) (fun bh4 => ?_)))
  · as_aux_lemma => kernel_rfl
  ·
   have h4 := bh4
   have h4 := eq_of_beq h4
   refine SEQ (REGION [0] rfl (RUN0 1 [] [(4, B true)] ?_ rfl ?_))
   · as_aux_lemma => kernel_rfl
   refine ENDOPS (NEXT (RET (OUTR (PASS trivial (PASS trivial (OUTR (PASS trivial (FIN (.bool true) ?_ ⟨true, trivial⟩ ?_ [] ?_))))))))
   · as_aux_lemma => kernel_rfl
   · rfl
   · rfl
  ·
   have h4 := bh4
   have h4 := ne_of_beq_false h4
   refine SKIP (OUTN (NEXT (REGION [0, 1, 2] rfl (RUN0 2 [2] [(0, .v (.slice list_a list.length list_c)), (1, I x), (11, I (wr ((k : Int) + 1)))] ?_ rfl ?_))))
   · as_aux_lemma => kernel_rfl
   refine CAST (d := 11) (vi (wr ((k : Int) + 1))) (vi ((k + 1 : Nat) : Int)) ?_ (vi_cast (by omega) (by omega)) ?_
   · as_aux_lemma => kernel_rfl
   refine RUN0 1 [] [(0, .v (.slice list_a list.length list_c)), (1, I x), (5, I ((k + 1 : Nat) : Int))] ?_ rfl ?_
   · as_aux_lemma => kernel_rfl
   refine ENDOPS (BACK (k + 1, ys3) [0, 1, 5] 0 [] _ ⟨hl_y2, hd_y2⟩ (by simp) ?_ rfl rfl rfl)
   · as_aux_lemma => kernel_rfl
 ·
  have h1 := bh1
  have h1 := of_decide_eq_false h1
  obtain rfl := drop_nil hk (by omega)
  refine EXIT (PASS trivial (PASS trivial (OUT (NEXT (SEQ (REGION [0] rfl (RUN0 1 [] [(4, B false)] ?_ rfl ?_)))))))
  · as_aux_lemma => kernel_rfl
  refine ENDOPS (NEXT (RET (FIN (.bool false) ?_ ⟨false, trivial⟩ ?_ [] ?_)))
  · as_aux_lemma => kernel_rfl
  · rfl
  · rfl

theorem l1Min_c (W : World) (a : Int) (b : Int) : Spec Tryz.prog W [] 47 #[vi a, vi b] (RV (vi (if a < b then a else b))) := by
 refine ENTER0 (N := 10) (vs := [vi a, vi b]) Tryz.func47 rfl rfl (NL rfl) ?_
 refine SEQ (REGION [0] rfl (RUN0 1 [] [(0, I a), (1, I b)] ?_ rfl ?_))
 · as_aux_lemma => kernel_rfl
 refine ENDOPS (NEXT (SEQ (SEQ (REGION [0, 1, 2] rfl (RUN0 3 [] [(0, I a), (1, I b), (7, B (decide (a < b)))] ?_ rfl ?_)))))
 · as_aux_lemma => kernel_rfl
 refine ENDOPS (NEXT (IF (decide (a < b)) ?_ (fun bh1 => ?_) (fun bh1 => ?_)))
 · as_aux_lemma => kernel_rfl
 ·
  have h1 := bh1
  have h1 := of_decide_eq_true h1
  refine SEQ (REGION [0, 1] rfl (RUN0 2 [] [(4, I a)] ?_ rfl ?_))
  · as_aux_lemma => kernel_rfl
  refine ENDOPS (NEXT (RET (PASS trivial (FIN (vi a) ?_ () ?_ [] ?_))))
  · as_aux_lemma => kernel_rfl
  · simp [RV, *]
  · rfl
 ·
  have h1 := bh1
  have h1 := of_decide_eq_false h1
  refine SKIP (NEXT (SEQ (REGION [0, 1] rfl (RUN0 2 [] [(4, I b)] ?_ rfl ?_))))
  · as_aux_lemma => kernel_rfl
  refine ENDOPS (NEXT (RET (FIN (vi b) ?_ () ?_ [] ?_)))
  · as_aux_lemma => kernel_rfl
  · simp [RV, *]
  · rfl

theorem l1Max_c (W : World) (a : Int) (b : Int) : Spec Tryz.prog W [] 55 #[vi a, vi b] (RV (vi (if a > b then a else b))) := by
 refine ENTER0 (N := 10) (vs := [vi a, vi b]) Tryz.func55 rfl rfl (NL rfl) ?_
 refine SEQ (REGION [0] rfl (RUN0 1 [] [(0, I a), (1, I b)] ?_ rfl ?_))
 · as_aux_lemma => kernel_rfl
 refine ENDOPS (NEXT (SEQ (SEQ (REGION [0, 1, 2] rfl (RUN0 3 [] [(0, I a), (1, I b), (7, B (decide (a > b)))] ?_ rfl ?_)))))
 · as_aux_lemma => kernel_rfl
 refine ENDOPS (NEXT (IF (decide (a > b)) ?_ (fun bh1 => ?_) (fun bh1 => ?_)))
 · as_aux_lemma => kernel_rfl
 ·
  have h1 := bh1
  have h1 := of_decide_eq_true h1
  refine SEQ (REGION [0, 1] rfl (RUN0 2 [] [(4, I a)] ?_ rfl ?_))
  · as_aux_lemma => kernel_rfl
  refine ENDOPS (NEXT (RET (PASS trivial (FIN (vi a) ?_ () ?_ [] ?_))))
  · as_aux_lemma => kernel_rfl
  · simp [RV, *]
  · rfl
 ·
  have h1 := bh1
  have h1 := of_decide_eq_false h1
  refine SKIP (NEXT (SEQ (REGION [0, 1] rfl (RUN0 2 [] [(4, I b)] ?_ rfl ?_))))
  · as_aux_lemma => kernel_rfl
  refine ENDOPS (NEXT (RET (FIN (vi b) ?_ () ?_ [] ?_)))
  · as_aux_lemma => kernel_rfl
  · simp [RV, *]
  · rfl

theorem l1Once_c (W : World) (d : Cd) (hd : CodeOk W d) (p : Value) (n : Int) : Spec Tryz.prog W [curA d p] 23 #[p, vi n] (⟨{x : Bool // True}, fun q => .bool q.1, fun q => [curA (d) p]⟩) := by
 refine ENTERC (N := 9) (vs := [p, vi n]) Tryz.func23 rfl rfl (NL rfl) (fun S0 hS hP => ?_)
 refine SEQ (REGION [0] rfl (RUN0 1 [] [(0, .v (p)), (1, I n)] ?_ rfl ?_))
 · as_aux_lemma => kernel_rfl
 refine ENDOPS (NEXT (SEQ (REGION [0, 1, 2, 3, 4] rfl (RUN0 2 [2, 3, 4] [(5, .v (p)), (6, I n)] ?_ rfl ?_))))
 · as_aux_lemma => kernel_rfl
 refine OPC (CALL 29 #[p, vi n] (some 7) ?_ [0] [curA (d) p] _ rfl (⟨{x : Int // 0 ≤ x ∧ (n ≤ 0 → x = 0) ∧ (0 < n → x < n)}, fun q => vi q.1, fun q => [curA (d) p]⟩) (fun w hw => l1Below_c w (d) (hd.fr hw.fr hS) p n) (NO rfl) ?_)
 · as_aux_lemma => kernel_rfl
 rintro ⟨m1, hm2⟩
 try dsimp only at hm2
 refine RUN0 2 [] [(4, B (m1 == 0))] ?_ rfl ?_
 · as_aux_lemma => kernel_rfl
 refine ENDOPS (NEXT (RET (FIN (.bool (m1 == 0)) ?_ ⟨m1 == 0, trivial⟩ ?_ [0] ?_)))
 · as_aux_lemma => kernel_rfl
 · rfl
 · rfl

theorem l1PickInt_c (W : World) (d : Cd) (hd : CodeOk W d) (p : Value) (list : List Int) (list_a : Option Addr) (list_c : Nat) (hlist : RdP W p intL list_a list) (hl : 0 < list.length) : Spec Tryz.prog W [curA d p] 56 #[p, .slice list_a list.length list_c] (⟨{x : Int // True}, fun q => vi q.1, fun q => [curA (d) p]⟩) := by
 refine ENTERC (N := 12) (vs := [p, .slice list_a list.length list_c]) Tryz.func56 rfl rfl (NL rfl) (fun S0 hS hP => ?_)
 have hlist_len := hlist.len
 refine SEQ (REGION [0] rfl (RUN0 1 [] [(0, .v (p)), (1, .v (.slice list_a list.length list_c))] ?_ rfl ?_))
 · as_aux_lemma => kernel_rfl
 refine ENDOPS (NEXT (SEQ (REGION [0, 1, 2, 3, 4, 5, 6, 7] rfl (RUN0 4 [4, 5, 6, 7] [(5, .v (.slice list_a list.length list_c)), (6, .v (p)), (8, I (list.length : Int))] ?_ rfl ?_))))
 · as_aux_lemma => kernel_rfl
 refine OPC (CALL 29 #[p, vi (list.length : Int)] (some 9) ?_ [0] [curA (d) p] _ rfl (⟨{x : Int // 0 ≤ x ∧ ((list.length : Int) ≤ 0 → x = 0) ∧ (0 < (list.length : Int) → x < (list.length : Int))}, fun q => vi q.1, fun q => [curA (d) p]⟩) (fun w hw => l1Below_c w (d) (hd.fr hw.fr hS) p (list.length : Int)) (NO rfl) ?_)
 · as_aux_lemma => kernel_rfl
 rintro ⟨m1, hm2⟩
 try dsimp only at hm2
 obtain ⟨x3, hx4⟩ : ∃ y, list[m1.toNat]? = some y := ⟨_, List.getElem?_eq_getElem (by omega)⟩
 refine OPC (INDEX 42 (.tmp 5) (.tmp 9) 10 0 ?_ (NL rfl) list_a list.length list_c .i64 m1 3 1 ?_ ?_ ?_ ?_ (Rd.some hlist.rd0 (by omega)) (by omega) (by omega) ?_)
 iterate 5 (as_aux_lemma => kernel_rfl)
 refine OPC (LOADE 3 (.tmp 10) 11 3 ?_ (NL rfl) list_a (m1.toNat * 1) 0 [vi x3] (vi x3) ?_ (fun w hw => (hlist.rd hw.fr hP).flat hx4) ?_ ?_)
 iterate 3 (as_aux_lemma => kernel_rfl)
 refine RUN0 1 [] [(4, I x3)] ?_ rfl ?_
 · as_aux_lemma => kernel_rfl
 refine ENDOPS (NEXT (RET (FIN (vi x3) ?_ ⟨x3, trivial⟩ ?_ [0] ?_)))
 · as_aux_lemma => kernel_rfl
 · rfl
 · rfl

theorem l11At_c (W : World) (list : List Party) (list_a : Option Addr) (list_c : Nat) (hlist : Rd partyL W list_a list) (id : Int) : Spec Tryz.prog W [] 48 #[.slice list_a list.length list_c, vi id] (⟨{x : Int // x < (list.length : Int)}, fun q => vi q.1, fun q => []⟩) := by
 refine ENTER0 (N := 20) (vs := [.slice list_a list.length list_c, vi id]) Tryz.func48 rfl rfl (NL rfl) ?_
 have hlist_len := hlist.len
 refine SEQ (REGION [0] rfl (RUN0 1 [] [(0, .v (.slice list_a list.length list_c)), (1, I id)] ?_ rfl ?_))
 · as_aux_lemma => kernel_rfl
 refine ENDOPS (NEXT (SEQ (SEQ (REGION [0] rfl (RUN0 1 [] [(0, .v (.slice list_a list.length list_c)), (1, I id), (5, I 0)] ?_ rfl ?_)))))
 · as_aux_lemma => kernel_rfl
 refine ENDOPS (NEXT (BLOCK (LOOP (ι := Nat × (List Party)) (fun j => [(0, .v (.slice list_a list.length list_c)), (1, I id), (5, I (j.1 : Int))]) (fun j => []) (fun j => []) (fun j => j.1 + j.2.length = list.length ∧ list.drop j.1 = j.2) (fun j => j.2.length) (0, list) [0, 1, 5] ⟨by simp, rfl⟩ ?_ rfl rfl ?_)))
 · as_aux_lemma => kernel_rfl
 rintro ⟨k, ys⟩ ⟨hk, hd⟩
 try dsimp only at hk hd
 refine SEQ (SEQ (REGION [0, 1, 2, 3] rfl (RUN0 4 [] [(0, .v (.slice list_a list.length list_c)), (1, I id), (5, I (k : Int)), (9, B (decide ((k : Int) < (list.length : Int))))] ?_ rfl ?_)))
 · as_aux_lemma => kernel_rfl
 refine ENDOPS (NEXT (IF (decide ((k : Int) < (list.length : Int))) ?_ (fun bh1 => ?_) (fun bh1 => ?_)))
 · as_aux_lemma => kernel_rfl
 ·
  have h1 := bh1
  have h1 := of_decide_eq_true h1
  obtain ⟨y2, ys3, rfl, hx_y2, hd_y2, hl_y2⟩ := drop_cons hd hk (by omega)
  refine SKIP (NEXT (SEQ (BLOCK (SEQ (REGION [0, 1, 2, 3, 4, 5, 6] rfl (RUN0 2 [2, 3, 4, 5, 6] [(0, .v (.slice list_a list.length list_c)), (1, I id), (5, I (k : Int)), (12, .v (.slice list_a list.length list_c)), (13, I (k : Int))] ?_ rfl ?_))))))
  · as_aux_lemma => kernel_rfl
  refine OPC (INDEX 52 (.tmp 12) (.tmp 13) 14 0 ?_ (NL rfl) list_a list.length list_c .i64 (k : Int) 80 10 ?_ ?_ ?_ ?_ (Rd.some hlist (by omega)) (by omega) (by omega) ?_)
  iterate 5 (as_aux_lemma => kernel_rfl)
  refine RUN0 1 [4, 5, 6] [(0, .v (.slice list_a list.length list_c)), (1, I id), (5, I (k : Int)), (15, .e list_a (k * 10) 0)] ?_ rfl ?_
  · as_aux_lemma => kernel_rfl
  refine OPC (LOADE 3 (.tmp 15) 16 3 ?_ (NL rfl) list_a (k * 10) 0 [vi y2.id, vi y2.cabin, vi y2.from', vi y2.size, vi y2.tier, vi y2.since, vi y2.turn, vi y2.state, vi y2.until', vi y2.asked] (vi y2.id) ?_ (fun w hw => (hlist.fr hw.fr).flat hx_y2) ?_ ?_)
  iterate 3 (as_aux_lemma => kernel_rfl)
  refine RUN0 2 [] [(0, .v (.slice list_a list.length list_c)), (1, I id), (5, I (k : Int)), (18, B (y2.id == id))] ?_ rfl ?_
  · as_aux_lemma => kernel_rfl
  refine ENDOPS (NEXT (IF (y2.id == id) ?_ (fun bh4 => ?_) (fun bh4 => ?_)))
  · as_aux_lemma => kernel_rfl
  ·
   have h4 := bh4
   have h4 := eq_of_beq h4
   refine SEQ (REGION [0, 1] rfl (RUN0 2 [] [(4, I (k : Int))] ?_ rfl ?_))
   · as_aux_lemma => kernel_rfl
   refine ENDOPS (NEXT (RET (OUTR (PASS trivial (PASS trivial (OUTR (PASS trivial (FIN (vi (k : Int)) ?_ ⟨(k : Int), (by first | omega | (simp; omega))⟩ ?_ [] ?_))))))))
   · as_aux_lemma => kernel_rfl
   · rfl
   · rfl
  ·
   have h4 := bh4
   have h4 := ne_of_beq_false h4
   refine SKIP (OUTN (NEXT (REGION [0, 1, 2] rfl (RUN0 2 [2] [(0, .v (.slice list_a list.length list_c)), (1, I id), (11, I (wr ((k : Int) + 1)))] ?_ rfl ?_))))
   · as_aux_lemma => kernel_rfl
   refine CAST (d := 11) (vi (wr ((k : Int) + 1))) (vi ((k + 1 : Nat) : Int)) ?_ (vi_cast (by omega) (by omega)) ?_
   · as_aux_lemma => kernel_rfl
   refine RUN0 1 [] [(0, .v (.slice list_a list.length list_c)), (1, I id), (5, I ((k + 1 : Nat) : Int))] ?_ rfl ?_
   · as_aux_lemma => kernel_rfl
   refine ENDOPS (BACK (k + 1, ys3) [0, 1, 5] 0 [] _ ⟨hl_y2, hd_y2⟩ (by simp) ?_ rfl rfl rfl)
   · as_aux_lemma => kernel_rfl
 ·
  have h1 := bh1
  have h1 := of_decide_eq_false h1
  obtain rfl := drop_nil hk (by omega)
  refine EXIT (PASS trivial (PASS trivial (OUT (NEXT (SEQ (REGION [0] rfl (RUN0 1 [] [(4, I (-1))] ?_ rfl ?_)))))))
  · as_aux_lemma => kernel_rfl
  refine ENDOPS (NEXT (RET (FIN (vi (-1)) ?_ ⟨-1, (by first | omega | (simp; omega))⟩ ?_ [] ?_)))
  · as_aux_lemma => kernel_rfl
  · rfl
  · rfl

theorem countIn_c (W : World) (list : List Party) (list_a : Option Addr) (list_c : Nat) (hlist : Rd partyL W list_a list) (cabin : Int) : Spec Tryz.prog W [] 49 #[.slice list_a list.length list_c, vi cabin] (⟨{x : Int // True}, fun q => vi q.1, fun q => []⟩) := by
 refine ENTER0 (N := 23) (vs := [.slice list_a list.length list_c, vi cabin]) Tryz.func49 rfl rfl (NL rfl) ?_
 have hlist_len := hlist.len
 refine SEQ (REGION [0] rfl (RUN0 1 [] [(0, .v (.slice list_a list.length list_c)), (1, I cabin)] ?_ rfl ?_))
 · as_aux_lemma => kernel_rfl
 refine ENDOPS (NEXT (SEQ (REGION [0] rfl (RUN0 1 [] [(0, .v (.slice list_a list.length list_c)), (1, I cabin), (5, I 0)] ?_ rfl ?_))))
 · as_aux_lemma => kernel_rfl
 refine ENDOPS (NEXT (SEQ (SEQ (REGION [0] rfl (RUN0 1 [] [(0, .v (.slice list_a list.length list_c)), (1, I cabin), (5, I 0), (6, I 0)] ?_ rfl ?_)))))
 · as_aux_lemma => kernel_rfl
 refine ENDOPS (NEXT (BLOCK (LOOP (ι := Nat × (List Party) × Int) (fun j => [(0, .v (.slice list_a list.length list_c)), (1, I cabin), (5, I j.2.2), (6, I (j.1 : Int))]) (fun j => []) (fun j => []) (fun j => j.1 + j.2.1.length = list.length ∧ list.drop j.1 = j.2.1) (fun j => j.2.1.length) (0, list, 0) [0, 1, 5, 6] ⟨by simp, rfl⟩ ?_ rfl rfl ?_)))
 · as_aux_lemma => kernel_rfl
 rintro ⟨k, ys, n⟩ ⟨hk, hd⟩
 try dsimp only at hk hd
 refine SEQ (SEQ (REGION [0, 1, 2, 3] rfl (RUN0 4 [] [(0, .v (.slice list_a list.length list_c)), (1, I cabin), (5, I n), (6, I (k : Int)), (10, B (decide ((k : Int) < (list.length : Int))))] ?_ rfl ?_)))
 · as_aux_lemma => kernel_rfl
 refine ENDOPS (NEXT (IF (decide ((k : Int) < (list.length : Int))) ?_ (fun bh1 => ?_) (fun bh1 => ?_)))
 · as_aux_lemma => kernel_rfl
 ·
  have h1 := bh1
  have h1 := of_decide_eq_true h1
  obtain ⟨y2, ys3, rfl, hx_y2, hd_y2, hl_y2⟩ := drop_cons hd hk (by omega)
  refine SKIP (NEXT (SEQ (BLOCK (SEQ (REGION [0, 1, 2, 3, 4, 5, 6] rfl (RUN0 2 [2, 3, 4, 5, 6] [(0, .v (.slice list_a list.length list_c)), (1, I cabin), (5, I n), (6, I (k : Int)), (13, .v (.slice list_a list.length list_c)), (14, I (k : Int))] ?_ rfl ?_))))))
  · as_aux_lemma => kernel_rfl
  refine OPC (INDEX 52 (.tmp 13) (.tmp 14) 15 0 ?_ (NL rfl) list_a list.length list_c .i64 (k : Int) 80 10 ?_ ?_ ?_ ?_ (Rd.some hlist (by omega)) (by omega) (by omega) ?_)
  iterate 5 (as_aux_lemma => kernel_rfl)
  refine RUN0 1 [4, 5, 6] [(0, .v (.slice list_a list.length list_c)), (1, I cabin), (5, I n), (6, I (k : Int)), (16, .e list_a (k * 10) 1)] ?_ rfl ?_
  · as_aux_lemma => kernel_rfl
  refine OPC (LOADE 3 (.tmp 16) 17 3 ?_ (NL rfl) list_a (k * 10) 1 [vi y2.id, vi y2.cabin, vi y2.from', vi y2.size, vi y2.tier, vi y2.since, vi y2.turn, vi y2.state, vi y2.until', vi y2.asked] (vi y2.cabin) ?_ (fun w hw => (hlist.fr hw.fr).flat hx_y2) ?_ ?_)
  iterate 3 (as_aux_lemma => kernel_rfl)
  refine RUN0 2 [] [(0, .v (.slice list_a list.length list_c)), (1, I cabin), (5, I n), (6, I (k : Int)), (19, B (y2.cabin == cabin))] ?_ rfl ?_
  · as_aux_lemma => kernel_rfl
  refine ENDOPS (NEXT (IF (y2.cabin == cabin) ?_ (fun bh4 => ?_) (fun bh4 => ?_)))
  · as_aux_lemma => kernel_rfl
  ·
   have h4 := bh4
   have h4 := eq_of_beq h4
   refine REGION [0, 1, 2] rfl (RUN0 3 [] [(0, .v (.slice list_a list.length list_c)), (1, I cabin), (5, I (wr (n + 1))), (6, I (k : Int))] ?_ rfl ?_)
   · as_aux_lemma => kernel_rfl
   refine ENDOPS (OUTN (NEXT (REGION [0, 1, 2] rfl (RUN0 2 [2] [(0, .v (.slice list_a list.length list_c)), (1, I cabin), (5, I (wr (n + 1))), (12, I (wr ((k : Int) + 1)))] ?_ rfl ?_))))
   · as_aux_lemma => kernel_rfl
   refine CAST (d := 12) (vi (wr ((k : Int) + 1))) (vi ((k + 1 : Nat) : Int)) ?_ (vi_cast (by omega) (by omega)) ?_
   · as_aux_lemma => kernel_rfl
   refine RUN0 1 [] [(0, .v (.slice list_a list.length list_c)), (1, I cabin), (5, I (wr (n + 1))), (6, I ((k + 1 : Nat) : Int))] ?_ rfl ?_
   · as_aux_lemma => kernel_rfl
   refine ENDOPS (BACK (k + 1, ys3, wr (n + 1)) [0, 1, 5, 6] 0 [] _ ⟨hl_y2, hd_y2⟩ (by simp) ?_ rfl rfl rfl)
   · as_aux_lemma => kernel_rfl
  ·
   have h4 := bh4
   have h4 := ne_of_beq_false h4
   refine SKIP (OUTN (NEXT (REGION [0, 1, 2] rfl (RUN0 2 [2] [(0, .v (.slice list_a list.length list_c)), (1, I cabin), (5, I n), (12, I (wr ((k : Int) + 1)))] ?_ rfl ?_))))
   · as_aux_lemma => kernel_rfl
   refine CAST (d := 12) (vi (wr ((k : Int) + 1))) (vi ((k + 1 : Nat) : Int)) ?_ (vi_cast (by omega) (by omega)) ?_
   · as_aux_lemma => kernel_rfl
   refine RUN0 1 [] [(0, .v (.slice list_a list.length list_c)), (1, I cabin), (5, I n), (6, I ((k + 1 : Nat) : Int))] ?_ rfl ?_
   · as_aux_lemma => kernel_rfl
   refine ENDOPS (BACK (k + 1, ys3, n) [0, 1, 5, 6] 0 [] _ ⟨hl_y2, hd_y2⟩ (by simp) ?_ rfl rfl rfl)
   · as_aux_lemma => kernel_rfl
 ·
  have h1 := bh1
  have h1 := of_decide_eq_false h1
  obtain rfl := drop_nil hk (by omega)
  refine EXIT (PASS trivial (PASS trivial (OUT (NEXT (SEQ (REGION [0, 1] rfl (RUN0 2 [] [(4, I n)] ?_ rfl ?_)))))))
  · as_aux_lemma => kernel_rfl
  refine ENDOPS (NEXT (RET (FIN (vi n) ?_ ⟨n, trivial⟩ ?_ [] ?_)))
  · as_aux_lemma => kernel_rfl
  · rfl
  · rfl

theorem heldIn_c (W : World) (list : List Party) (list_a : Option Addr) (list_c : Nat) (hlist : Rd partyL W list_a list) (cabin : Int) : Spec Tryz.prog W [] 69 #[.slice list_a list.length list_c, vi cabin] (⟨{x : Int // True}, fun q => vi q.1, fun q => []⟩) := by
 refine ENTER0 (N := 44) (vs := [.slice list_a list.length list_c, vi cabin]) Tryz.func69 rfl rfl (NL rfl) ?_
 have hlist_len := hlist.len
 refine SEQ (REGION [0] rfl (RUN0 1 [] [(0, .v (.slice list_a list.length list_c)), (1, I cabin)] ?_ rfl ?_))
 · as_aux_lemma => kernel_rfl
 refine ENDOPS (NEXT (SEQ (REGION [0] rfl (RUN0 1 [] [(0, .v (.slice list_a list.length list_c)), (1, I cabin), (5, I 0)] ?_ rfl ?_))))
 · as_aux_lemma => kernel_rfl
 refine ENDOPS (NEXT (SEQ (SEQ (REGION [0] rfl (RUN0 1 [] [(0, .v (.slice list_a list.length list_c)), (1, I cabin), (5, I 0), (6, I 0)] ?_ rfl ?_)))))
 · as_aux_lemma => kernel_rfl
 refine ENDOPS (NEXT (BLOCK (LOOP (ι := Nat × (List Party) × Int) (fun j => [(0, .v (.slice list_a list.length list_c)), (1, I cabin), (5, I j.2.2), (6, I (j.1 : Int))]) (fun j => []) (fun j => []) (fun j => j.1 + j.2.1.length = list.length ∧ list.drop j.1 = j.2.1) (fun j => j.2.1.length) (0, list, 0) [0, 1, 5, 6] ⟨by simp, rfl⟩ ?_ rfl rfl ?_)))
 · as_aux_lemma => kernel_rfl
 rintro ⟨k, ys, n⟩ ⟨hk, hd⟩
 try dsimp only at hk hd
 refine SEQ (SEQ (REGION [0, 1, 2, 3] rfl (RUN0 4 [] [(0, .v (.slice list_a list.length list_c)), (1, I cabin), (5, I n), (6, I (k : Int)), (10, B (decide ((k : Int) < (list.length : Int))))] ?_ rfl ?_)))
 · as_aux_lemma => kernel_rfl
 refine ENDOPS (NEXT (IF (decide ((k : Int) < (list.length : Int))) ?_ (fun bh1 => ?_) (fun bh1 => ?_)))
 · as_aux_lemma => kernel_rfl
 ·
  have h1 := bh1
  have h1 := of_decide_eq_true h1
  obtain ⟨y2, ys3, rfl, hx_y2, hd_y2, hl_y2⟩ := drop_cons hd hk (by omega)
  refine SKIP (NEXT (SEQ (BLOCK (SEQ (REGION [0, 1, 2, 3, 4, 5, 6, 7, 8, 9, 10, 11, 12, 13, 14, 15, 16, 17, 18, 19, 20, 21, 22] rfl (RUN0 2 [2, 3, 4, 5, 6, 7, 8, 9, 10, 11, 12, 13, 14, 15, 16, 17, 18, 19, 20, 21, 22] [(0, .v (.slice list_a list.length list_c)), (1, I cabin), (5, I n), (6, I (k : Int)), (13, .v (.slice list_a list.length list_c)), (14, I (k : Int))] ?_ rfl ?_))))))
  · as_aux_lemma => kernel_rfl
  refine OPC (INDEX 52 (.tmp 13) (.tmp 14) 15 0 ?_ (NL rfl) list_a list.length list_c .i64 (k : Int) 80 10 ?_ ?_ ?_ ?_ (Rd.some hlist (by omega)) (by omega) (by omega) ?_)
  iterate 5 (as_aux_lemma => kernel_rfl)
  refine RUN0 1 [4, 5, 6, 7, 8, 9, 10, 11, 12, 13, 14, 15, 16, 17, 18, 19, 20, 21, 22] [(0, .v (.slice list_a list.length list_c)), (1, I cabin), (5, I n), (6, I (k : Int)), (16, .e list_a (k * 10) 7)] ?_ rfl ?_
  · as_aux_lemma => kernel_rfl
  refine OPC (LOADE 3 (.tmp 16) 17 3 ?_ (NL rfl) list_a (k * 10) 7 [vi y2.id, vi y2.cabin, vi y2.from', vi y2.size, vi y2.tier, vi y2.since, vi y2.turn, vi y2.state, vi y2.until', vi y2.asked] (vi y2.state) ?_ (fun w hw => (hlist.fr hw.fr).flat hx_y2) ?_ ?_)
  iterate 3 (as_aux_lemma => kernel_rfl)
  refine RUN0 2 [7, 8, 9, 10, 11, 12, 13, 14, 15, 16, 17, 18, 19, 20, 21, 22] [(0, .v (.slice list_a list.length list_c)), (1, I cabin), (5, I n), (6, I (k : Int)), (19, B (y2.state == 2))] ?_ rfl ?_
  · as_aux_lemma => kernel_rfl
  refine SPLIT (d := 19) (y2.state == 2) ?_ (fun bh4 => ?_) (fun bh4 => ?_)
  · as_aux_lemma => kernel_rfl
  ·
   have h4 := bh4
   have h4 := eq_of_beq h4
   refine RUN0 2 [9, 10, 11, 12, 13, 14, 15, 16, 17, 18, 19, 20, 21, 22] [(0, .v (.slice list_a list.length list_c)), (1, I cabin), (5, I n), (6, I (k : Int)), (19, B true), (20, .v (.slice list_a list.length list_c)), (21, I (k : Int))] ?_ rfl ?_
   · as_aux_lemma => kernel_rfl
   refine OPC (INDEX 52 (.tmp 20) (.tmp 21) 22 0 ?_ (NL rfl) list_a list.length list_c .i64 (k : Int) 80 10 ?_ ?_ ?_ ?_ (Rd.some hlist (by omega)) (by omega) (by omega) ?_)
   iterate 5 (as_aux_lemma => kernel_rfl)
   refine RUN0 1 [11, 12, 13, 14, 15, 16, 17, 18, 19, 20, 21, 22] [(0, .v (.slice list_a list.length list_c)), (1, I cabin), (5, I n), (6, I (k : Int)), (19, B true), (23, .e list_a (k * 10) 1)] ?_ rfl ?_
   · as_aux_lemma => kernel_rfl
   refine OPC (LOADE 3 (.tmp 23) 24 3 ?_ (NL rfl) list_a (k * 10) 1 [vi y2.id, vi y2.cabin, vi y2.from', vi y2.size, vi y2.tier, vi y2.since, vi y2.turn, vi y2.state, vi y2.until', vi y2.asked] (vi y2.cabin) ?_ (fun w hw => (hlist.fr hw.fr).flat hx_y2) ?_ ?_)
   iterate 3 (as_aux_lemma => kernel_rfl)
   refine RUN0 4 [16, 17, 18, 19, 20, 21, 22] [(0, .v (.slice list_a list.length list_c)), (1, I cabin), (5, I n), (6, I (k : Int)), (28, B (y2.cabin == cabin))] ?_ rfl ?_
   · as_aux_lemma => kernel_rfl
   refine SPLIT (d := 28) (y2.cabin == cabin) ?_ (fun bh5 => ?_) (fun bh5 => ?_)
   · as_aux_lemma => kernel_rfl
   ·
    have h5 := bh5
    have h5 := eq_of_beq h5
    refine RUN0 2 [18, 19, 20, 21, 22] [(0, .v (.slice list_a list.length list_c)), (1, I cabin), (5, I n), (6, I (k : Int)), (28, B true), (29, .v (.slice list_a list.length list_c)), (30, I (k : Int))] ?_ rfl ?_
    · as_aux_lemma => kernel_rfl
    refine OPC (INDEX 52 (.tmp 29) (.tmp 30) 31 0 ?_ (NL rfl) list_a list.length list_c .i64 (k : Int) 80 10 ?_ ?_ ?_ ?_ (Rd.some hlist (by omega)) (by omega) (by omega) ?_)
    iterate 5 (as_aux_lemma => kernel_rfl)
    refine RUN0 1 [20, 21, 22] [(0, .v (.slice list_a list.length list_c)), (1, I cabin), (5, I n), (6, I (k : Int)), (28, B true), (32, .e list_a (k * 10) 3)] ?_ rfl ?_
    · as_aux_lemma => kernel_rfl
    refine OPC (LOADE 3 (.tmp 32) 33 3 ?_ (NL rfl) list_a (k * 10) 3 [vi y2.id, vi y2.cabin, vi y2.from', vi y2.size, vi y2.tier, vi y2.since, vi y2.turn, vi y2.state, vi y2.until', vi y2.asked] (vi y2.size) ?_ (fun w hw => (hlist.fr hw.fr).flat hx_y2) ?_ ?_)
    iterate 3 (as_aux_lemma => kernel_rfl)
    refine OPC (CALL 60 #[vi y2.size, vi 1, vi 6] (some 34) ?_ [] [] _ rfl (RV (.bool (inB y2.size 1 6))) (fun w hw => l1In_c w y2.size 1 6) (NO rfl) ?_)
    · as_aux_lemma => kernel_rfl
    rintro ⟨⟩
    refine RUN0 1 [] [(0, .v (.slice list_a list.length list_c)), (1, I cabin), (5, I n), (6, I (k : Int)), (35, B (inB y2.size 1 6))] ?_ rfl ?_
    · as_aux_lemma => kernel_rfl
    refine ENDOPS (NEXT (IF (inB y2.size 1 6) ?_ (fun bh6 => ?_) (fun bh6 => ?_)))
    · as_aux_lemma => kernel_rfl
    ·
     have h6 := bh6
     refine REGION [0, 1, 2, 3, 4, 5, 6, 7] rfl (RUN0 3 [3, 4, 5, 6, 7] [(0, .v (.slice list_a list.length list_c)), (1, I cabin), (6, I (k : Int)), (36, I n), (37, .v (.slice list_a list.length list_c)), (38, I (k : Int))] ?_ rfl ?_)
     · as_aux_lemma => kernel_rfl
     refine OPC (INDEX 52 (.tmp 37) (.tmp 38) 39 0 ?_ (NL rfl) list_a list.length list_c .i64 (k : Int) 80 10 ?_ ?_ ?_ ?_ (Rd.some hlist (by omega)) (by omega) (by omega) ?_)
     iterate 5 (as_aux_lemma => kernel_rfl)
     refine RUN0 1 [5, 6, 7] [(0, .v (.slice list_a list.length list_c)), (1, I cabin), (6, I (k : Int)), (36, I n), (40, .e list_a (k * 10) 3)] ?_ rfl ?_
     · as_aux_lemma => kernel_rfl
     refine OPC (LOADE 3 (.tmp 40) 41 3 ?_ (NL rfl) list_a (k * 10) 3 [vi y2.id, vi y2.cabin, vi y2.from', vi y2.size, vi y2.tier, vi y2.since, vi y2.turn, vi y2.state, vi y2.until', vi y2.asked] (vi y2.size) ?_ (fun w hw => (hlist.fr hw.fr).flat hx_y2) ?_ ?_)
     iterate 3 (as_aux_lemma => kernel_rfl)
     refine RUN0 2 [] [(0, .v (.slice list_a list.length list_c)), (1, I cabin), (5, I (wr (n + y2.size))), (6, I (k : Int))] ?_ rfl ?_
     · as_aux_lemma => kernel_rfl
     refine ENDOPS (OUTN (NEXT (REGION [0, 1, 2] rfl (RUN0 2 [2] [(0, .v (.slice list_a list.length list_c)), (1, I cabin), (5, I (wr (n + y2.size))), (12, I (wr ((k : Int) + 1)))] ?_ rfl ?_))))
     · as_aux_lemma => kernel_rfl
     refine CAST (d := 12) (vi (wr ((k : Int) + 1))) (vi ((k + 1 : Nat) : Int)) ?_ (vi_cast (by omega) (by omega)) ?_
     · as_aux_lemma => kernel_rfl
     refine RUN0 1 [] [(0, .v (.slice list_a list.length list_c)), (1, I cabin), (5, I (wr (n + y2.size))), (6, I ((k + 1 : Nat) : Int))] ?_ rfl ?_
     · as_aux_lemma => kernel_rfl
     refine ENDOPS (BACK (k + 1, ys3, wr (n + y2.size)) [0, 1, 5, 6] 0 [] _ ⟨hl_y2, hd_y2⟩ (by simp) ?_ rfl rfl rfl)
     · as_aux_lemma => kernel_rfl
    ·
     have h6 := bh6
     refine SKIP (OUTN (NEXT (REGION [0, 1, 2] rfl (RUN0 2 [2] [(0, .v (.slice list_a list.length list_c)), (1, I cabin), (5, I n), (12, I (wr ((k : Int) + 1)))] ?_ rfl ?_))))
     · as_aux_lemma => kernel_rfl
     refine CAST (d := 12) (vi (wr ((k : Int) + 1))) (vi ((k + 1 : Nat) : Int)) ?_ (vi_cast (by omega) (by omega)) ?_
     · as_aux_lemma => kernel_rfl
     refine RUN0 1 [] [(0, .v (.slice list_a list.length list_c)), (1, I cabin), (5, I n), (6, I ((k + 1 : Nat) : Int))] ?_ rfl ?_
     · as_aux_lemma => kernel_rfl
     refine ENDOPS (BACK (k + 1, ys3, n) [0, 1, 5, 6] 0 [] _ ⟨hl_y2, hd_y2⟩ (by simp) ?_ rfl rfl rfl)
     · as_aux_lemma => kernel_rfl
   ·
    have h5 := bh5
    have h5 := ne_of_beq_false h5
    refine RUN0 7 [] [(0, .v (.slice list_a list.length list_c)), (1, I cabin), (5, I n), (6, I (k : Int)), (35, B false)] ?_ rfl ?_
    · as_aux_lemma => kernel_rfl
    refine ENDOPS (NEXT (IFF ?_ ?_))
    · as_aux_lemma => kernel_rfl
    refine SKIP (OUTN (NEXT (REGION [0, 1, 2] rfl (RUN0 2 [2] [(0, .v (.slice list_a list.length list_c)), (1, I cabin), (5, I n), (12, I (wr ((k : Int) + 1)))] ?_ rfl ?_))))
    · as_aux_lemma => kernel_rfl
    refine CAST (d := 12) (vi (wr ((k : Int) + 1))) (vi ((k + 1 : Nat) : Int)) ?_ (vi_cast (by omega) (by omega)) ?_
    · as_aux_lemma => kernel_rfl
    refine RUN0 1 [] [(0, .v (.slice list_a list.length list_c)), (1, I cabin), (5, I n), (6, I ((k + 1 : Nat) : Int))] ?_ rfl ?_
    · as_aux_lemma => kernel_rfl
    refine ENDOPS (BACK (k + 1, ys3, n) [0, 1, 5, 6] 0 [] _ ⟨hl_y2, hd_y2⟩ (by simp) ?_ rfl rfl rfl)
    · as_aux_lemma => kernel_rfl
  ·
   have h4 := bh4
   have h4 := ne_of_beq_false h4
   refine RUN0 16 [] [(0, .v (.slice list_a list.length list_c)), (1, I cabin), (5, I n), (6, I (k : Int)), (35, B false)] ?_ rfl ?_
   · as_aux_lemma => kernel_rfl
   refine ENDOPS (NEXT (IFF ?_ ?_))
   · as_aux_lemma => kernel_rfl
   refine SKIP (OUTN (NEXT (REGION [0, 1, 2] rfl (RUN0 2 [2] [(0, .v (.slice list_a list.length list_c)), (1, I cabin), (5, I n), (12, I (wr ((k : Int) + 1)))] ?_ rfl ?_))))
   · as_aux_lemma => kernel_rfl
   refine CAST (d := 12) (vi (wr ((k : Int) + 1))) (vi ((k + 1 : Nat) : Int)) ?_ (vi_cast (by omega) (by omega)) ?_
   · as_aux_lemma => kernel_rfl
   refine RUN0 1 [] [(0, .v (.slice list_a list.length list_c)), (1, I cabin), (5, I n), (6, I ((k + 1 : Nat) : Int))] ?_ rfl ?_
   · as_aux_lemma => kernel_rfl
   refine ENDOPS (BACK (k + 1, ys3, n) [0, 1, 5, 6] 0 [] _ ⟨hl_y2, hd_y2⟩ (by simp) ?_ rfl rfl rfl)
   · as_aux_lemma => kernel_rfl
 ·
  have h1 := bh1
  have h1 := of_decide_eq_false h1
  obtain rfl := drop_nil hk (by omega)
  refine EXIT (PASS trivial (PASS trivial (OUT (NEXT (SEQ (REGION [0, 1] rfl (RUN0 2 [] [(4, I n)] ?_ rfl ?_)))))))
  · as_aux_lemma => kernel_rfl
  refine ENDOPS (NEXT (RET (FIN (vi n) ?_ ⟨n, trivial⟩ ?_ [] ?_)))
  · as_aux_lemma => kernel_rfl
  · rfl
  · rfl

theorem tiedIn_c (W : World) (list : List Party) (list_a : Option Addr) (list_c : Nat) (hlist : Rd partyL W list_a list) (cabin : Int) : Spec Tryz.prog W [] 70 #[.slice list_a list.length list_c, vi cabin] (⟨{x : Int // True}, fun q => vi q.1, fun q => []⟩) := by
 refine ENTER0 (N := 36) (vs := [.slice list_a list.length list_c, vi cabin]) Tryz.func70 rfl rfl (NL rfl) ?_
 have hlist_len := hlist.len
 refine SEQ (REGION [0] rfl (RUN0 1 [] [(0, .v (.slice list_a list.length list_c)), (1, I cabin)] ?_ rfl ?_))
 · as_aux_lemma => kernel_rfl
 refine ENDOPS (NEXT (SEQ (REGION [0] rfl (RUN0 1 [] [(0, .v (.slice list_a list.length list_c)), (1, I cabin), (5, I 0)] ?_ rfl ?_))))
 · as_aux_lemma => kernel_rfl
 refine ENDOPS (NEXT (SEQ (SEQ (REGION [0] rfl (RUN0 1 [] [(0, .v (.slice list_a list.length list_c)), (1, I cabin), (5, I 0), (6, I 0)] ?_ rfl ?_)))))
 · as_aux_lemma => kernel_rfl
 refine ENDOPS (NEXT (BLOCK (LOOP (ι := Nat × (List Party) × Int) (fun j => [(0, .v (.slice list_a list.length list_c)), (1, I cabin), (5, I j.2.2), (6, I (j.1 : Int))]) (fun j => []) (fun j => []) (fun j => j.1 + j.2.1.length = list.length ∧ list.drop j.1 = j.2.1) (fun j => j.2.1.length) (0, list, 0) [0, 1, 5, 6] ⟨by simp, rfl⟩ ?_ rfl rfl ?_)))
 · as_aux_lemma => kernel_rfl
 rintro ⟨k, ys, n⟩ ⟨hk, hd⟩
 try dsimp only at hk hd
 refine SEQ (SEQ (REGION [0, 1, 2, 3] rfl (RUN0 4 [] [(0, .v (.slice list_a list.length list_c)), (1, I cabin), (5, I n), (6, I (k : Int)), (10, B (decide ((k : Int) < (list.length : Int))))] ?_ rfl ?_)))
 · as_aux_lemma => kernel_rfl
 refine ENDOPS (NEXT (IF (decide ((k : Int) < (list.length : Int))) ?_ (fun bh1 => ?_) (fun bh1 => ?_)))
 · as_aux_lemma => kernel_rfl
 ·
  have h1 := bh1
  have h1 := of_decide_eq_true h1
  obtain ⟨y2, ys3, rfl, hx_y2, hd_y2, hl_y2⟩ := drop_cons hd hk (by omega)
  refine SKIP (NEXT (SEQ (BLOCK (SEQ (REGION [0, 1, 2, 3, 4, 5, 6, 7, 8, 9, 10, 11, 12, 13, 14] rfl (RUN0 2 [2, 3, 4, 5, 6, 7, 8, 9, 10, 11, 12, 13, 14] [(0, .v (.slice list_a list.length list_c)), (1, I cabin), (5, I n), (6, I (k : Int)), (13, .v (.slice list_a list.length list_c)), (14, I (k : Int))] ?_ rfl ?_))))))
  · as_aux_lemma => kernel_rfl
  refine OPC (INDEX 52 (.tmp 13) (.tmp 14) 15 0 ?_ (NL rfl) list_a list.length list_c .i64 (k : Int) 80 10 ?_ ?_ ?_ ?_ (Rd.some hlist (by omega)) (by omega) (by omega) ?_)
  iterate 5 (as_aux_lemma => kernel_rfl)
  refine RUN0 1 [4, 5, 6, 7, 8, 9, 10, 11, 12, 13, 14] [(0, .v (.slice list_a list.length list_c)), (1, I cabin), (5, I n), (6, I (k : Int)), (16, .e list_a (k * 10) 2)] ?_ rfl ?_
  · as_aux_lemma => kernel_rfl
  refine OPC (LOADE 3 (.tmp 16) 17 3 ?_ (NL rfl) list_a (k * 10) 2 [vi y2.id, vi y2.cabin, vi y2.from', vi y2.size, vi y2.tier, vi y2.since, vi y2.turn, vi y2.state, vi y2.until', vi y2.asked] (vi y2.from') ?_ (fun w hw => (hlist.fr hw.fr).flat hx_y2) ?_ ?_)
  iterate 3 (as_aux_lemma => kernel_rfl)
  refine RUN0 3 [8, 9, 10, 11, 12, 13, 14] [(0, .v (.slice list_a list.length list_c)), (1, I cabin), (5, I n), (6, I (k : Int)), (20, B (y2.from' == cabin))] ?_ rfl ?_
  · as_aux_lemma => kernel_rfl
  refine SPLIT (d := 20) (y2.from' == cabin) ?_ (fun bh4 => ?_) (fun bh4 => ?_)
  · as_aux_lemma => kernel_rfl
  ·
   have h4 := bh4
   have h4 := eq_of_beq h4
   refine RUN0 2 [10, 11, 12, 13, 14] [(0, .v (.slice list_a list.length list_c)), (1, I cabin), (5, I n), (6, I (k : Int)), (20, B true), (21, .v (.slice list_a list.length list_c)), (22, I (k : Int))] ?_ rfl ?_
   · as_aux_lemma => kernel_rfl
   refine OPC (INDEX 52 (.tmp 21) (.tmp 22) 23 0 ?_ (NL rfl) list_a list.length list_c .i64 (k : Int) 80 10 ?_ ?_ ?_ ?_ (Rd.some hlist (by omega)) (by omega) (by omega) ?_)
   iterate 5 (as_aux_lemma => kernel_rfl)
   refine RUN0 1 [12, 13, 14] [(0, .v (.slice list_a list.length list_c)), (1, I cabin), (5, I n), (6, I (k : Int)), (20, B true), (24, .e list_a (k * 10) 3)] ?_ rfl ?_
   · as_aux_lemma => kernel_rfl
   refine OPC (LOADE 3 (.tmp 24) 25 3 ?_ (NL rfl) list_a (k * 10) 3 [vi y2.id, vi y2.cabin, vi y2.from', vi y2.size, vi y2.tier, vi y2.since, vi y2.turn, vi y2.state, vi y2.until', vi y2.asked] (vi y2.size) ?_ (fun w hw => (hlist.fr hw.fr).flat hx_y2) ?_ ?_)
   iterate 3 (as_aux_lemma => kernel_rfl)
   refine OPC (CALL 60 #[vi y2.size, vi 1, vi 6] (some 26) ?_ [] [] _ rfl (RV (.bool (inB y2.size 1 6))) (fun w hw => l1In_c w y2.size 1 6) (NO rfl) ?_)
   · as_aux_lemma => kernel_rfl
   rintro ⟨⟩
   refine RUN0 1 [] [(0, .v (.slice list_a list.length list_c)), (1, I cabin), (5, I n), (6, I (k : Int)), (27, B (inB y2.size 1 6))] ?_ rfl ?_
   · as_aux_lemma => kernel_rfl
   refine ENDOPS (NEXT (IF (inB y2.size 1 6) ?_ (fun bh5 => ?_) (fun bh5 => ?_)))
   · as_aux_lemma => kernel_rfl
   ·
    have h5 := bh5
    refine REGION [0, 1, 2, 3, 4, 5, 6, 7] rfl (RUN0 3 [3, 4, 5, 6, 7] [(0, .v (.slice list_a list.length list_c)), (1, I cabin), (6, I (k : Int)), (28, I n), (29, .v (.slice list_a list.length list_c)), (30, I (k : Int))] ?_ rfl ?_)
    · as_aux_lemma => kernel_rfl
    refine OPC (INDEX 52 (.tmp 29) (.tmp 30) 31 0 ?_ (NL rfl) list_a list.length list_c .i64 (k : Int) 80 10 ?_ ?_ ?_ ?_ (Rd.some hlist (by omega)) (by omega) (by omega) ?_)
    iterate 5 (as_aux_lemma => kernel_rfl)
    refine RUN0 1 [5, 6, 7] [(0, .v (.slice list_a list.length list_c)), (1, I cabin), (6, I (k : Int)), (28, I n), (32, .e list_a (k * 10) 3)] ?_ rfl ?_
    · as_aux_lemma => kernel_rfl
    refine OPC (LOADE 3 (.tmp 32) 33 3 ?_ (NL rfl) list_a (k * 10) 3 [vi y2.id, vi y2.cabin, vi y2.from', vi y2.size, vi y2.tier, vi y2.since, vi y2.turn, vi y2.state, vi y2.until', vi y2.asked] (vi y2.size) ?_ (fun w hw => (hlist.fr hw.fr).flat hx_y2) ?_ ?_)
    iterate 3 (as_aux_lemma => kernel_rfl)
    refine RUN0 2 [] [(0, .v (.slice list_a list.length list_c)), (1, I cabin), (5, I (wr (n + y2.size))), (6, I (k : Int))] ?_ rfl ?_
    · as_aux_lemma => kernel_rfl
    refine ENDOPS (OUTN (NEXT (REGION [0, 1, 2] rfl (RUN0 2 [2] [(0, .v (.slice list_a list.length list_c)), (1, I cabin), (5, I (wr (n + y2.size))), (12, I (wr ((k : Int) + 1)))] ?_ rfl ?_))))
    · as_aux_lemma => kernel_rfl
    refine CAST (d := 12) (vi (wr ((k : Int) + 1))) (vi ((k + 1 : Nat) : Int)) ?_ (vi_cast (by omega) (by omega)) ?_
    · as_aux_lemma => kernel_rfl
    refine RUN0 1 [] [(0, .v (.slice list_a list.length list_c)), (1, I cabin), (5, I (wr (n + y2.size))), (6, I ((k + 1 : Nat) : Int))] ?_ rfl ?_
    · as_aux_lemma => kernel_rfl
    refine ENDOPS (BACK (k + 1, ys3, wr (n + y2.size)) [0, 1, 5, 6] 0 [] _ ⟨hl_y2, hd_y2⟩ (by simp) ?_ rfl rfl rfl)
    · as_aux_lemma => kernel_rfl
   ·
    have h5 := bh5
    refine SKIP (OUTN (NEXT (REGION [0, 1, 2] rfl (RUN0 2 [2] [(0, .v (.slice list_a list.length list_c)), (1, I cabin), (5, I n), (12, I (wr ((k : Int) + 1)))] ?_ rfl ?_))))
    · as_aux_lemma => kernel_rfl
    refine CAST (d := 12) (vi (wr ((k : Int) + 1))) (vi ((k + 1 : Nat) : Int)) ?_ (vi_cast (by omega) (by omega)) ?_
    · as_aux_lemma => kernel_rfl
    refine RUN0 1 [] [(0, .v (.slice list_a list.length list_c)), (1, I cabin), (5, I n), (6, I ((k + 1 : Nat) : Int))] ?_ rfl ?_
    · as_aux_lemma => kernel_rfl
    refine ENDOPS (BACK (k + 1, ys3, n) [0, 1, 5, 6] 0 [] _ ⟨hl_y2, hd_y2⟩ (by simp) ?_ rfl rfl rfl)
    · as_aux_lemma => kernel_rfl
  ·
   have h4 := bh4
   have h4 := ne_of_beq_false h4
   refine RUN0 7 [] [(0, .v (.slice list_a list.length list_c)), (1, I cabin), (5, I n), (6, I (k : Int)), (27, B false)] ?_ rfl ?_
   · as_aux_lemma => kernel_rfl
   refine ENDOPS (NEXT (IFF ?_ ?_))
   · as_aux_lemma => kernel_rfl
   refine SKIP (OUTN (NEXT (REGION [0, 1, 2] rfl (RUN0 2 [2] [(0, .v (.slice list_a list.length list_c)), (1, I cabin), (5, I n), (12, I (wr ((k : Int) + 1)))] ?_ rfl ?_))))
   · as_aux_lemma => kernel_rfl
   refine CAST (d := 12) (vi (wr ((k : Int) + 1))) (vi ((k + 1 : Nat) : Int)) ?_ (vi_cast (by omega) (by omega)) ?_
   · as_aux_lemma => kernel_rfl
   refine RUN0 1 [] [(0, .v (.slice list_a list.length list_c)), (1, I cabin), (5, I n), (6, I ((k + 1 : Nat) : Int))] ?_ rfl ?_
   · as_aux_lemma => kernel_rfl
   refine ENDOPS (BACK (k + 1, ys3, n) [0, 1, 5, 6] 0 [] _ ⟨hl_y2, hd_y2⟩ (by simp) ?_ rfl rfl rfl)
   · as_aux_lemma => kernel_rfl
 ·
  have h1 := bh1
  have h1 := of_decide_eq_false h1
  obtain rfl := drop_nil hk (by omega)
  refine EXIT (PASS trivial (PASS trivial (OUT (NEXT (SEQ (REGION [0, 1] rfl (RUN0 2 [] [(4, I n)] ?_ rfl ?_)))))))
  · as_aux_lemma => kernel_rfl
  refine ENDOPS (NEXT (RET (FIN (vi n) ?_ ⟨n, trivial⟩ ?_ [] ?_)))
  · as_aux_lemma => kernel_rfl
  · rfl
  · rfl

theorem l9Less_c (W : World) (a : Pin) (b : Pin) : Spec Tryz.prog W [] 99 #[.agg #[vi a.at', vi a.id], .agg #[vi b.at', vi b.id]] (RV (.bool (pinLess a b))) := by
 refine ENTER0 (N := 24) (vs := [.agg #[vi a.at', vi a.id], .agg #[vi b.at', vi b.id]]) Tryz.func99 rfl rfl (NL rfl) ?_
 refine SEQ (REGION [0, 1, 2] rfl (RUN 3 [] [(2, .p 0 0), (3, .p 1 0)] [(111, [vi a.at', vi a.id]), (111, [vi b.at', vi b.id])] ?_ rfl ?_))
 · as_aux_lemma => kernel_rfl
 refine ENDOPS (NEXT (SEQ (REGION [0, 1, 2, 3, 4, 5, 6, 7, 8, 9, 10, 11, 12, 13, 14, 15, 16, 17, 18, 19] rfl (RUN0 6 [6, 7, 8, 9, 10, 11, 12, 13, 14, 15, 16, 17, 18, 19] [(2, .p 0 0), (3, .p 1 0), (10, B (decide (a.at' < b.at')))] ?_ rfl ?_))))
 · as_aux_lemma => kernel_rfl
 refine SPLIT (d := 10) (decide (a.at' < b.at')) ?_ (fun bh1 => ?_) (fun bh1 => ?_)
 · as_aux_lemma => kernel_rfl
 ·
  have h1 := bh1
  have h1 := of_decide_eq_true h1
  refine RUN0 14 [] [(4, B true)] ?_ rfl ?_
  · as_aux_lemma => kernel_rfl
  refine ENDOPS (NEXT (RET (FIN (.bool true) ?_ () ?_ [] ?_)))
  · as_aux_lemma => kernel_rfl
  · simp [RV, pinLess, *]
  · rfl
 ·
  have h1 := bh1
  have h1 := of_decide_eq_false h1
  refine RUN0 6 [12, 13, 14, 15, 16, 17, 18, 19] [(2, .p 0 0), (3, .p 1 0), (10, B false), (16, B (a.at' == b.at'))] ?_ rfl ?_
  · as_aux_lemma => kernel_rfl
  refine SPLIT (d := 16) (a.at' == b.at') ?_ (fun bh2 => ?_) (fun bh2 => ?_)
  · as_aux_lemma => kernel_rfl
  ·
   have h2 := bh2
   have h2 := eq_of_beq h2
   refine RUN0 8 [] [(4, B (decide (a.id < b.id)))] ?_ rfl ?_
   · as_aux_lemma => kernel_rfl
   refine ENDOPS (NEXT (RET (FIN (.bool (decide (a.id < b.id))) ?_ () ?_ [] ?_)))
   · as_aux_lemma => kernel_rfl
   · simp [RV, pinLess, *]
   · rfl
  ·
   have h2 := bh2
   have h2 := ne_of_beq_false h2
   refine RUN0 8 [] [(4, B false)] ?_ rfl ?_
   · as_aux_lemma => kernel_rfl
   refine ENDOPS (NEXT (RET (FIN (.bool false) ?_ () ?_ [] ?_)))
   · as_aux_lemma => kernel_rfl
   · simp [RV, pinLess, *]
   · rfl

theorem entryLess_c (W : World) (a : Entry) (b : Entry) : Spec Tryz.prog W [] 102 #[.agg #[vi a.level, vi a.turn, vi a.id, vi a.size], .agg #[vi b.level, vi b.turn, vi b.id, vi b.size]] (RV (.bool (entryLess a b))) := by
 refine ENTER0 (N := 24) (vs := [.agg #[vi a.level, vi a.turn, vi a.id, vi a.size], .agg #[vi b.level, vi b.turn, vi b.id, vi b.size]]) Tryz.func102 rfl rfl (NL rfl) ?_
 refine SEQ (REGION [0, 1, 2] rfl (RUN 3 [] [(2, .p 0 0), (3, .p 1 0)] [(129, [vi a.level, vi a.turn, vi a.id, vi a.size]), (129, [vi b.level, vi b.turn, vi b.id, vi b.size])] ?_ rfl ?_))
 · as_aux_lemma => kernel_rfl
 refine ENDOPS (NEXT (SEQ (REGION [0, 1, 2, 3, 4, 5, 6, 7, 8, 9, 10, 11, 12, 13, 14, 15, 16, 17, 18, 19] rfl (RUN0 6 [6, 7, 8, 9, 10, 11, 12, 13, 14, 15, 16, 17, 18, 19] [(2, .p 0 0), (3, .p 1 0), (10, B (decide (a.level < b.level)))] ?_ rfl ?_))))
 · as_aux_lemma => kernel_rfl
 refine SPLIT (d := 10) (decide (a.level < b.level)) ?_ (fun bh1 => ?_) (fun bh1 => ?_)
 · as_aux_lemma => kernel_rfl
 ·
  have h1 := bh1
  have h1 := of_decide_eq_true h1
  refine RUN0 14 [] [(4, B true)] ?_ rfl ?_
  · as_aux_lemma => kernel_rfl
  refine ENDOPS (NEXT (RET (FIN (.bool true) ?_ () ?_ [] ?_)))
  · as_aux_lemma => kernel_rfl
  · simp [RV, entryLess, *]
  · rfl
 ·
  have h1 := bh1
  have h1 := of_decide_eq_false h1
  refine RUN0 6 [12, 13, 14, 15, 16, 17, 18, 19] [(2, .p 0 0), (3, .p 1 0), (10, B false), (16, B (a.level == b.level))] ?_ rfl ?_
  · as_aux_lemma => kernel_rfl
  refine SPLIT (d := 16) (a.level == b.level) ?_ (fun bh2 => ?_) (fun bh2 => ?_)
  · as_aux_lemma => kernel_rfl
  ·
   have h2 := bh2
   have h2 := eq_of_beq h2
   refine RUN0 8 [] [(4, B (decide (a.turn < b.turn)))] ?_ rfl ?_
   · as_aux_lemma => kernel_rfl
   refine ENDOPS (NEXT (RET (FIN (.bool (decide (a.turn < b.turn))) ?_ () ?_ [] ?_)))
   · as_aux_lemma => kernel_rfl
   · simp [RV, entryLess, *]
   · rfl
  ·
   have h2 := bh2
   have h2 := ne_of_beq_false h2
   refine RUN0 8 [] [(4, B false)] ?_ rfl ?_
   · as_aux_lemma => kernel_rfl
   refine ENDOPS (NEXT (RET (FIN (.bool false) ?_ () ?_ [] ?_)))
   · as_aux_lemma => kernel_rfl
   · simp [RV, entryLess, *]
   · rfl

theorem l7Copy_c (W : World) (list : List Entry) (list_a : Option Addr) (list_c : Nat) (hlist : Rd entryL W list_a list) (hb : list.length ≤ 1048576) : Spec Tryz.prog W [] 103 #[.slice list_a list.length list_c] (⟨HH, fun p => .slice p.1 list.length p.2, fun p => [slA 129 entryL (.slice p.1 list.length p.2) list]⟩) := by
 refine ENTER0 (N := 6) (vs := [.slice list_a list.length list_c]) Tryz.func103 rfl rfl (NL rfl) ?_
 have hlist_len := hlist.len
 refine SEQ (REGION [0] rfl (RUN0 1 [] [(0, .v (.slice list_a list.length list_c))] ?_ rfl ?_))
 · as_aux_lemma => kernel_rfl
 refine ENDOPS (NEXT (SEQ (REGION [0, 1, 2, 3] rfl (OPC (BUILDS 88 0 #[] 3 88 ?_ (NL rfl) 129 [] ?_ entryL [] rfl (by simp only [maxLen]; omega) [] [] _ rfl (flatRep rfl) (fun a1 ha2 => ?_))))))
 iterate 2 (as_aux_lemma => kernel_rfl)
 refine RUN0 1 [2, 3] [(3, .v (.slice a1 0 0)), (4, .v (.slice list_a list.length list_c))] ?_ rfl ?_
 · as_aux_lemma => kernel_rfl
 refine OPC (APPENDR 88 (.tmp 3) (.tmp 4) 5 88 ?_ (NL rfl) (.slice a1 0 0) list_a list.length list_c ?_ ?_ 129 ?_ (.agg #[vi 0, vi 0, vi 0, vi 0]) 32 ?_ rfl (by decide) 0 ([]) list _ rfl rfl (fun w hw => (hlist.fr hw.fr)) (by first | omega | (simp only [List.length_append, List.length_cons, List.length_nil, List.length_take, List.length_drop] at *; omega)) (by simp only [maxLen]; first | omega | (simp only [List.length_append, List.length_cons, List.length_nil, List.length_take, List.length_drop] at *; omega)) (fun a3 c4 hn5 => ?_))
 iterate 5 (as_aux_lemma => kernel_rfl)
 refine RUN0 1 [] [(2, .v (.slice a3 ((([]) ++ list).length) c4))] ?_ rfl ?_
 · as_aux_lemma => kernel_rfl
 refine ENDOPS (NEXT (RET ?_))
 have e6 : ([]) ++ list = list := by simp
 refine FIN (.slice a3 ((([]) ++ list).length) c4) ?_ (a3, c4) ?_ [0] ?_
 · as_aux_lemma => kernel_rfl
 · exact congrArg (fun z : List Entry => Value.slice a3 z.length c4) e6
 · exact congrArg (fun z : List Entry => some [slA 129 entryL (.slice a3 z.length c4) z]) e6

theorem l5Copy_c (W : World) (r : Rules) (r_seats_a : Option Addr) (r_seats_c : Nat) (hr_seats : Rd intL W r_seats_a r.seats) (hb : r.seats.length ≤ 1048576) : Spec Tryz.prog W [] 67 #[.agg #[.slice r_seats_a r.seats.length r_seats_c, vi r.tiers, vi r.room, vi r.size, vi r.period, vi r.window, vi r.rest, vi r.tries, vi r.crew]] (⟨HH, fun p => .agg #[.slice p.1 r.seats.length p.2, vi r.tiers, vi r.room, vi r.size, vi r.period, vi r.window, vi r.rest, vi r.tries, vi r.crew], fun p => [slA 3 intL (.slice p.1 r.seats.length p.2) r.seats]⟩) := by
 refine ENTER0 (N := 9) (vs := [.agg #[.slice r_seats_a r.seats.length r_seats_c, vi r.tiers, vi r.room, vi r.size, vi r.period, vi r.window, vi r.rest, vi r.tries, vi r.crew]]) Tryz.func67 rfl rfl (NL rfl) ?_
 have hr_seats_len := hr_seats.len
 refine SEQ (REGION [0, 1] rfl (RUN 2 [] [(1, .p 0 0), (2, .p 1 0)] [(51, [.slice r_seats_a r.seats.length r_seats_c, vi r.tiers, vi r.room, vi r.size, vi r.period, vi r.window, vi r.rest, vi r.tries, vi r.crew]), (51, [.slice none 0 0, vi 0, vi 0, vi 0, vi 0, vi 0, vi 0, vi 0, vi 0])] ?_ rfl ?_))
 · as_aux_lemma => kernel_rfl
 refine ENDOPS (NEXT (SEQ (REGION [0, 1, 2, 3, 4, 5] rfl (OPC (BUILDS 42 0 #[] 3 42 ?_ (NL rfl) 3 [] ?_ intL [] rfl (by simp only [maxLen]; omega) [] [] _ rfl (flatRep rfl) (fun a1 ha2 => ?_))))))
 iterate 2 (as_aux_lemma => kernel_rfl)
 refine RUN0 2 [3, 4, 5] [(1, .p 0 0), (2, .p 1 0), (3, .v (.slice a1 0 0)), (5, .v (.slice r_seats_a r.seats.length r_seats_c))] ?_ rfl ?_
 · as_aux_lemma => kernel_rfl
 refine OPC (APPENDR 42 (.tmp 3) (.tmp 5) 6 42 ?_ (NL rfl) (.slice a1 0 0) r_seats_a r.seats.length r_seats_c ?_ ?_ 3 ?_ (vi 0) 8 ?_ rfl (by decide) 0 ([]) r.seats _ rfl rfl (fun w hw => (hr_seats.fr hw.fr)) (by first | omega | (simp only [List.length_append, List.length_cons, List.length_nil, List.length_take, List.length_drop] at *; omega)) (by simp only [maxLen]; first | omega | (simp only [List.length_append, List.length_cons, List.length_nil, List.length_take, List.length_drop] at *; omega)) (fun a3 c4 hn5 => ?_))
 iterate 5 (as_aux_lemma => kernel_rfl)
 refine RUN 2 [] [(1, .p 0 0), (2, .p 1 0)] [(51, [.slice a3 ((([]) ++ r.seats).length) c4, vi r.tiers, vi r.room, vi r.size, vi r.period, vi r.window, vi r.rest, vi r.tries, vi r.crew]), (51, [.slice none 0 0, vi 0, vi 0, vi 0, vi 0, vi 0, vi 0, vi 0, vi 0])] ?_ rfl ?_
 · as_aux_lemma => kernel_rfl
 refine ENDOPS (NEXT (SEQ (REGION [0, 1] rfl (RUN 2 [] [(2, .p 1 0)] [(51, [.slice a3 ((([]) ++ r.seats).length) c4, vi r.tiers, vi r.room, vi r.size, vi r.period, vi r.window, vi r.rest, vi r.tries, vi r.crew]), (51, [.slice a3 ((([]) ++ r.seats).length) c4, vi r.tiers, vi r.room, vi r.size, vi r.period, vi r.window, vi r.rest, vi r.tries, vi r.crew])] ?_ rfl ?_))))
 · as_aux_lemma => kernel_rfl
 refine ENDOPS (NEXT (RET ?_))
 have efin : r.seats = [] ++ r.seats := by simp
 refine FIN (.agg #[.slice a3 ((([]) ++ r.seats).length) c4, vi r.tiers, vi r.room, vi r.size, vi r.period, vi r.window, vi r.rest, vi r.tries, vi r.crew]) ?_ (a3, c4) ?_ [0] ?_
 · as_aux_lemma => kernel_rfl
 · (rw [efin] <;> rfl)
 · (rw [efin] <;> rfl)

theorem sRulesOk_c (W : World) (r : Rules) (r_seats_a : Option Addr) (r_seats_c : Nat) (hr_seats : Rd intL W r_seats_a r.seats) : Spec Tryz.prog W [] 66 #[.agg #[.slice r_seats_a r.seats.length r_seats_c, vi r.tiers, vi r.room, vi r.size, vi r.period, vi r.window, vi r.rest, vi r.tries, vi r.crew]] (RV (.bool (rulesOk r))) := by
 refine ENTER0 (N := 65) (vs := [.agg #[.slice r_seats_a r.seats.length r_seats_c, vi r.tiers, vi r.room, vi r.size, vi r.period, vi r.window, vi r.rest, vi r.tries, vi r.crew]]) Tryz.func66 rfl rfl (NL rfl) ?_
 have hr_seats_len := hr_seats.len
 refine SEQ (REGION [0, 1] rfl (RUN 2 [] [(1, .p 0 0)] [(51, [.slice r_seats_a r.seats.length r_seats_c, vi r.tiers, vi r.room, vi r.size, vi r.period, vi r.window, vi r.rest, vi r.tries, vi r.crew])] ?_ rfl ?_))
 · as_aux_lemma => kernel_rfl
 refine ENDOPS (NEXT (SEQ (SEQ (REGION [0, 1, 2, 3, 4, 5, 6, 7, 8, 9, 10, 11, 12, 13, 14, 15, 16, 17, 18, 19, 20, 21, 22, 23, 24, 25, 26, 27, 28] rfl (RUN0 3 [3, 4, 5, 6, 7, 8, 9, 10, 11, 12, 13, 14, 15, 16, 17, 18, 19, 20, 21, 22, 23, 24, 25, 26, 27, 28] [(1, .p 0 0), (6, I (r.seats.length : Int))] ?_ rfl ?_)))))
 · as_aux_lemma => kernel_rfl
 refine OPC (CALL 60 #[vi (r.seats.length : Int), vi 1, vi 4] (some 7) ?_ [] [] _ rfl (RV (.bool (inB (r.seats.length : Int) 1 4))) (fun w hw => l1In_c w (r.seats.length : Int) 1 4) (NO rfl) ?_)
 · as_aux_lemma => kernel_rfl
 rintro ⟨⟩
 refine RUN0 2 [6, 7, 8, 9, 10, 11, 12, 13, 14, 15, 16, 17, 18, 19, 20, 21, 22, 23, 24, 25, 26, 27, 28] [(1, .p 0 0), (9, B (!(inB (r.seats.length : Int) 1 4)))] ?_ rfl ?_
 · as_aux_lemma => kernel_rfl
 refine SPLIT (d := 9) (!(inB (r.seats.length : Int) 1 4)) ?_ (fun bh1 => ?_) (fun bh1 => ?_)
 · as_aux_lemma => kernel_rfl
 ·
  have h1 := bh1
  have h1 := notT h1
  refine RUN0 23 [] [(1, .p 0 0), (32, B true)] ?_ rfl ?_
  · as_aux_lemma => kernel_rfl
  refine ENDOPS (NEXT (IFT ?_ ?_))
  · as_aux_lemma => kernel_rfl
  refine SEQ (REGION [0] rfl (RUN0 1 [] [(2, B false)] ?_ rfl ?_))
  · as_aux_lemma => kernel_rfl
  refine ENDOPS (NEXT (RET (PASS trivial (FIN (.bool false) ?_ () ?_ [] ?_))))
  · as_aux_lemma => kernel_rfl
  · simp [RV, rulesOk, allSeats, *]
  · rfl
 ·
  have h1 := bh1
  have h1 := notF h1
  refine RUN0 2 [8, 9, 10, 11, 12, 13, 14, 15, 16, 17, 18, 19, 20, 21, 22, 23, 24, 25, 26, 27, 28] [(1, .p 0 0), (9, B false), (11, I r.tiers)] ?_ rfl ?_
  · as_aux_lemma => kernel_rfl
  refine OPC (CALL 60 #[vi r.tiers, vi 1, vi 5] (some 12) ?_ [] [] _ rfl (RV (.bool (inB r.tiers 1 5))) (fun w hw => l1In_c w r.tiers 1 5) (NO rfl) ?_)
  · as_aux_lemma => kernel_rfl
  rintro ⟨⟩
  refine RUN0 3 [12, 13, 14, 15, 16, 17, 18, 19, 20, 21, 22, 23, 24, 25, 26, 27, 28] [(1, .p 0 0), (15, B (!(inB r.tiers 1 5)))] ?_ rfl ?_
  · as_aux_lemma => kernel_rfl
  refine SPLIT (d := 15) (!(inB r.tiers 1 5)) ?_ (fun bh2 => ?_) (fun bh2 => ?_)
  · as_aux_lemma => kernel_rfl
  ·
   have h2 := bh2
   have h2 := notT h2
   refine RUN0 17 [] [(1, .p 0 0), (32, B true)] ?_ rfl ?_
   · as_aux_lemma => kernel_rfl
   refine ENDOPS (NEXT (IFT ?_ ?_))
   · as_aux_lemma => kernel_rfl
   refine SEQ (REGION [0] rfl (RUN0 1 [] [(2, B false)] ?_ rfl ?_))
   · as_aux_lemma => kernel_rfl
   refine ENDOPS (NEXT (RET (PASS trivial (FIN (.bool false) ?_ () ?_ [] ?_))))
   · as_aux_lemma => kernel_rfl
   · simp [RV, rulesOk, allSeats, *]
   · rfl
  ·
   have h2 := bh2
   have h2 := notF h2
   refine RUN0 2 [14, 15, 16, 17, 18, 19, 20, 21, 22, 23, 24, 25, 26, 27, 28] [(1, .p 0 0), (15, B false), (17, I r.room)] ?_ rfl ?_
   · as_aux_lemma => kernel_rfl
   refine OPC (CALL 60 #[vi r.room, vi 1, vi 10] (some 18) ?_ [] [] _ rfl (RV (.bool (inB r.room 1 10))) (fun w hw => l1In_c w r.room 1 10) (NO rfl) ?_)
   · as_aux_lemma => kernel_rfl
   rintro ⟨⟩
   refine RUN0 3 [18, 19, 20, 21, 22, 23, 24, 25, 26, 27, 28] [(1, .p 0 0), (21, B (!(inB r.room 1 10)))] ?_ rfl ?_
   · as_aux_lemma => kernel_rfl
   refine SPLIT (d := 21) (!(inB r.room 1 10)) ?_ (fun bh3 => ?_) (fun bh3 => ?_)
   · as_aux_lemma => kernel_rfl
   ·
    have h3 := bh3
    have h3 := notT h3
    refine RUN0 11 [] [(1, .p 0 0), (32, B true)] ?_ rfl ?_
    · as_aux_lemma => kernel_rfl
    refine ENDOPS (NEXT (IFT ?_ ?_))
    · as_aux_lemma => kernel_rfl
    refine SEQ (REGION [0] rfl (RUN0 1 [] [(2, B false)] ?_ rfl ?_))
    · as_aux_lemma => kernel_rfl
    refine ENDOPS (NEXT (RET (PASS trivial (FIN (.bool false) ?_ () ?_ [] ?_))))
    · as_aux_lemma => kernel_rfl
    · simp [RV, rulesOk, allSeats, *]
    · rfl
   ·
    have h3 := bh3
    have h3 := notF h3
    refine RUN0 2 [20, 21, 22, 23, 24, 25, 26, 27, 28] [(1, .p 0 0), (21, B false), (23, I r.size)] ?_ rfl ?_
    · as_aux_lemma => kernel_rfl
    refine OPC (CALL 60 #[vi r.size, vi 1, vi 6] (some 24) ?_ [] [] _ rfl (RV (.bool (inB r.size 1 6))) (fun w hw => l1In_c w r.size 1 6) (NO rfl) ?_)
    · as_aux_lemma => kernel_rfl
    rintro ⟨⟩
    refine RUN0 3 [24, 25, 26, 27, 28] [(1, .p 0 0), (27, B (!(inB r.size 1 6)))] ?_ rfl ?_
    · as_aux_lemma => kernel_rfl
    refine SPLIT (d := 27) (!(inB r.size 1 6)) ?_ (fun bh4 => ?_) (fun bh4 => ?_)
    · as_aux_lemma => kernel_rfl
    ·
     have h4 := bh4
     have h4 := notT h4
     refine RUN0 5 [] [(1, .p 0 0), (32, B true)] ?_ rfl ?_
     · as_aux_lemma => kernel_rfl
     refine ENDOPS (NEXT (IFT ?_ ?_))
     · as_aux_lemma => kernel_rfl
     refine SEQ (REGION [0] rfl (RUN0 1 [] [(2, B false)] ?_ rfl ?_))
     · as_aux_lemma => kernel_rfl
     refine ENDOPS (NEXT (RET (PASS trivial (FIN (.bool false) ?_ () ?_ [] ?_))))
     · as_aux_lemma => kernel_rfl
     · simp [RV, rulesOk, allSeats, *]
     · rfl
    ·
     have h4 := bh4
     have h4 := notF h4
     refine RUN0 2 [26, 27, 28] [(1, .p 0 0), (27, B false), (29, I r.period)] ?_ rfl ?_
     · as_aux_lemma => kernel_rfl
     refine OPC (CALL 60 #[vi r.period, vi 1, vi 12] (some 30) ?_ [] [] _ rfl (RV (.bool (inB r.period 1 12))) (fun w hw => l1In_c w r.period 1 12) (NO rfl) ?_)
     · as_aux_lemma => kernel_rfl
     rintro ⟨⟩
     refine RUN0 2 [] [(1, .p 0 0), (32, B (!(inB r.period 1 12)))] ?_ rfl ?_
     · as_aux_lemma => kernel_rfl
     refine ENDOPS (NEXT (IF (!(inB r.period 1 12)) ?_ (fun bh5 => ?_) (fun bh5 => ?_)))
     · as_aux_lemma => kernel_rfl
     ·
      have h5 := bh5
      have h5 := notT h5
      refine SEQ (REGION [0] rfl (RUN0 1 [] [(2, B false)] ?_ rfl ?_))
      · as_aux_lemma => kernel_rfl
      refine ENDOPS (NEXT (RET (PASS trivial (FIN (.bool false) ?_ () ?_ [] ?_))))
      · as_aux_lemma => kernel_rfl
      · simp [RV, rulesOk, allSeats, *]
      · rfl
     ·
      have h5 := bh5
      have h5 := notF h5
      refine SKIP (NEXT (SEQ (SEQ (REGION [0] rfl (RUN0 1 [] [(1, .p 0 0), (3, I 0)] ?_ rfl ?_)))))
      · as_aux_lemma => kernel_rfl
      refine ENDOPS (NEXT (BLOCK (LOOP (ι := Nat × (List Int)) (fun j => [(1, .p 0 0), (3, I (j.1 : Int))]) (fun j => [(51, [.slice r_seats_a r.seats.length r_seats_c, vi r.tiers, vi r.room, vi r.size, vi r.period, vi r.window, vi r.rest, vi r.tries, vi r.crew])]) (fun j => []) (fun j => j.1 + j.2.length = r.seats.length ∧ r.seats.drop j.1 = j.2 ∧ allSeats r.seats = allSeats j.2) (fun j => j.2.length) (0, r.seats) [1, 3] ⟨by simp, rfl, rfl⟩ ?_ rfl rfl ?_)))
      · as_aux_lemma => kernel_rfl
      rintro ⟨k, ys⟩ ⟨hk, hd, hv0⟩
      try dsimp only at hk hd hv0
      refine SEQ (SEQ (REGION [0, 1, 2, 3, 4] rfl (RUN0 5 [] [(1, .p 0 0), (3, I (k : Int)), (37, B (decide ((k : Int) < (r.seats.length : Int))))] ?_ rfl ?_)))
      · as_aux_lemma => kernel_rfl
      refine ENDOPS (NEXT (IF (decide ((k : Int) < (r.seats.length : Int))) ?_ (fun bh6 => ?_) (fun bh6 => ?_)))
      · as_aux_lemma => kernel_rfl
      ·
       have h6 := bh6
       have h6 := of_decide_eq_true h6
       obtain ⟨y7, ys8, rfl, hx_y7, hd_y7, hl_y7⟩ := drop_cons hd hk (by omega)
       refine SKIP (NEXT (SEQ (BLOCK (SEQ (REGION [0, 1, 2, 3, 4, 5, 6] rfl (RUN0 3 [3, 4, 5, 6] [(1, .p 0 0), (3, I (k : Int)), (41, .v (.slice r_seats_a r.seats.length r_seats_c)), (42, I (k : Int))] ?_ rfl ?_))))))
       · as_aux_lemma => kernel_rfl
       refine OPC (INDEX 42 (.tmp 41) (.tmp 42) 43 0 ?_ (NL rfl) r_seats_a r.seats.length r_seats_c .i64 (k : Int) 3 1 ?_ ?_ ?_ ?_ (Rd.some hr_seats (by omega)) (by omega) (by omega) ?_)
       iterate 5 (as_aux_lemma => kernel_rfl)
       refine OPC (LOADE 3 (.tmp 43) 44 3 ?_ (NL rfl) r_seats_a (k * 1) 0 [vi y7] (vi y7) ?_ (fun w hw => (hr_seats.fr hw.fr).flat hx_y7) ?_ ?_)
       iterate 3 (as_aux_lemma => kernel_rfl)
       refine OPC (CALL 60 #[vi y7, vi 1, vi 60] (some 45) ?_ [] [] _ rfl (RV (.bool (inB y7 1 60))) (fun w hw => l1In_c w y7 1 60) (NO rfl) ?_)
       · as_aux_lemma => kernel_rfl
       rintro ⟨⟩
       refine RUN0 1 [] [(1, .p 0 0), (3, I (k : Int)), (46, B (!(inB y7 1 60)))] ?_ rfl ?_
       · as_aux_lemma => kernel_rfl
       refine ENDOPS (NEXT (IF (!(inB y7 1 60)) ?_ (fun bh9 => ?_) (fun bh9 => ?_)))
       · as_aux_lemma => kernel_rfl
       ·
        have h9 := bh9
        have h9 := notT h9
        refine SEQ (REGION [0] rfl (RUN0 1 [] [(2, B false)] ?_ rfl ?_))
        · as_aux_lemma => kernel_rfl
        refine ENDOPS (NEXT (RET (OUTR (PASS trivial (PASS trivial (OUTR (PASS trivial (FIN (.bool false) ?_ () ?_ [] ?_))))))))
        · as_aux_lemma => kernel_rfl
        · simp [RV, rulesOk, allSeats, *]
        · rfl
       ·
        have h9 := bh9
        have h9 := notF h9
        refine SKIP (OUTN (NEXT (REGION [0, 1, 2] rfl (RUN0 2 [2] [(1, .p 0 0), (39, I (wr ((k : Int) + 1)))] ?_ rfl ?_))))
        · as_aux_lemma => kernel_rfl
        refine CAST (d := 39) (vi (wr ((k : Int) + 1))) (vi ((k + 1 : Nat) : Int)) ?_ (vi_cast (by omega) (by omega)) ?_
        · as_aux_lemma => kernel_rfl
        refine RUN0 1 [] [(1, .p 0 0), (3, I ((k + 1 : Nat) : Int))] ?_ rfl ?_
        · as_aux_lemma => kernel_rfl
        refine ENDOPS (BACK (k + 1, ys8) [1, 3] 1 [] _ ⟨hl_y7, hd_y7, hv0.trans (by simp [allSeats, *])⟩ (by simp) ?_ rfl rfl rfl)
        · as_aux_lemma => kernel_rfl
      ·
       have h6 := bh6
       have h6 := of_decide_eq_false h6
       obtain rfl := drop_nil hk (by omega)
       refine EXIT (PASS trivial (PASS trivial (OUT (NEXT (SEQ (REGION [0, 1, 2, 3, 4, 5, 6, 7, 8, 9, 10, 11, 12, 13, 14, 15, 16, 17, 18] rfl (RUN0 2 [2, 3, 4, 5, 6, 7, 8, 9, 10, 11, 12, 13, 14, 15, 16, 17, 18] [(1, .p 0 0), (48, I r.window)] ?_ rfl ?_)))))))
       · as_aux_lemma => kernel_rfl
       refine OPC (CALL 60 #[vi r.window, vi 1, vi 8] (some 49) ?_ [] [] _ rfl (RV (.bool (inB r.window 1 8))) (fun w hw => l1In_c w r.window 1 8) (NO rfl) ?_)
       · as_aux_lemma => kernel_rfl
       rintro ⟨⟩
       refine RUN0 1 [4, 5, 6, 7, 8, 9, 10, 11, 12, 13, 14, 15, 16, 17, 18] [(1, .p 0 0), (50, B (inB r.window 1 8))] ?_ rfl ?_
       · as_aux_lemma => kernel_rfl
       refine SPLIT (d := 50) (inB r.window 1 8) ?_ (fun bh10 => ?_) (fun bh10 => ?_)
       · as_aux_lemma => kernel_rfl
       ·
        have h10 := bh10
        refine RUN0 2 [6, 7, 8, 9, 10, 11, 12, 13, 14, 15, 16, 17, 18] [(1, .p 0 0), (50, B true), (52, I r.rest)] ?_ rfl ?_
        · as_aux_lemma => kernel_rfl
        refine OPC (CALL 60 #[vi r.rest, vi 0, vi 8] (some 53) ?_ [] [] _ rfl (RV (.bool (inB r.rest 0 8))) (fun w hw => l1In_c w r.rest 0 8) (NO rfl) ?_)
        · as_aux_lemma => kernel_rfl
        rintro ⟨⟩
        refine RUN0 2 [9, 10, 11, 12, 13, 14, 15, 16, 17, 18] [(1, .p 0 0), (55, B (inB r.rest 0 8))] ?_ rfl ?_
        · as_aux_lemma => kernel_rfl
        refine SPLIT (d := 55) (inB r.rest 0 8) ?_ (fun bh11 => ?_) (fun bh11 => ?_)
        · as_aux_lemma => kernel_rfl
        ·
         have h11 := bh11
         refine RUN0 2 [11, 12, 13, 14, 15, 16, 17, 18] [(1, .p 0 0), (55, B true), (57, I r.tries)] ?_ rfl ?_
         · as_aux_lemma => kernel_rfl
         refine OPC (CALL 60 #[vi r.tries, vi 1, vi 4] (some 58) ?_ [] [] _ rfl (RV (.bool (inB r.tries 1 4))) (fun w hw => l1In_c w r.tries 1 4) (NO rfl) ?_)
         · as_aux_lemma => kernel_rfl
         rintro ⟨⟩
         refine RUN0 2 [14, 15, 16, 17, 18] [(1, .p 0 0), (60, B (inB r.tries 1 4))] ?_ rfl ?_
         · as_aux_lemma => kernel_rfl
         refine SPLIT (d := 60) (inB r.tries 1 4) ?_ (fun bh12 => ?_) (fun bh12 => ?_)
         · as_aux_lemma => kernel_rfl
         ·
          have h12 := bh12
          refine RUN0 2 [16, 17, 18] [(60, B true), (62, I r.crew)] ?_ rfl ?_
          · as_aux_lemma => kernel_rfl
          refine OPC (CALL 60 #[vi r.crew, vi 1, vi 3] (some 63) ?_ [] [] _ rfl (RV (.bool (inB r.crew 1 3))) (fun w hw => l1In_c w r.crew 1 3) (NO rfl) ?_)
          · as_aux_lemma => kernel_rfl
          rintro ⟨⟩
          refine RUN0 2 [] [(2, B (inB r.crew 1 3))] ?_ rfl ?_
          · as_aux_lemma => kernel_rfl
          refine ENDOPS (NEXT (RET (FIN (.bool (inB r.crew 1 3)) ?_ () ?_ [] ?_)))
          · as_aux_lemma => kernel_rfl
          · simp [RV, rulesOk, allSeats, *]
          · rfl
         ·
          have h12 := bh12
          refine RUN0 5 [] [(2, B false)] ?_ rfl ?_
          · as_aux_lemma => kernel_rfl
          refine ENDOPS (NEXT (RET (FIN (.bool false) ?_ () ?_ [] ?_)))
          · as_aux_lemma => kernel_rfl
          · simp [RV, rulesOk, allSeats, *]
          · rfl
        ·
         have h11 := bh11
         refine RUN0 10 [] [(2, B false)] ?_ rfl ?_
         · as_aux_lemma => kernel_rfl
         refine ENDOPS (NEXT (RET (FIN (.bool false) ?_ () ?_ [] ?_)))
         · as_aux_lemma => kernel_rfl
         · simp [RV, rulesOk, allSeats, *]
         · rfl
       ·
        have h10 := bh10
        refine RUN0 15 [] [(2, B false)] ?_ rfl ?_
        · as_aux_lemma => kernel_rfl
        refine ENDOPS (NEXT (RET (FIN (.bool false) ?_ () ?_ [] ?_)))
        · as_aux_lemma => kernel_rfl
        · simp [RV, rulesOk, allSeats, *]
        · rfl

theorem ledgerOk_c (W : World) (l : Ledger) : Spec Tryz.prog W [] 98 #[.agg #[vi l.total, vi l.free, vi l.held, vi l.sold, vi l.tied]] (⟨{x : Bool // True}, fun q => .bool q.1, fun q => []⟩) := by
 refine ENTER0 (N := 47) (vs := [.agg #[vi l.total, vi l.free, vi l.held, vi l.sold, vi l.tied]]) Tryz.func98 rfl rfl (NL rfl) ?_
 refine SEQ (REGION [0, 1] rfl (RUN 2 [] [(1, .p 0 0)] [(87, [vi l.total, vi l.free, vi l.held, vi l.sold, vi l.tied])] ?_ rfl ?_))
 · as_aux_lemma => kernel_rfl
 refine ENDOPS (NEXT (SEQ (REGION [0, 1, 2, 3, 4, 5, 6, 7, 8, 9, 10, 11, 12, 13, 14, 15, 16, 17, 18, 19, 20, 21, 22, 23, 24, 25, 26, 27, 28, 29, 30, 31, 32, 33, 34, 35, 36, 37, 38, 39, 40, 41, 42, 43, 44] rfl (RUN0 2 [2, 3, 4, 5, 6, 7, 8, 9, 10, 11, 12, 13, 14, 15, 16, 17, 18, 19, 20, 21, 22, 23, 24, 25, 26, 27, 28, 29, 30, 31, 32, 33, 34, 35, 36, 37, 38, 39, 40, 41, 42, 43, 44] [(1, .p 0 0), (4, I l.total)] ?_ rfl ?_))))
 · as_aux_lemma => kernel_rfl
 refine OPC (CALL 60 #[vi l.total, vi 1, vi 60] (some 5) ?_ [] [] _ rfl (RV (.bool (inB l.total 1 60))) (fun w hw => l1In_c w l.total 1 60) (NO rfl) ?_)
 · as_aux_lemma => kernel_rfl
 rintro ⟨⟩
 refine RUN0 1 [4, 5, 6, 7, 8, 9, 10, 11, 12, 13, 14, 15, 16, 17, 18, 19, 20, 21, 22, 23, 24, 25, 26, 27, 28, 29, 30, 31, 32, 33, 34, 35, 36, 37, 38, 39, 40, 41, 42, 43, 44] [(1, .p 0 0), (6, B (inB l.total 1 60))] ?_ rfl ?_
 · as_aux_lemma => kernel_rfl
 refine SPLIT (d := 6) (inB l.total 1 60) ?_ (fun bh1 => ?_) (fun bh1 => ?_)
 · as_aux_lemma => kernel_rfl
 ·
  have h1 := bh1
  refine RUN0 4 [8, 9, 10, 11, 12, 13, 14, 15, 16, 17, 18, 19, 20, 21, 22, 23, 24, 25, 26, 27, 28, 29, 30, 31, 32, 33, 34, 35, 36, 37, 38, 39, 40, 41, 42, 43, 44] [(1, .p 0 0), (6, B true), (8, I l.free), (10, I l.total)] ?_ rfl ?_
  · as_aux_lemma => kernel_rfl
  refine OPC (CALL 60 #[vi l.free, vi 0, vi l.total] (some 11) ?_ [] [] _ rfl (RV (.bool (inB l.free 0 l.total))) (fun w hw => l1In_c w l.free 0 l.total) (NO rfl) ?_)
  · as_aux_lemma => kernel_rfl
  rintro ⟨⟩
  refine RUN0 2 [11, 12, 13, 14, 15, 16, 17, 18, 19, 20, 21, 22, 23, 24, 25, 26, 27, 28, 29, 30, 31, 32, 33, 34, 35, 36, 37, 38, 39, 40, 41, 42, 43, 44] [(1, .p 0 0), (13, B (inB l.free 0 l.total))] ?_ rfl ?_
  · as_aux_lemma => kernel_rfl
  refine SPLIT (d := 13) (inB l.free 0 l.total) ?_ (fun bh2 => ?_) (fun bh2 => ?_)
  · as_aux_lemma => kernel_rfl
  ·
   have h2 := bh2
   refine RUN0 4 [15, 16, 17, 18, 19, 20, 21, 22, 23, 24, 25, 26, 27, 28, 29, 30, 31, 32, 33, 34, 35, 36, 37, 38, 39, 40, 41, 42, 43, 44] [(1, .p 0 0), (13, B true), (15, I l.held), (17, I l.total)] ?_ rfl ?_
   · as_aux_lemma => kernel_rfl
   refine OPC (CALL 60 #[vi l.held, vi 0, vi l.total] (some 18) ?_ [] [] _ rfl (RV (.bool (inB l.held 0 l.total))) (fun w hw => l1In_c w l.held 0 l.total) (NO rfl) ?_)
   · as_aux_lemma => kernel_rfl
   rintro ⟨⟩
   refine RUN0 2 [18, 19, 20, 21, 22, 23, 24, 25, 26, 27, 28, 29, 30, 31, 32, 33, 34, 35, 36, 37, 38, 39, 40, 41, 42, 43, 44] [(1, .p 0 0), (20, B (inB l.held 0 l.total))] ?_ rfl ?_
   · as_aux_lemma => kernel_rfl
   refine SPLIT (d := 20) (inB l.held 0 l.total) ?_ (fun bh3 => ?_) (fun bh3 => ?_)
   · as_aux_lemma => kernel_rfl
   ·
    have h3 := bh3
    refine RUN0 4 [22, 23, 24, 25, 26, 27, 28, 29, 30, 31, 32, 33, 34, 35, 36, 37, 38, 39, 40, 41, 42, 43, 44] [(1, .p 0 0), (20, B true), (22, I l.sold), (24, I l.total)] ?_ rfl ?_
    · as_aux_lemma => kernel_rfl
    refine OPC (CALL 60 #[vi l.sold, vi 0, vi l.total] (some 25) ?_ [] [] _ rfl (RV (.bool (inB l.sold 0 l.total))) (fun w hw => l1In_c w l.sold 0 l.total) (NO rfl) ?_)
    · as_aux_lemma => kernel_rfl
    rintro ⟨⟩
    refine RUN0 2 [25, 26, 27, 28, 29, 30, 31, 32, 33, 34, 35, 36, 37, 38, 39, 40, 41, 42, 43, 44] [(1, .p 0 0), (27, B (inB l.sold 0 l.total))] ?_ rfl ?_
    · as_aux_lemma => kernel_rfl
    refine SPLIT (d := 27) (inB l.sold 0 l.total) ?_ (fun bh4 => ?_) (fun bh4 => ?_)
    · as_aux_lemma => kernel_rfl
    ·
     have h4 := bh4
     refine RUN0 13 [38, 39, 40, 41, 42, 43, 44] [(1, .p 0 0), (40, B ((wr ((wr (l.free + l.held)) + l.sold)) == l.total))] ?_ rfl ?_
     · as_aux_lemma => kernel_rfl
     refine SPLIT (d := 40) ((wr ((wr (l.free + l.held)) + l.sold)) == l.total) ?_ (fun bh5 => ?_) (fun bh5 => ?_)
     · as_aux_lemma => kernel_rfl
     ·
      have h5 := bh5
      have h5 := eq_of_beq h5
      refine RUN0 4 [42, 43, 44] [(40, B true), (42, I l.tied), (44, I l.sold)] ?_ rfl ?_
      · as_aux_lemma => kernel_rfl
      refine OPC (CALL 60 #[vi l.tied, vi 0, vi l.sold] (some 45) ?_ [] [] _ rfl (RV (.bool (inB l.tied 0 l.sold))) (fun w hw => l1In_c w l.tied 0 l.sold) (NO rfl) ?_)
      · as_aux_lemma => kernel_rfl
      rintro ⟨⟩
      refine RUN0 2 [] [(2, B (inB l.tied 0 l.sold))] ?_ rfl ?_
      · as_aux_lemma => kernel_rfl
      refine ENDOPS (NEXT (RET (FIN (.bool (inB l.tied 0 l.sold)) ?_ ⟨inB l.tied 0 l.sold, trivial⟩ ?_ [] ?_)))
      · as_aux_lemma => kernel_rfl
      · rfl
      · rfl
     ·
      have h5 := bh5
      have h5 := ne_of_beq_false h5
      refine RUN0 7 [] [(2, B false)] ?_ rfl ?_
      · as_aux_lemma => kernel_rfl
      refine ENDOPS (NEXT (RET (FIN (.bool false) ?_ ⟨false, trivial⟩ ?_ [] ?_)))
      · as_aux_lemma => kernel_rfl
      · rfl
      · rfl
    ·
     have h4 := bh4
     refine RUN0 20 [] [(2, B false)] ?_ rfl ?_
     · as_aux_lemma => kernel_rfl
     refine ENDOPS (NEXT (RET (FIN (.bool false) ?_ ⟨false, trivial⟩ ?_ [] ?_)))
     · as_aux_lemma => kernel_rfl
     · rfl
     · rfl
   ·
    have h3 := bh3
    refine RUN0 27 [] [(2, B false)] ?_ rfl ?_
    · as_aux_lemma => kernel_rfl
    refine ENDOPS (NEXT (RET (FIN (.bool false) ?_ ⟨false, trivial⟩ ?_ [] ?_)))
    · as_aux_lemma => kernel_rfl
    · rfl
    · rfl
  ·
   have h2 := bh2
   refine RUN0 34 [] [(2, B false)] ?_ rfl ?_
   · as_aux_lemma => kernel_rfl
   refine ENDOPS (NEXT (RET (FIN (.bool false) ?_ ⟨false, trivial⟩ ?_ [] ?_)))
   · as_aux_lemma => kernel_rfl
   · rfl
   · rfl
 ·
  have h1 := bh1
  refine RUN0 41 [] [(2, B false)] ?_ rfl ?_
  · as_aux_lemma => kernel_rfl
  refine ENDOPS (NEXT (RET (FIN (.bool false) ?_ ⟨false, trivial⟩ ?_ [] ?_)))
  · as_aux_lemma => kernel_rfl
  · rfl
  · rfl

theorem ledgerNew_c (W : World) (total : Int) : Spec Tryz.prog W [] 83 #[vi total] (⟨{x : Ledger × Bool // True}, fun q => .tuple #[.agg #[vi q.1.1.total, vi q.1.1.free, vi q.1.1.held, vi q.1.1.sold, vi q.1.1.tied], .bool q.1.2], fun q => []⟩) := by
 refine ENTER0 (N := 13) (vs := [vi total]) Tryz.func83 rfl rfl (NL rfl) ?_
 refine SEQ (REGION [0, 1] rfl (RUN 2 [] [(0, I total), (2, .p 0 0)] [(87, [vi 0, vi 0, vi 0, vi 0, vi 0])] ?_ rfl ?_))
 · as_aux_lemma => kernel_rfl
 refine ENDOPS (NEXT (SEQ (REGION [0, 1, 2, 3, 4] rfl (RUN 5 [] [(2, .p 0 0), (4, .p 1 0)] [(87, [vi 0, vi 0, vi 0, vi 0, vi 0]), (87, [vi total, vi 0, vi 0, vi total, vi 0])] ?_ rfl ?_))))
 · as_aux_lemma => kernel_rfl
 refine ENDOPS (NEXT (SEQ (SEQ (REGION [0, 1, 2] rfl (RUN0 1 [1, 2] [(2, .p 0 0), (4, .p 1 0), (8, .v (.agg #[vi total, vi 0, vi 0, vi total, vi 0]))] ?_ rfl ?_)))))
 · as_aux_lemma => kernel_rfl
 refine OPC (CALL 98 #[.agg #[vi total, vi 0, vi 0, vi total, vi 0]] (some 9) ?_ [] [] _ rfl (⟨{x : Bool // True}, fun q => .bool q.1, fun q => []⟩) (fun w hw => ledgerOk_c w (⟨total, 0, 0, total, 0⟩ : Ledger)) (NO rfl) ?_)
 · as_aux_lemma => kernel_rfl
 rintro ⟨m1, hm2⟩
 try dsimp only at hm2
 refine RUN0 1 [] [(2, .p 0 0), (4, .p 1 0), (10, B (!m1))] ?_ rfl ?_
 · as_aux_lemma => kernel_rfl
 refine ENDOPS (NEXT (IF (!m1) ?_ (fun bh3 => ?_) (fun bh3 => ?_)))
 · as_aux_lemma => kernel_rfl
 ·
  have h3 := bh3
  have h3 := notT h3
  refine SEQ (REGION [0, 1, 2] rfl (RUN0 3 [] [(2, .p 0 0), (3, B false)] ?_ rfl ?_))
  · as_aux_lemma => kernel_rfl
  refine ENDOPS (NEXT (RET (PASS trivial (FIN (.tuple #[.agg #[vi 0, vi 0, vi 0, vi 0, vi 0], .bool false]) ?_ ⟨((⟨0, 0, 0, 0, 0⟩ : Ledger), false), trivial⟩ ?_ [] ?_))))
  · as_aux_lemma => kernel_rfl
  · rfl
  · rfl
 ·
  have h3 := bh3
  have h3 := notF h3
  refine SKIP (NEXT (SEQ (REGION [0, 1, 2] rfl (RUN 3 [] [(2, .p 0 0), (3, B true)] [(87, [vi total, vi 0, vi 0, vi total, vi 0]), (87, [vi total, vi 0, vi 0, vi total, vi 0])] ?_ rfl ?_))))
  · as_aux_lemma => kernel_rfl
  refine ENDOPS (NEXT (RET (FIN (.tuple #[.agg #[vi total, vi 0, vi 0, vi total, vi 0], .bool true]) ?_ ⟨((⟨total, 0, 0, total, 0⟩ : Ledger), true), trivial⟩ ?_ [] ?_)))
  · as_aux_lemma => kernel_rfl
  · rfl
  · rfl

theorem partyOk_c (W : World) (r : Rules) (r_seats_a : Option Addr) (r_seats_c : Nat) (hr_seats : Rd intL W r_seats_a r.seats) (pa : Party) (now : Int) : Spec Tryz.prog W [] 111 #[.agg #[.slice r_seats_a r.seats.length r_seats_c, vi r.tiers, vi r.room, vi r.size, vi r.period, vi r.window, vi r.rest, vi r.tries, vi r.crew], .agg #[vi pa.id, vi pa.cabin, vi pa.from', vi pa.size, vi pa.tier, vi pa.since, vi pa.turn, vi pa.state, vi pa.until', vi pa.asked], vi now] (⟨{x : Bool // x = true → 1 ≤ r.period}, fun q => .bool q.1, fun q => []⟩) := by
 refine ENTER0 (N := 111) (vs := [.agg #[.slice r_seats_a r.seats.length r_seats_c, vi r.tiers, vi r.room, vi r.size, vi r.period, vi r.window, vi r.rest, vi r.tries, vi r.crew], .agg #[vi pa.id, vi pa.cabin, vi pa.from', vi pa.size, vi pa.tier, vi pa.since, vi pa.turn, vi pa.state, vi pa.until', vi pa.asked], vi now]) Tryz.func111 rfl rfl (NL rfl) ?_
 have hr_seats_len := hr_seats.len
 refine SEQ (REGION [0, 1, 2] rfl (RUN 3 [] [(2, I now), (3, .p 0 0), (4, .p 1 0)] [(51, [.slice r_seats_a r.seats.length r_seats_c, vi r.tiers, vi r.room, vi r.size, vi r.period, vi r.window, vi r.rest, vi r.tries, vi r.crew]), (80, [vi pa.id, vi pa.cabin, vi pa.from', vi pa.size, vi pa.tier, vi pa.since, vi pa.turn, vi pa.state, vi pa.until', vi pa.asked])] ?_ rfl ?_))
 · as_aux_lemma => kernel_rfl
 refine ENDOPS (NEXT (SEQ (SEQ (REGION [0, 1, 2, 3, 4, 5, 6, 7, 8, 9, 10, 11, 12, 13, 14, 15, 16, 17, 18, 19, 20, 21, 22, 23, 24, 25, 26, 27, 28, 29, 30, 31, 32, 33, 34, 35, 36, 37, 38, 39, 40] rfl (RUN0 1 [1, 2, 3, 4, 5, 6, 7, 8, 9, 10, 11, 12, 13, 14, 15, 16, 17, 18, 19, 20, 21, 22, 23, 24, 25, 26, 27, 28, 29, 30, 31, 32, 33, 34, 35, 36, 37, 38, 39, 40] [(2, I now), (3, .p 0 0), (4, .p 1 0), (7, .v (.agg #[.slice r_seats_a r.seats.length r_seats_c, vi r.tiers, vi r.room, vi r.size, vi r.period, vi r.window, vi r.rest, vi r.tries, vi r.crew]))] ?_ rfl ?_)))))
 · as_aux_lemma => kernel_rfl
 refine OPC (CALL 66 #[.agg #[.slice r_seats_a r.seats.length r_seats_c, vi r.tiers, vi r.room, vi r.size, vi r.period, vi r.window, vi r.rest, vi r.tries, vi r.crew]] (some 8) ?_ [] [] _ rfl (RV (.bool (rulesOk r))) (fun w hw => sRulesOk_c w r r_seats_a r_seats_c (hr_seats.fr hw.fr)) (NO rfl) ?_)
 · as_aux_lemma => kernel_rfl
 rintro ⟨⟩
 refine RUN0 2 [4, 5, 6, 7, 8, 9, 10, 11, 12, 13, 14, 15, 16, 17, 18, 19, 20, 21, 22, 23, 24, 25, 26, 27, 28, 29, 30, 31, 32, 33, 34, 35, 36, 37, 38, 39, 40] [(2, I now), (3, .p 0 0), (4, .p 1 0), (10, B (!(rulesOk r)))] ?_ rfl ?_
 · as_aux_lemma => kernel_rfl
 refine SPLIT (d := 10) (!(rulesOk r)) ?_ (fun bh1 => ?_) (fun bh1 => ?_)
 · as_aux_lemma => kernel_rfl
 ·
  have h1 := bh1
  have h1 := notT h1
  refine RUN0 37 [] [(2, I now), (3, .p 0 0), (4, .p 1 0), (47, B true)] ?_ rfl ?_
  · as_aux_lemma => kernel_rfl
  refine ENDOPS (NEXT (IFT ?_ ?_))
  · as_aux_lemma => kernel_rfl
  refine SEQ (REGION [0] rfl (RUN0 1 [] [(6, B false)] ?_ rfl ?_))
  · as_aux_lemma => kernel_rfl
  refine ENDOPS (NEXT (RET (PASS trivial (FIN (.bool false) ?_ ⟨false, (fun h => by cases h)⟩ ?_ [] ?_))))
  · as_aux_lemma => kernel_rfl
  · rfl
  · rfl
 ·
  have h1 := bh1
  have h1 := notF h1
  have hper : 1 ≤ r.period := (by have h9 := h1; simp [rulesOk, inB] at h9; omega)
  refine RUN0 1 [5, 6, 7, 8, 9, 10, 11, 12, 13, 14, 15, 16, 17, 18, 19, 20, 21, 22, 23, 24, 25, 26, 27, 28, 29, 30, 31, 32, 33, 34, 35, 36, 37, 38, 39, 40] [(2, I now), (3, .p 0 0), (4, .p 1 0), (10, B false), (11, I now)] ?_ rfl ?_
  · as_aux_lemma => kernel_rfl
  refine OPC (CALL 60 #[vi now, vi 0, vi 1000000] (some 12) ?_ [] [] _ rfl (RV (.bool (inB now 0 1000000))) (fun w hw => l1In_c w now 0 1000000) (NO rfl) ?_)
  · as_aux_lemma => kernel_rfl
  rintro ⟨⟩
  refine RUN0 3 [9, 10, 11, 12, 13, 14, 15, 16, 17, 18, 19, 20, 21, 22, 23, 24, 25, 26, 27, 28, 29, 30, 31, 32, 33, 34, 35, 36, 37, 38, 39, 40] [(2, I now), (3, .p 0 0), (4, .p 1 0), (15, B (!(inB now 0 1000000)))] ?_ rfl ?_
  · as_aux_lemma => kernel_rfl
  refine SPLIT (d := 15) (!(inB now 0 1000000)) ?_ (fun bh2 => ?_) (fun bh2 => ?_)
  · as_aux_lemma => kernel_rfl
  ·
   have h2 := bh2
   have h2 := notT h2
   refine RUN0 32 [] [(2, I now), (3, .p 0 0), (4, .p 1 0), (47, B true)] ?_ rfl ?_
   · as_aux_lemma => kernel_rfl
   refine ENDOPS (NEXT (IFT ?_ ?_))
   · as_aux_lemma => kernel_rfl
   refine SEQ (REGION [0] rfl (RUN0 1 [] [(6, B false)] ?_ rfl ?_))
   · as_aux_lemma => kernel_rfl
   refine ENDOPS (NEXT (RET (PASS trivial (FIN (.bool false) ?_ ⟨false, (fun h => by cases h)⟩ ?_ [] ?_))))
   · as_aux_lemma => kernel_rfl
   · rfl
   · rfl
  ·
   have h2 := bh2
   have h2 := notF h2
   refine RUN0 2 [11, 12, 13, 14, 15, 16, 17, 18, 19, 20, 21, 22, 23, 24, 25, 26, 27, 28, 29, 30, 31, 32, 33, 34, 35, 36, 37, 38, 39, 40] [(2, I now), (3, .p 0 0), (4, .p 1 0), (15, B false), (17, I pa.id)] ?_ rfl ?_
   · as_aux_lemma => kernel_rfl
   refine OPC (CALL 60 #[vi pa.id, vi 1, vi 999] (some 18) ?_ [] [] _ rfl (RV (.bool (inB pa.id 1 999))) (fun w hw => l1In_c w pa.id 1 999) (NO rfl) ?_)
   · as_aux_lemma => kernel_rfl
   rintro ⟨⟩
   refine RUN0 3 [15, 16, 17, 18, 19, 20, 21, 22, 23, 24, 25, 26, 27, 28, 29, 30, 31, 32, 33, 34, 35, 36, 37, 38, 39, 40] [(2, I now), (3, .p 0 0), (4, .p 1 0), (21, B (!(inB pa.id 1 999)))] ?_ rfl ?_
   · as_aux_lemma => kernel_rfl
   refine SPLIT (d := 21) (!(inB pa.id 1 999)) ?_ (fun bh3 => ?_) (fun bh3 => ?_)
   · as_aux_lemma => kernel_rfl
   ·
    have h3 := bh3
    have h3 := notT h3
    refine RUN0 26 [] [(2, I now), (3, .p 0 0), (4, .p 1 0), (47, B true)] ?_ rfl ?_
    · as_aux_lemma => kernel_rfl
    refine ENDOPS (NEXT (IFT ?_ ?_))
    · as_aux_lemma => kernel_rfl
    refine SEQ (REGION [0] rfl (RUN0 1 [] [(6, B false)] ?_ rfl ?_))
    · as_aux_lemma => kernel_rfl
    refine ENDOPS (NEXT (RET (PASS trivial (FIN (.bool false) ?_ ⟨false, (fun h => by cases h)⟩ ?_ [] ?_))))
    · as_aux_lemma => kernel_rfl
    · rfl
    · rfl
   ·
    have h3 := bh3
    have h3 := notF h3
    refine RUN0 6 [21, 22, 23, 24, 25, 26, 27, 28, 29, 30, 31, 32, 33, 34, 35, 36, 37, 38, 39, 40] [(2, I now), (3, .p 0 0), (4, .p 1 0), (21, B false), (23, I pa.cabin), (27, I (wr ((r.seats.length : Int) - 1)))] ?_ rfl ?_
    · as_aux_lemma => kernel_rfl
    refine OPC (CALL 60 #[vi pa.cabin, vi 0, vi (wr ((r.seats.length : Int) - 1))] (some 28) ?_ [] [] _ rfl (RV (.bool (inB pa.cabin 0 (wr ((r.seats.length : Int) - 1))))) (fun w hw => l1In_c w pa.cabin 0 (wr ((r.seats.length : Int) - 1))) (NO rfl) ?_)
    · as_aux_lemma => kernel_rfl
    rintro ⟨⟩
    refine RUN0 3 [25, 26, 27, 28, 29, 30, 31, 32, 33, 34, 35, 36, 37, 38, 39, 40] [(2, I now), (3, .p 0 0), (4, .p 1 0), (31, B (!(inB pa.cabin 0 (wr ((r.seats.length : Int) - 1)))))] ?_ rfl ?_
    · as_aux_lemma => kernel_rfl
    refine SPLIT (d := 31) (!(inB pa.cabin 0 (wr ((r.seats.length : Int) - 1)))) ?_ (fun bh4 => ?_) (fun bh4 => ?_)
    · as_aux_lemma => kernel_rfl
    ·
     have h4 := bh4
     have h4 := notT h4
     refine RUN0 16 [] [(2, I now), (3, .p 0 0), (4, .p 1 0), (47, B true)] ?_ rfl ?_
     · as_aux_lemma => kernel_rfl
     refine ENDOPS (NEXT (IFT ?_ ?_))
     · as_aux_lemma => kernel_rfl
     refine SEQ (REGION [0] rfl (RUN0 1 [] [(6, B false)] ?_ rfl ?_))
     · as_aux_lemma => kernel_rfl
     refine ENDOPS (NEXT (RET (PASS trivial (FIN (.bool false) ?_ ⟨false, (fun h => by cases h)⟩ ?_ [] ?_))))
     · as_aux_lemma => kernel_rfl
     · rfl
     · rfl
    ·
     have h4 := bh4
     have h4 := notF h4
     refine RUN0 6 [31, 32, 33, 34, 35, 36, 37, 38, 39, 40] [(2, I now), (3, .p 0 0), (4, .p 1 0), (31, B false), (33, I pa.from'), (37, I (wr ((r.seats.length : Int) - 1)))] ?_ rfl ?_
     · as_aux_lemma => kernel_rfl
     refine OPC (CALL 60 #[vi pa.from', vi (-1), vi (wr ((r.seats.length : Int) - 1))] (some 38) ?_ [] [] _ rfl (RV (.bool (inB pa.from' (-1) (wr ((r.seats.length : Int) - 1))))) (fun w hw => l1In_c w pa.from' (-1) (wr ((r.seats.length : Int) - 1))) (NO rfl) ?_)
     · as_aux_lemma => kernel_rfl
     rintro ⟨⟩
     refine RUN0 3 [35, 36, 37, 38, 39, 40] [(2, I now), (3, .p 0 0), (4, .p 1 0), (41, B (!(inB pa.from' (-1) (wr ((r.seats.length : Int) - 1)))))] ?_ rfl ?_
     · as_aux_lemma => kernel_rfl
     refine SPLIT (d := 41) (!(inB pa.from' (-1) (wr ((r.seats.length : Int) - 1)))) ?_ (fun bh5 => ?_) (fun bh5 => ?_)
     · as_aux_lemma => kernel_rfl
     ·
      have h5 := bh5
      have h5 := notT h5
      refine RUN0 6 [] [(2, I now), (3, .p 0 0), (4, .p 1 0), (47, B true)] ?_ rfl ?_
      · as_aux_lemma => kernel_rfl
      refine ENDOPS (NEXT (IFT ?_ ?_))
      · as_aux_lemma => kernel_rfl
      refine SEQ (REGION [0] rfl (RUN0 1 [] [(6, B false)] ?_ rfl ?_))
      · as_aux_lemma => kernel_rfl
      refine ENDOPS (NEXT (RET (PASS trivial (FIN (.bool false) ?_ ⟨false, (fun h => by cases h)⟩ ?_ [] ?_))))
      · as_aux_lemma => kernel_rfl
      · rfl
      · rfl
     ·
      have h5 := bh5
      have h5 := notF h5
      refine RUN0 6 [] [(2, I now), (3, .p 0 0), (4, .p 1 0), (47, B (pa.from' == pa.cabin))] ?_ rfl ?_
      · as_aux_lemma => kernel_rfl
      refine ENDOPS (NEXT (IF (pa.from' == pa.cabin) ?_ (fun bh6 => ?_) (fun bh6 => ?_)))
      · as_aux_lemma => kernel_rfl
      ·
       have h6 := bh6
       have h6 := eq_of_beq h6
       refine SEQ (REGION [0] rfl (RUN0 1 [] [(6, B false)] ?_ rfl ?_))
       · as_aux_lemma => kernel_rfl
       refine ENDOPS (NEXT (RET (PASS trivial (FIN (.bool false) ?_ ⟨false, (fun h => by cases h)⟩ ?_ [] ?_))))
       · as_aux_lemma => kernel_rfl
       · rfl
       · rfl
      ·
       have h6 := bh6
       have h6 := ne_of_beq_false h6
       refine SKIP (NEXT (SEQ (SEQ (REGION [0, 1, 2, 3, 4, 5, 6, 7, 8, 9, 10, 11, 12, 13, 14, 15, 16, 17, 18, 19, 20, 21, 22, 23, 24, 25, 26, 27, 28, 29, 30, 31, 32, 33, 34, 35, 36] rfl (RUN0 4 [4, 5, 6, 7, 8, 9, 10, 11, 12, 13, 14, 15, 16, 17, 18, 19, 20, 21, 22, 23, 24, 25, 26, 27, 28, 29, 30, 31, 32, 33, 34, 35, 36] [(2, I now), (3, .p 0 0), (4, .p 1 0), (49, I pa.size), (51, I r.size)] ?_ rfl ?_)))))
       · as_aux_lemma => kernel_rfl
       refine OPC (CALL 60 #[vi pa.size, vi 1, vi r.size] (some 52) ?_ [] [] _ rfl (RV (.bool (inB pa.size 1 r.size))) (fun w hw => l1In_c w pa.size 1 r.size) (NO rfl) ?_)
       · as_aux_lemma => kernel_rfl
       rintro ⟨⟩
       refine RUN0 2 [7, 8, 9, 10, 11, 12, 13, 14, 15, 16, 17, 18, 19, 20, 21, 22, 23, 24, 25, 26, 27, 28, 29, 30, 31, 32, 33, 34, 35, 36] [(2, I now), (3, .p 0 0), (4, .p 1 0), (54, B (!(inB pa.size 1 r.size)))] ?_ rfl ?_
       · as_aux_lemma => kernel_rfl
       refine SPLIT (d := 54) (!(inB pa.size 1 r.size)) ?_ (fun bh7 => ?_) (fun bh7 => ?_)
       · as_aux_lemma => kernel_rfl
       ·
        have h7 := bh7
        have h7 := notT h7
        refine RUN0 30 [] [(2, I now), (3, .p 0 0), (4, .p 1 0), (84, B true)] ?_ rfl ?_
        · as_aux_lemma => kernel_rfl
        refine ENDOPS (NEXT (IFT ?_ ?_))
        · as_aux_lemma => kernel_rfl
        refine SEQ (REGION [0] rfl (RUN0 1 [] [(6, B false)] ?_ rfl ?_))
        · as_aux_lemma => kernel_rfl
        refine ENDOPS (NEXT (RET (PASS trivial (FIN (.bool false) ?_ ⟨false, (fun h => by cases h)⟩ ?_ [] ?_))))
        · as_aux_lemma => kernel_rfl
        · rfl
        · rfl
       ·
        have h7 := bh7
        have h7 := notF h7
        refine RUN0 5 [12, 13, 14, 15, 16, 17, 18, 19, 20, 21, 22, 23, 24, 25, 26, 27, 28, 29, 30, 31, 32, 33, 34, 35, 36] [(2, I now), (3, .p 0 0), (4, .p 1 0), (54, B false), (56, I pa.tier), (59, I (wr (r.tiers - 1)))] ?_ rfl ?_
        · as_aux_lemma => kernel_rfl
        refine OPC (CALL 60 #[vi pa.tier, vi 0, vi (wr (r.tiers - 1))] (some 60) ?_ [] [] _ rfl (RV (.bool (inB pa.tier 0 (wr (r.tiers - 1))))) (fun w hw => l1In_c w pa.tier 0 (wr (r.tiers - 1))) (NO rfl) ?_)
        · as_aux_lemma => kernel_rfl
        rintro ⟨⟩
        refine RUN0 3 [16, 17, 18, 19, 20, 21, 22, 23, 24, 25, 26, 27, 28, 29, 30, 31, 32, 33, 34, 35, 36] [(2, I now), (3, .p 0 0), (4, .p 1 0), (63, B (!(inB pa.tier 0 (wr (r.tiers - 1)))))] ?_ rfl ?_
        · as_aux_lemma => kernel_rfl
        refine SPLIT (d := 63) (!(inB pa.tier 0 (wr (r.tiers - 1)))) ?_ (fun bh8 => ?_) (fun bh8 => ?_)
        · as_aux_lemma => kernel_rfl
        ·
         have h8 := bh8
         have h8 := notT h8
         refine RUN0 21 [] [(2, I now), (3, .p 0 0), (4, .p 1 0), (84, B true)] ?_ rfl ?_
         · as_aux_lemma => kernel_rfl
         refine ENDOPS (NEXT (IFT ?_ ?_))
         · as_aux_lemma => kernel_rfl
         refine SEQ (REGION [0] rfl (RUN0 1 [] [(6, B false)] ?_ rfl ?_))
         · as_aux_lemma => kernel_rfl
         refine ENDOPS (NEXT (RET (PASS trivial (FIN (.bool false) ?_ ⟨false, (fun h => by cases h)⟩ ?_ [] ?_))))
         · as_aux_lemma => kernel_rfl
         · rfl
         · rfl
        ·
         have h8 := bh8
         have h8 := notF h8
         refine RUN0 3 [19, 20, 21, 22, 23, 24, 25, 26, 27, 28, 29, 30, 31, 32, 33, 34, 35, 36] [(2, I now), (3, .p 0 0), (4, .p 1 0), (63, B false), (65, I pa.since), (66, I now)] ?_ rfl ?_
         · as_aux_lemma => kernel_rfl
         refine OPC (CALL 60 #[vi pa.since, vi 0, vi now] (some 67) ?_ [] [] _ rfl (RV (.bool (inB pa.since 0 now))) (fun w hw => l1In_c w pa.since 0 now) (NO rfl) ?_)
         · as_aux_lemma => kernel_rfl
         rintro ⟨⟩
         refine RUN0 3 [23, 24, 25, 26, 27, 28, 29, 30, 31, 32, 33, 34, 35, 36] [(2, I now), (3, .p 0 0), (4, .p 1 0), (70, B (!(inB pa.since 0 now)))] ?_ rfl ?_
         · as_aux_lemma => kernel_rfl
         refine SPLIT (d := 70) (!(inB pa.since 0 now)) ?_ (fun bh9 => ?_) (fun bh9 => ?_)
         · as_aux_lemma => kernel_rfl
         ·
          have h9 := bh9
          have h9 := notT h9
          refine RUN0 14 [] [(2, I now), (3, .p 0 0), (4, .p 1 0), (84, B true)] ?_ rfl ?_
          · as_aux_lemma => kernel_rfl
          refine ENDOPS (NEXT (IFT ?_ ?_))
          · as_aux_lemma => kernel_rfl
          refine SEQ (REGION [0] rfl (RUN0 1 [] [(6, B false)] ?_ rfl ?_))
          · as_aux_lemma => kernel_rfl
          refine ENDOPS (NEXT (RET (PASS trivial (FIN (.bool false) ?_ ⟨false, (fun h => by cases h)⟩ ?_ [] ?_))))
          · as_aux_lemma => kernel_rfl
          · rfl
          · rfl
         ·
          have h9 := bh9
          have h9 := notF h9
          refine RUN0 2 [25, 26, 27, 28, 29, 30, 31, 32, 33, 34, 35, 36] [(2, I now), (3, .p 0 0), (4, .p 1 0), (70, B false), (72, I pa.turn)] ?_ rfl ?_
          · as_aux_lemma => kernel_rfl
          refine OPC (CALL 60 #[vi pa.turn, vi 1, vi 1000000] (some 73) ?_ [] [] _ rfl (RV (.bool (inB pa.turn 1 1000000))) (fun w hw => l1In_c w pa.turn 1 1000000) (NO rfl) ?_)
          · as_aux_lemma => kernel_rfl
          rintro ⟨⟩
          refine RUN0 3 [29, 30, 31, 32, 33, 34, 35, 36] [(2, I now), (3, .p 0 0), (4, .p 1 0), (76, B (!(inB pa.turn 1 1000000)))] ?_ rfl ?_
          · as_aux_lemma => kernel_rfl
          refine SPLIT (d := 76) (!(inB pa.turn 1 1000000)) ?_ (fun bh10 => ?_) (fun bh10 => ?_)
          · as_aux_lemma => kernel_rfl
          ·
           have h10 := bh10
           have h10 := notT h10
           refine RUN0 8 [] [(2, I now), (3, .p 0 0), (4, .p 1 0), (84, B true)] ?_ rfl ?_
           · as_aux_lemma => kernel_rfl
           refine ENDOPS (NEXT (IFT ?_ ?_))
           · as_aux_lemma => kernel_rfl
           refine SEQ (REGION [0] rfl (RUN0 1 [] [(6, B false)] ?_ rfl ?_))
           · as_aux_lemma => kernel_rfl
           refine ENDOPS (NEXT (RET (PASS trivial (FIN (.bool false) ?_ ⟨false, (fun h => by cases h)⟩ ?_ [] ?_))))
           · as_aux_lemma => kernel_rfl
           · rfl
           · rfl
          ·
           have h10 := bh10
           have h10 := notF h10
           refine RUN0 5 [34, 35, 36] [(2, I now), (3, .p 0 0), (4, .p 1 0), (76, B false), (78, I pa.asked), (81, I (wr (r.tries - 1)))] ?_ rfl ?_
           · as_aux_lemma => kernel_rfl
           refine OPC (CALL 60 #[vi pa.asked, vi 0, vi (wr (r.tries - 1))] (some 82) ?_ [] [] _ rfl (RV (.bool (inB pa.asked 0 (wr (r.tries - 1))))) (fun w hw => l1In_c w pa.asked 0 (wr (r.tries - 1))) (NO rfl) ?_)
           · as_aux_lemma => kernel_rfl
           rintro ⟨⟩
           refine RUN0 2 [] [(2, I now), (3, .p 0 0), (4, .p 1 0), (84, B (!(inB pa.asked 0 (wr (r.tries - 1)))))] ?_ rfl ?_
           · as_aux_lemma => kernel_rfl
           refine ENDOPS (NEXT (IF (!(inB pa.asked 0 (wr (r.tries - 1)))) ?_ (fun bh11 => ?_) (fun bh11 => ?_)))
           · as_aux_lemma => kernel_rfl
           ·
            have h11 := bh11
            have h11 := notT h11
            refine SEQ (REGION [0] rfl (RUN0 1 [] [(6, B false)] ?_ rfl ?_))
            · as_aux_lemma => kernel_rfl
            refine ENDOPS (NEXT (RET (PASS trivial (FIN (.bool false) ?_ ⟨false, (fun h => by cases h)⟩ ?_ [] ?_))))
            · as_aux_lemma => kernel_rfl
            · rfl
            · rfl
           ·
            have h11 := bh11
            have h11 := notF h11
            refine SKIP (NEXT (SEQ (REGION [0, 1, 2, 3, 4, 5, 6, 7, 8, 9, 10, 11, 12, 13, 14, 15, 16, 17, 18, 19, 20, 21, 22, 23, 24, 25, 26] rfl (RUN0 4 [4, 5, 6, 7, 8, 9, 10, 11, 12, 13, 14, 15, 16, 17, 18, 19, 20, 21, 22, 23, 24, 25, 26] [(2, I now), (3, .p 0 0), (4, .p 1 0), (88, B (pa.state == 1))] ?_ rfl ?_))))
            · as_aux_lemma => kernel_rfl
            refine SPLIT (d := 88) (pa.state == 1) ?_ (fun bh12 => ?_) (fun bh12 => ?_)
            · as_aux_lemma => kernel_rfl
            ·
             have h12 := bh12
             have h12 := eq_of_beq h12
             refine RUN0 6 [10, 11, 12, 13, 14, 15, 16, 17, 18, 19, 20, 21, 22, 23, 24, 25, 26] [(2, I now), (3, .p 0 0), (4, .p 1 0), (88, B true), (90, I pa.until'), (94, I (wr (now + r.rest)))] ?_ rfl ?_
             · as_aux_lemma => kernel_rfl
             refine OPC (CALL 60 #[vi pa.until', vi 0, vi (wr (now + r.rest))] (some 95) ?_ [] [] _ rfl (RV (.bool (inB pa.until' 0 (wr (now + r.rest))))) (fun w hw => l1In_c w pa.until' 0 (wr (now + r.rest))) (NO rfl) ?_)
             · as_aux_lemma => kernel_rfl
             rintro ⟨⟩
             refine RUN0 2 [13, 14, 15, 16, 17, 18, 19, 20, 21, 22, 23, 24, 25, 26] [(2, I now), (3, .p 0 0), (4, .p 1 0), (97, B (inB pa.until' 0 (wr (now + r.rest))))] ?_ rfl ?_
             · as_aux_lemma => kernel_rfl
             refine SPLIT (d := 97) (inB pa.until' 0 (wr (now + r.rest))) ?_ (fun bh13 => ?_) (fun bh13 => ?_)
             · as_aux_lemma => kernel_rfl
             ·
              have h13 := bh13
              refine RUN0 14 [] [(6, B true)] ?_ rfl ?_
              · as_aux_lemma => kernel_rfl
              refine ENDOPS (NEXT (RET (FIN (.bool true) ?_ ⟨true, (fun _ => hper)⟩ ?_ [] ?_)))
              · as_aux_lemma => kernel_rfl
              · rfl
              · rfl
             ·
              have h13 := bh13
              refine RUN0 4 [17, 18, 19, 20, 21, 22, 23, 24, 25, 26] [(2, I now), (3, .p 0 0), (4, .p 1 0), (97, B false), (101, B (pa.state == 2))] ?_ rfl ?_
              · as_aux_lemma => kernel_rfl
              refine SPLIT (d := 101) (pa.state == 2) ?_ (fun bh14 => ?_) (fun bh14 => ?_)
              · as_aux_lemma => kernel_rfl
              · have bh14 := eq_of_beq bh14; exfalso; omega
              ·
               have h14 := bh14
               have h14 := ne_of_beq_false h14
               refine RUN0 10 [] [(6, B false)] ?_ rfl ?_
               · as_aux_lemma => kernel_rfl
               refine ENDOPS (NEXT (RET (FIN (.bool false) ?_ ⟨false, (fun h => by cases h)⟩ ?_ [] ?_)))
               · as_aux_lemma => kernel_rfl
               · rfl
               · rfl
            ·
             have h12 := bh12
             have h12 := ne_of_beq_false h12
             refine RUN0 13 [17, 18, 19, 20, 21, 22, 23, 24, 25, 26] [(2, I now), (3, .p 0 0), (4, .p 1 0), (97, B false), (101, B (pa.state == 2))] ?_ rfl ?_
             · as_aux_lemma => kernel_rfl
             refine SPLIT (d := 101) (pa.state == 2) ?_ (fun bh15 => ?_) (fun bh15 => ?_)
             · as_aux_lemma => kernel_rfl
             ·
              have h15 := bh15
              have h15 := eq_of_beq h15
              refine RUN0 6 [23, 24, 25, 26] [(97, B false), (101, B true), (103, I pa.until'), (107, I (wr (now + r.window)))] ?_ rfl ?_
              · as_aux_lemma => kernel_rfl
              refine OPC (CALL 60 #[vi pa.until', vi 1, vi (wr (now + r.window))] (some 108) ?_ [] [] _ rfl (RV (.bool (inB pa.until' 1 (wr (now + r.window))))) (fun w hw => l1In_c w pa.until' 1 (wr (now + r.window))) (NO rfl) ?_)
              · as_aux_lemma => kernel_rfl
              rintro ⟨⟩
              refine RUN0 3 [] [(6, B (inB pa.until' 1 (wr (now + r.window))))] ?_ rfl ?_
              · as_aux_lemma => kernel_rfl
              refine ENDOPS (NEXT (RET (FIN (.bool (inB pa.until' 1 (wr (now + r.window)))) ?_ ⟨inB pa.until' 1 (wr (now + r.window)), (fun _ => hper)⟩ ?_ [] ?_)))
              · as_aux_lemma => kernel_rfl
              · rfl
              · rfl
             ·
              have h15 := bh15
              have h15 := ne_of_beq_false h15
              refine RUN0 10 [] [(6, B false)] ?_ rfl ?_
              · as_aux_lemma => kernel_rfl
              refine ENDOPS (NEXT (RET (FIN (.bool false) ?_ ⟨false, (fun h => by cases h)⟩ ?_ [] ?_)))
              · as_aux_lemma => kernel_rfl
              · rfl
              · rfl

theorem l5Level_c (W : World) (r : Rules) (r_seats_a : Option Addr) (r_seats_c : Nat) (hr_seats : Rd intL W r_seats_a r.seats) (tier : Int) (waited : Int) (hper : 1 ≤ r.period) : Spec Tryz.prog W [] 112 #[.agg #[.slice r_seats_a r.seats.length r_seats_c, vi r.tiers, vi r.room, vi r.size, vi r.period, vi r.window, vi r.rest, vi r.tries, vi r.crew], vi tier, vi waited] (⟨{x : Int // True}, fun q => vi q.1, fun q => []⟩) := by
 refine ENTER0 (N := 14) (vs := [.agg #[.slice r_seats_a r.seats.length r_seats_c, vi r.tiers, vi r.room, vi r.size, vi r.period, vi r.window, vi r.rest, vi r.tries, vi r.crew], vi tier, vi waited]) Tryz.func112 rfl rfl (NL rfl) ?_
 have hr_seats_len := hr_seats.len
 refine SEQ (REGION [0, 1] rfl (RUN 2 [] [(1, I tier), (2, I waited), (3, .p 0 0)] [(51, [.slice r_seats_a r.seats.length r_seats_c, vi r.tiers, vi r.room, vi r.size, vi r.period, vi r.window, vi r.rest, vi r.tries, vi r.crew])] ?_ rfl ?_))
 · as_aux_lemma => kernel_rfl
 refine ENDOPS (NEXT (SEQ (REGION [0, 1, 2, 3, 4, 5, 6, 7] rfl (RUN0 4 [4, 5, 6, 7] [(7, I tier), (8, I waited), (10, I r.period)] ?_ rfl ?_))))
 · as_aux_lemma => kernel_rfl
 refine OPC (RUNV (.binOp .quo 3 (.tmp 8) (.tmp 10) 3) 11 3 ?_ (NL rfl) (vi (wr (Int.tdiv waited r.period))) (runs_quo (a := waited) (b := r.period) ?_ ?_ (by omega)) ?_)
 iterate 3 (as_aux_lemma => kernel_rfl)
 refine RUN0 1 [6, 7] [(12, I (wr (tier - (wr (Int.tdiv waited r.period)))))] ?_ rfl ?_
 · as_aux_lemma => kernel_rfl
 refine OPC (CALL 55 #[vi 0, vi (wr (tier - (wr (Int.tdiv waited r.period))))] (some 13) ?_ [] [] _ rfl (RV (vi (if 0 > (wr (tier - (wr (Int.tdiv waited r.period)))) then 0 else (wr (tier - (wr (Int.tdiv waited r.period))))))) (fun w hw => l1Max_c w 0 (wr (tier - (wr (Int.tdiv waited r.period))))) (NO rfl) ?_)
 · as_aux_lemma => kernel_rfl
 rintro ⟨⟩
 refine RUN0 1 [] [(6, I (if 0 > (wr (tier - (wr (Int.tdiv waited r.period)))) then 0 else (wr (tier - (wr (Int.tdiv waited r.period))))))] ?_ rfl ?_
 · as_aux_lemma => kernel_rfl
 refine ENDOPS (NEXT (RET (FIN (vi (if 0 > (wr (tier - (wr (Int.tdiv waited r.period)))) then 0 else (wr (tier - (wr (Int.tdiv waited r.period)))))) ?_ ⟨if 0 > (wr (tier - (wr (Int.tdiv waited r.period)))) then 0 else (wr (tier - (wr (Int.tdiv waited r.period)))), trivial⟩ ?_ [] ?_)))
 · as_aux_lemma => kernel_rfl
 · rfl
 · rfl

theorem levelOf_c (W : World) (r : Rules) (r_seats_a : Option Addr) (r_seats_c : Nat) (hr_seats : Rd intL W r_seats_a r.seats) (pa : Party) (now : Int) : Spec Tryz.prog W [] 101 #[.agg #[.slice r_seats_a r.seats.length r_seats_c, vi r.tiers, vi r.room, vi r.size, vi r.period, vi r.window, vi r.rest, vi r.tries, vi r.crew], .agg #[vi pa.id, vi pa.cabin, vi pa.from', vi pa.size, vi pa.tier, vi pa.since, vi pa.turn, vi pa.state, vi pa.until', vi pa.asked], vi now] (⟨{x : Int // True}, fun q => vi q.1, fun q => []⟩) := by
 refine ENTER0 (N := 20) (vs := [.agg #[.slice r_seats_a r.seats.length r_seats_c, vi r.tiers, vi r.room, vi r.size, vi r.period, vi r.window, vi r.rest, vi r.tries, vi r.crew], .agg #[vi pa.id, vi pa.cabin, vi pa.from', vi pa.size, vi pa.tier, vi pa.since, vi pa.turn, vi pa.state, vi pa.until', vi pa.asked], vi now]) Tryz.func101 rfl rfl (NL rfl) ?_
 have hr_seats_len := hr_seats.len
 refine SEQ (REGION [0, 1, 2] rfl (RUN 3 [] [(2, I now), (3, .p 0 0), (4, .p 1 0)] [(51, [.slice r_seats_a r.seats.length r_seats_c, vi r.tiers, vi r.room, vi r.size, vi r.period, vi r.window, vi r.rest, vi r.tries, vi r.crew]), (80, [vi pa.id, vi pa.cabin, vi pa.from', vi pa.size, vi pa.tier, vi pa.since, vi pa.turn, vi pa.state, vi pa.until', vi pa.asked])] ?_ rfl ?_))
 · as_aux_lemma => kernel_rfl
 refine ENDOPS (NEXT (SEQ (SEQ (REGION [0, 1, 2, 3, 4] rfl (RUN0 3 [3, 4] [(2, I now), (3, .p 0 0), (4, .p 1 0), (7, .v (.agg #[.slice r_seats_a r.seats.length r_seats_c, vi r.tiers, vi r.room, vi r.size, vi r.period, vi r.window, vi r.rest, vi r.tries, vi r.crew])), (8, .v (.agg #[vi pa.id, vi pa.cabin, vi pa.from', vi pa.size, vi pa.tier, vi pa.since, vi pa.turn, vi pa.state, vi pa.until', vi pa.asked])), (9, I now)] ?_ rfl ?_)))))
 · as_aux_lemma => kernel_rfl
 refine OPC (CALL 111 #[.agg #[.slice r_seats_a r.seats.length r_seats_c, vi r.tiers, vi r.room, vi r.size, vi r.period, vi r.window, vi r.rest, vi r.tries, vi r.crew], .agg #[vi pa.id, vi pa.cabin, vi pa.from', vi pa.size, vi pa.tier, vi pa.since, vi pa.turn, vi pa.state, vi pa.until', vi pa.asked], vi now] (some 10) ?_ [] [] _ rfl (⟨{x : Bool // x = true → 1 ≤ r.period}, fun q => .bool q.1, fun q => []⟩) (fun w hw => partyOk_c w r r_seats_a r_seats_c (hr_seats.fr hw.fr) pa now) (NO rfl) ?_)
 · as_aux_lemma => kernel_rfl
 rintro ⟨m1, hm2⟩
 try dsimp only at hm2
 have hpk := hm2
 refine RUN0 1 [] [(2, I now), (3, .p 0 0), (4, .p 1 0), (11, B (!m1))] ?_ rfl ?_
 · as_aux_lemma => kernel_rfl
 refine ENDOPS (NEXT (IF (!m1) ?_ (fun bh3 => ?_) (fun bh3 => ?_)))
 · as_aux_lemma => kernel_rfl
 ·
  have h3 := bh3
  have h3 := notT h3
  refine SEQ (REGION [0] rfl (RUN0 1 [] [(6, I (-1))] ?_ rfl ?_))
  · as_aux_lemma => kernel_rfl
  refine ENDOPS (NEXT (RET (PASS trivial (FIN (vi (-1)) ?_ ⟨-1, trivial⟩ ?_ [] ?_))))
  · as_aux_lemma => kernel_rfl
  · rfl
  · rfl
 ·
  have h3 := bh3
  have h3 := notF h3
  refine SKIP (NEXT (SEQ (REGION [0, 1, 2, 3, 4, 5, 6, 7, 8] rfl (RUN0 7 [7, 8] [(12, .v (.agg #[.slice r_seats_a r.seats.length r_seats_c, vi r.tiers, vi r.room, vi r.size, vi r.period, vi r.window, vi r.rest, vi r.tries, vi r.crew])), (14, I pa.tier), (18, I (wr (now - pa.since)))] ?_ rfl ?_))))
  · as_aux_lemma => kernel_rfl
  refine OPC (CALL 112 #[.agg #[.slice r_seats_a r.seats.length r_seats_c, vi r.tiers, vi r.room, vi r.size, vi r.period, vi r.window, vi r.rest, vi r.tries, vi r.crew], vi pa.tier, vi (wr (now - pa.since))] (some 19) ?_ [] [] _ rfl (⟨{x : Int // True}, fun q => vi q.1, fun q => []⟩) (fun w hw => l5Level_c w r r_seats_a r_seats_c (hr_seats.fr hw.fr) pa.tier (wr (now - pa.since)) (by first | assumption | omega | exact hpk (by assumption))) (NO rfl) ?_)
  · as_aux_lemma => kernel_rfl
  rintro ⟨m4, hm5⟩
  try dsimp only at hm5
  refine RUN0 1 [] [(6, I m4)] ?_ rfl ?_
  · as_aux_lemma => kernel_rfl
  refine ENDOPS (NEXT (RET (FIN (vi m4) ?_ ⟨m4, trivial⟩ ?_ [] ?_)))
  · as_aux_lemma => kernel_rfl
  · rfl
  · rfl

theorem entryOf_c (W : World) (r : Rules) (r_seats_a : Option Addr) (r_seats_c : Nat) (hr_seats : Rd intL W r_seats_a r.seats) (pa : Party) (now : Int) : Spec Tryz.prog W [] 87 #[.agg #[.slice r_seats_a r.seats.length r_seats_c, vi r.tiers, vi r.room, vi r.size, vi r.period, vi r.window, vi r.rest, vi r.tries, vi r.crew], .agg #[vi pa.id, vi pa.cabin, vi pa.from', vi pa.size, vi pa.tier, vi pa.since, vi pa.turn, vi pa.state, vi pa.until', vi pa.asked], vi now] (⟨{x : Entry × Bool // True}, fun q => .tuple #[.agg #[vi q.1.1.level, vi q.1.1.turn, vi q.1.1.id, vi q.1.1.size], .bool q.1.2], fun q => []⟩) := by
 refine ENTER0 (N := 29) (vs := [.agg #[.slice r_seats_a r.seats.length r_seats_c, vi r.tiers, vi r.room, vi r.size, vi r.period, vi r.window, vi r.rest, vi r.tries, vi r.crew], .agg #[vi pa.id, vi pa.cabin, vi pa.from', vi pa.size, vi pa.tier, vi pa.since, vi pa.turn, vi pa.state, vi pa.until', vi pa.asked], vi now]) Tryz.func87 rfl rfl (NL rfl) ?_
 have hr_seats_len := hr_seats.len
 refine SEQ (REGION [0, 1, 2, 3] rfl (RUN 4 [] [(2, I now), (3, .p 0 0), (4, .p 1 0), (6, .p 2 0)] [(51, [.slice r_seats_a r.seats.length r_seats_c, vi r.tiers, vi r.room, vi r.size, vi r.period, vi r.window, vi r.rest, vi r.tries, vi r.crew]), (80, [vi pa.id, vi pa.cabin, vi pa.from', vi pa.size, vi pa.tier, vi pa.since, vi pa.turn, vi pa.state, vi pa.until', vi pa.asked]), (129, [vi 0, vi 0, vi 0, vi 0])] ?_ rfl ?_))
 · as_aux_lemma => kernel_rfl
 refine ENDOPS (NEXT (SEQ (REGION [0, 1, 2, 3, 4] rfl (RUN0 3 [3, 4] [(4, .p 1 0), (6, .p 2 0), (9, .v (.agg #[.slice r_seats_a r.seats.length r_seats_c, vi r.tiers, vi r.room, vi r.size, vi r.period, vi r.window, vi r.rest, vi r.tries, vi r.crew])), (10, .v (.agg #[vi pa.id, vi pa.cabin, vi pa.from', vi pa.size, vi pa.tier, vi pa.since, vi pa.turn, vi pa.state, vi pa.until', vi pa.asked])), (11, I now)] ?_ rfl ?_))))
 · as_aux_lemma => kernel_rfl
 refine OPC (CALL 101 #[.agg #[.slice r_seats_a r.seats.length r_seats_c, vi r.tiers, vi r.room, vi r.size, vi r.period, vi r.window, vi r.rest, vi r.tries, vi r.crew], .agg #[vi pa.id, vi pa.cabin, vi pa.from', vi pa.size, vi pa.tier, vi pa.since, vi pa.turn, vi pa.state, vi pa.until', vi pa.asked], vi now] (some 12) ?_ [] [] _ rfl (⟨{x : Int // True}, fun q => vi q.1, fun q => []⟩) (fun w hw => levelOf_c w r r_seats_a r_seats_c (hr_seats.fr hw.fr) pa now) (NO rfl) ?_)
 · as_aux_lemma => kernel_rfl
 rintro ⟨m1, hm2⟩
 try dsimp only at hm2
 refine RUN0 1 [] [(4, .p 1 0), (6, .p 2 0), (8, I m1)] ?_ rfl ?_
 · as_aux_lemma => kernel_rfl
 refine ENDOPS (NEXT (SEQ (SEQ (REGION [0, 1, 2, 3, 4, 5, 6] rfl (RUN0 3 [3, 4, 5, 6] [(4, .p 1 0), (6, .p 2 0), (8, I m1), (15, B (decide (m1 < 0)))] ?_ rfl ?_)))))
 · as_aux_lemma => kernel_rfl
 refine SPLIT (d := 15) (decide (m1 < 0)) ?_ (fun bh3 => ?_) (fun bh3 => ?_)
 · as_aux_lemma => kernel_rfl
 ·
  have h3 := bh3
  have h3 := of_decide_eq_true h3
  refine RUN0 4 [] [(4, .p 1 0), (6, .p 2 0), (8, I m1), (19, B true)] ?_ rfl ?_
  · as_aux_lemma => kernel_rfl
  refine ENDOPS (NEXT (IFT ?_ ?_))
  · as_aux_lemma => kernel_rfl
  refine SEQ (REGION [0, 1, 2] rfl (RUN0 3 [] [(6, .p 2 0), (7, B false)] ?_ rfl ?_))
  · as_aux_lemma => kernel_rfl
  refine ENDOPS (NEXT (RET (PASS trivial (FIN (.tuple #[.agg #[vi 0, vi 0, vi 0, vi 0], .bool false]) ?_ ⟨((⟨0, 0, 0, 0⟩ : Entry), false), trivial⟩ ?_ [] ?_))))
  · as_aux_lemma => kernel_rfl
  · rfl
  · rfl
 ·
  have h3 := bh3
  have h3 := of_decide_eq_false h3
  refine RUN0 4 [] [(4, .p 1 0), (6, .p 2 0), (8, I m1), (19, B (pa.state != 1))] ?_ rfl ?_
  · as_aux_lemma => kernel_rfl
  refine ENDOPS (NEXT (IF (pa.state != 1) ?_ (fun bh4 => ?_) (fun bh4 => ?_)))
  · as_aux_lemma => kernel_rfl
  ·
   have h4 := bh4
   have h4 := bne_iff_ne.1 h4
   refine SEQ (REGION [0, 1, 2] rfl (RUN0 3 [] [(6, .p 2 0), (7, B false)] ?_ rfl ?_))
   · as_aux_lemma => kernel_rfl
   refine ENDOPS (NEXT (RET (PASS trivial (FIN (.tuple #[.agg #[vi 0, vi 0, vi 0, vi 0], .bool false]) ?_ ⟨((⟨0, 0, 0, 0⟩ : Entry), false), trivial⟩ ?_ [] ?_))))
   · as_aux_lemma => kernel_rfl
   · rfl
   · rfl
  ·
   have h4 := bh4
   have h4 := bneF h4
   refine SKIP (NEXT (SEQ (REGION [0, 1, 2, 3, 4, 5, 6, 7, 8, 9] rfl (RUN 10 [] [(6, .p 2 0), (7, B true)] [(51, [.slice r_seats_a r.seats.length r_seats_c, vi r.tiers, vi r.room, vi r.size, vi r.period, vi r.window, vi r.rest, vi r.tries, vi r.crew]), (80, [vi pa.id, vi pa.cabin, vi pa.from', vi pa.size, vi pa.tier, vi pa.since, vi pa.turn, vi pa.state, vi pa.until', vi pa.asked]), (129, [vi m1, vi pa.turn, vi pa.id, vi pa.size])] ?_ rfl ?_))))
   · as_aux_lemma => kernel_rfl
   refine ENDOPS (NEXT (RET (FIN (.tuple #[.agg #[vi m1, vi pa.turn, vi pa.id, vi pa.size], .bool true]) ?_ ⟨((⟨m1, pa.turn, pa.id, pa.size⟩ : Entry), true), trivial⟩ ?_ [] ?_)))
   · as_aux_lemma => kernel_rfl
   · rfl
   · rfl

end SX
end Go.Proofs.YtpdijcbgdalphabGreatDoor
