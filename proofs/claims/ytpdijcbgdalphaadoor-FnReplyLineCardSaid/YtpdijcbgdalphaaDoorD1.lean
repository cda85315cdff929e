/- Walks, printed by program. -/
import Derived.Test.YtpdijcbgdalphaaDoorSxc
import Derived.Test.YtpdijcbgdalphaaDoorSxj
import Derived.Test.YtpdijcbgdalphaaDoorSxa
import Derived.Test.YtpdijcbgdalphaaDoorMdl8
import Derived.Test.YtpdijcbgdalphaaDoorV8
namespace Go.Proofs.YtpdijcbgdalphaaDoor
namespace SX
open Go Go.RowKit
set_option linter.unusedVariables false
set_option linter.unusedSimpArgs false
set_option maxRecDepth 10000
theorem l1New_c (W : World) (code : List UInt8) (code_a : Option Addr) (code_c : Nat) (hcode : Rd byteL W code_a code) (lo : Nat) (hlo : lo ≤ W.heap.size) : Spec Tryd.prog W [] 40 #[.slice code_a code.length code_c] (⟨Value, fun p => p, fun p => [curA (⟨lo, 83, code_a, code.length, code_c⟩) p]⟩) := by
  refine ENTER0 (N := 32) (vs := [.slice code_a code.length code_c]) Tryd.func40 rfl rfl (Nat.le_of_ble_eq_true rfl) ?_
  have hcode_len := hcode.len
  refine SEQ (REGION [0] rfl (RUN0 1 [] [(0, .v (.slice code_a code.length code_c))] ?_ rfl ?_))
  · as_aux_lemma => kernel_rfl
  refine ENDOPS (NEXT (SEQ (REGION [0, 1, 2, 3] rfl (RUN0 4 [] [(0, .v (.slice code_a code.length code_c)), (3, I (wr (28285 + (code.length : Int))))] ?_ rfl ?_))))
  · as_aux_lemma => kernel_rfl
  refine ENDOPS (NEXT (SEQ (SEQ (REGION [0] rfl (RUN0 1 [] [(0, .v (.slice code_a code.length code_c)), (3, I (wr (28285 + (code.length : Int)))), (4, I 0)] ?_ rfl ?_)))))
  · as_aux_lemma => kernel_rfl
  refine ENDOPS (NEXT (BLOCK (LOOP (ι := Nat × (List UInt8) × Int) (fun j => [(0, .v (.slice code_a code.length code_c)), (3, I j.2.2), (4, I (j.1 : Int))]) (fun j => []) (fun j => []) (fun j => j.1 + j.2.1.length = code.length ∧ code.drop j.1 = j.2.1 ∧ True) (fun j => j.2.1.length) (0, code, wr (28285 + (code.length : Int))) [0, 3, 4] ⟨by simp, rfl, trivial⟩ ?_ rfl rfl ?_)))
  · as_aux_lemma => kernel_rfl
  rintro ⟨k, ys, hh⟩ ⟨hk, hd, hv0⟩
  dsimp only at hk hd hv0
  refine SEQ (SEQ (REGION [0, 1, 2, 3, 4, 5, 6, 7] rfl (RUN0 5 [5, 6, 7] [(0, .v (.slice code_a code.length code_c)), (3, I hh), (4, I (k : Int)), (12, B (decide ((k : Int) < (code.length : Int))))] ?_ rfl ?_)))
  · as_aux_lemma => kernel_rfl
  refine SPLIT (d := 12) (decide ((k : Int) < (code.length : Int))) ?_ (fun bh1 => ?_) (fun bh1 => ?_)
  · as_aux_lemma => kernel_rfl
  · -- decide ((k : Int) < (code.length : Int)) = true
    have h1 := bh1
    have h1 := of_decide_eq_true h1
    obtain ⟨y2, ys3, rfl, hx_y2, hd_y2, hl_y2⟩ := drop_cons hd hk (by omega)
    have := UInt8.toNat_lt y2
    refine RUN0 3 [] [(0, .v (.slice code_a code.length code_c)), (3, I hh), (4, I (k : Int)), (15, B (decide ((k : Int) < 4000)))] ?_ rfl ?_
    · as_aux_lemma => kernel_rfl
    refine ENDOPS (NEXT (IF (decide ((k : Int) < 4000)) ?_ (fun bh4 => ?_) (fun bh4 => ?_)))
    · as_aux_lemma => kernel_rfl
    · -- decide ((k : Int) < 4000) = true
      have h4 := bh4
      have h4 := of_decide_eq_true h4
      refine SKIP (NEXT (SEQ (BLOCK (REGION [0, 1, 2, 3, 4, 5, 6, 7, 8, 9, 10] rfl (RUN0 4 [4, 5, 6, 7, 8, 9, 10] [(0, .v (.slice code_a code.length code_c)), (4, I (k : Int)), (19, I (wr (hh * 131))), (20, .v (.slice code_a code.length code_c)), (21, I (k : Int))] ?_ rfl ?_)))))
      · as_aux_lemma => kernel_rfl
      refine OPC (INDEX 38 (.tmp 20) (.tmp 21) 22 0 ?_ (Nat.le_of_ble_eq_true rfl) code_a code.length code_c .i64 (k : Int) 5 1 ?_ ?_ ?_ ?_ (Rd.some hcode (by omega)) (by omega) (by omega) ?_)
      · as_aux_lemma => kernel_rfl
      · as_aux_lemma => kernel_rfl
      · as_aux_lemma => kernel_rfl
      · as_aux_lemma => kernel_rfl
      · as_aux_lemma => kernel_rfl
      refine OPC (LOADE 5 (.tmp 22) 23 5 ?_ (Nat.le_of_ble_eq_true rfl) code_a (k * 1) 0 [.int .u8 (y2.toNat : Int)] (.int .u8 (y2.toNat : Int)) ?_ (fun w hw => (hcode.fr hw.fr).flat hx_y2) ?_ ?_)
      · as_aux_lemma => kernel_rfl
      · as_aux_lemma => kernel_rfl
      · as_aux_lemma => kernel_rfl
      refine RUN0 1 [7, 8, 9, 10] [(0, .v (.slice code_a code.length code_c)), (4, I (k : Int)), (19, I (wr (hh * 131))), (24, I (IntKind.wrap .i64 (y2.toNat : Int)))] ?_ rfl ?_
      · as_aux_lemma => kernel_rfl
      refine CAST (d := 24) (vi (IntKind.wrap .i64 (y2.toNat : Int))) (vi (y2.toNat : Int)) ?_ (vi_u8 y2) ?_
      · as_aux_lemma => kernel_rfl
      refine RUN0 4 [] [(0, .v (.slice code_a code.length code_c)), (3, I (wr (((BitVec.ofInt 64 (wr ((wr ((wr (hh * 131)) + (y2.toNat : Int))) + 7)) &&& BitVec.ofInt 64 1073741823).toNat : Int)))), (4, I (k : Int))] ?_ rfl ?_
      · as_aux_lemma => kernel_rfl
      refine ENDOPS (OUTN (NEXT (REGION [0, 1, 2] rfl (RUN0 2 [2] [(0, .v (.slice code_a code.length code_c)), (3, I (wr (((BitVec.ofInt 64 (wr ((wr ((wr (hh * 131)) + (y2.toNat : Int))) + 7)) &&& BitVec.ofInt 64 1073741823).toNat : Int)))), (17, I (wr ((k : Int) + 1)))] ?_ rfl ?_))))
      · as_aux_lemma => kernel_rfl
      refine CAST (d := 17) (vi (wr ((k : Int) + 1))) (vi ((k + 1 : Nat) : Int)) ?_ (vi_cast (by omega) (by omega)) ?_
      · as_aux_lemma => kernel_rfl
      refine RUN0 1 [] [(0, .v (.slice code_a code.length code_c)), (3, I (wr (((BitVec.ofInt 64 (wr ((wr ((wr (hh * 131)) + (y2.toNat : Int))) + 7)) &&& BitVec.ofInt 64 1073741823).toNat : Int)))), (4, I ((k + 1 : Nat) : Int))] ?_ rfl ?_
      · as_aux_lemma => kernel_rfl
      refine ENDOPS (BACK (k + 1, ys3, wr (((BitVec.ofInt 64 (wr ((wr ((wr (hh * 131)) + (y2.toNat : Int))) + 7)) &&& BitVec.ofInt 64 1073741823).toNat : Int))) [0, 3, 4] 0 [] _ ⟨hl_y2, hd_y2, trivial⟩ (by simp) ?_ rfl rfl rfl)
      · as_aux_lemma => kernel_rfl
    · -- decide ((k : Int) < 4000) = false
      have h4 := bh4
      have h4 := of_decide_eq_false h4
      refine EXIT (PASS trivial (PASS trivial (OUT (NEXT (SEQ (REGION [0, 1, 2, 3, 4] rfl (RUN 5 [] [(2, .p 0 0)] [(83, [.slice code_a code.length code_c, vi 0, vi hh])] ?_ rfl ?_)))))))
      · as_aux_lemma => kernel_rfl
      refine ENDOPS (NEXT (RET (BOXOUT 2 (by rfl) (fun b hnb => ?_))))
      refine CLOSECUR (d := ⟨lo, 83, code_a, code.length, code_c⟩) (b := b) (i := 0) (h := hh) 0 _ rfl (by omega) (by dsimp only; omega) ?_
      refine FIN ((.pointer (some ⟨b, 0, none⟩))) ?_ (.pointer (some ⟨b, 0, none⟩)) ?_ [0] ?_
      · as_aux_lemma => kernel_rfl
      · rfl
      · rfl
  · -- decide ((k : Int) < (code.length : Int)) = false
    have h1 := bh1
    have h1 := of_decide_eq_false h1
    obtain rfl := drop_nil hk (by omega)
    refine RUN0 3 [] [(0, .v (.slice code_a code.length code_c)), (3, I hh), (4, I (k : Int)), (15, B false)] ?_ rfl ?_
    · as_aux_lemma => kernel_rfl
    refine ENDOPS (NEXT (IFF ?_ ?_))
    · as_aux_lemma => kernel_rfl
    refine EXIT (PASS trivial (PASS trivial (OUT (NEXT (SEQ (REGION [0, 1, 2, 3, 4] rfl (RUN 5 [] [(2, .p 0 0)] [(83, [.slice code_a code.length code_c, vi 0, vi hh])] ?_ rfl ?_)))))))
    · as_aux_lemma => kernel_rfl
    refine ENDOPS (NEXT (RET (BOXOUT 2 (by rfl) (fun b hnb => ?_))))
    refine CLOSECUR (d := ⟨lo, 83, code_a, code.length, code_c⟩) (b := b) (i := 0) (h := hh) 0 _ rfl (by omega) (by dsimp only; omega) ?_
    refine FIN ((.pointer (some ⟨b, 0, none⟩))) ?_ (.pointer (some ⟨b, 0, none⟩)) ?_ [0] ?_
    · as_aux_lemma => kernel_rfl
    · rfl
    · rfl

theorem l1Byte_c (W : World) (d : Cd) (hd : CodeOk W d) (p : Value) : Spec Tryd.prog W [curA d p] 56 #[p] (⟨{x : Int // 0 ≤ x ∧ x < 256}, fun q => vi q.1, fun q => [curA (d) p]⟩) := by
  refine ENTERC (N := 58) (vs := [p]) Tryd.func56 rfl rfl (Nat.le_of_ble_eq_true rfl) (fun S0 hS => ?_)
  obtain ⟨xs, hxn, hx⟩ := hd
  have hxl := Rd.len hx.rd0
  refine OPENCUR 0 _ rfl (fun b ci ch hpe hci hlo => ?_)
  subst hpe
  obtain ⟨cn, rfl⟩ : ∃ n : Nat, ci = n := ⟨ci.toNat, by omega⟩
  refine ASE (d := 0) rfl ?_
  refine SEQ (REGION [0] rfl (RUN0 1 [] [(0, .e (some ⟨b, 0, none⟩) 0 0)] ?_ rfl ?_))
  · as_aux_lemma => kernel_rfl
  refine ENDOPS (NEXT (SEQ (REGION [0, 1, 2, 3, 4, 5, 6, 7, 8, 9] rfl (RUN0 4 [4, 5, 6, 7, 8, 9] [(0, .e (some ⟨b, 0, none⟩) 0 0), (4, .e (some ⟨b, 0, none⟩) 0 0), (7, .e (some ⟨b, 0, none⟩) 0 2)] ?_ rfl ?_))))
  · as_aux_lemma => kernel_rfl
  refine OPC (LOADE 3 (.tmp 7) 8 3 ?_ (Nat.le_of_ble_eq_true rfl) (some ⟨b, 0, none⟩) 0 2 [.slice d.a d.n d.c, vi (cn : Int), vi ch] (vi ch) ?_ (fun w hw => ptC_elem (hw.own 0 rfl)) ?_ ?_)
  · as_aux_lemma => kernel_rfl
  · as_aux_lemma => kernel_rfl
  · as_aux_lemma => kernel_rfl
  refine RUN0 4 [9] [(0, .e (some ⟨b, 0, none⟩) 0 0), (10, I (wr ((wr (ch * 6364136223846793005)) + 1442695040888963407))), (12, .e (some ⟨b, 0, none⟩) 0 2)] ?_ rfl ?_
  · as_aux_lemma => kernel_rfl
  refine OPC (STOREC 3 (.tmp 12) (.tmp 10) 0 ?_ 0 _ b 2 d.t [.slice d.a d.n d.c, vi (cn : Int), vi ch] [.slice d.a d.n d.c, vi (cn : Int), vi (wr ((wr (ch * 6364136223846793005)) + 1442695040888963407))] rfl (vi (wr ((wr (ch * 6364136223846793005)) + 1442695040888963407))) ?_ ?_ ?_ ?_)
  · as_aux_lemma => kernel_rfl
  · as_aux_lemma => kernel_rfl
  · as_aux_lemma => kernel_rfl
  · as_aux_lemma => kernel_rfl
  refine ENDOPS (NEXT (SEQ (REGIONQ ?_ ?_ ?_)))
  · as_aux_lemma => kernel_rfl
  · as_aux_lemma => kernel_rfl
  refine QRUN 3 0 3 [(0, .e (some ⟨b, 0, none⟩) 0 0), (15, .e (some ⟨b, 0, none⟩) 0 2)] ?_ rfl ?_
  · as_aux_lemma => kernel_rfl
  refine QLOADE 3 (.tmp 15) 16 3 ?_ (Nat.le_of_ble_eq_true rfl) (some ⟨b, 0, none⟩) 0 2 [.slice d.a d.n d.c, vi (cn : Int), vi (wr ((wr (ch * 6364136223846793005)) + 1442695040888963407))] (vi (wr ((wr (ch * 6364136223846793005)) + 1442695040888963407))) ?_ (fun w hw => ptC_elem (hw.own 0 rfl)) ?_ ?_
  · as_aux_lemma => kernel_rfl
  · as_aux_lemma => kernel_rfl
  · as_aux_lemma => kernel_rfl
  refine QRUN 4 4 8 [(0, .e (some ⟨b, 0, none⟩) 0 0), (17, I (Int.fdiv (wr ((wr (ch * 6364136223846793005)) + 1442695040888963407)) (2 ^ 33))), (20, .e (some ⟨b, 0, none⟩) 0 2)] ?_ rfl ?_
  · as_aux_lemma => kernel_rfl
  refine QLOADE 3 (.tmp 20) 21 3 ?_ (Nat.le_of_ble_eq_true rfl) (some ⟨b, 0, none⟩) 0 2 [.slice d.a d.n d.c, vi (cn : Int), vi (wr ((wr (ch * 6364136223846793005)) + 1442695040888963407))] (vi (wr ((wr (ch * 6364136223846793005)) + 1442695040888963407))) ?_ (fun w hw => ptC_elem (hw.own 0 rfl)) ?_ ?_
  · as_aux_lemma => kernel_rfl
  · as_aux_lemma => kernel_rfl
  · as_aux_lemma => kernel_rfl
  refine QRUN 4 9 13 [(0, .e (some ⟨b, 0, none⟩) 0 0), (3, I (wr (((BitVec.ofInt 64 (wr (((BitVec.ofInt 64 (Int.fdiv (wr ((wr (ch * 6364136223846793005)) + 1442695040888963407)) (2 ^ 33)) ^^^ BitVec.ofInt 64 (Int.fdiv (wr ((wr (ch * 6364136223846793005)) + 1442695040888963407)) (2 ^ 45))).toNat : Int))) &&& BitVec.ofInt 64 255).toNat : Int))))] ?_ rfl ?_
  · as_aux_lemma => kernel_rfl
  refine QEND rfl (NEXT (SEQ (SEQ (REGIONQ ?_ ?_ ?_))))
  · as_aux_lemma => kernel_rfl
  · as_aux_lemma => kernel_rfl
  refine QRUN 3 0 3 [(0, .e (some ⟨b, 0, none⟩) 0 0), (3, I (wr (((BitVec.ofInt 64 (wr (((BitVec.ofInt 64 (Int.fdiv (wr ((wr (ch * 6364136223846793005)) + 1442695040888963407)) (2 ^ 33)) ^^^ BitVec.ofInt 64 (Int.fdiv (wr ((wr (ch * 6364136223846793005)) + 1442695040888963407)) (2 ^ 45))).toNat : Int))) &&& BitVec.ofInt 64 255).toNat : Int)))), (27, .e (some ⟨b, 0, none⟩) 0 1)] ?_ rfl ?_
  · as_aux_lemma => kernel_rfl
  refine QLOADE 3 (.tmp 27) 28 3 ?_ (Nat.le_of_ble_eq_true rfl) (some ⟨b, 0, none⟩) 0 1 [.slice d.a d.n d.c, vi (cn : Int), vi (wr ((wr (ch * 6364136223846793005)) + 1442695040888963407))] (vi (cn : Int)) ?_ (fun w hw => ptC_elem (hw.own 0 rfl)) ?_ ?_
  · as_aux_lemma => kernel_rfl
  · as_aux_lemma => kernel_rfl
  · as_aux_lemma => kernel_rfl
  refine QRUN 3 4 7 [(0, .e (some ⟨b, 0, none⟩) 0 0), (3, I (wr (((BitVec.ofInt 64 (wr (((BitVec.ofInt 64 (Int.fdiv (wr ((wr (ch * 6364136223846793005)) + 1442695040888963407)) (2 ^ 33)) ^^^ BitVec.ofInt 64 (Int.fdiv (wr ((wr (ch * 6364136223846793005)) + 1442695040888963407)) (2 ^ 45))).toNat : Int))) &&& BitVec.ofInt 64 255).toNat : Int)))), (28, I (cn : Int)), (31, .e (some ⟨b, 0, none⟩) 0 0)] ?_ rfl ?_
  · as_aux_lemma => kernel_rfl
  refine QLOADE 38 (.tmp 31) 32 38 ?_ (Nat.le_of_ble_eq_true rfl) (some ⟨b, 0, none⟩) 0 0 [.slice d.a d.n d.c, vi (cn : Int), vi (wr ((wr (ch * 6364136223846793005)) + 1442695040888963407))] (.slice d.a d.n d.c) ?_ (fun w hw => ptC_elem (hw.own 0 rfl)) ?_ ?_
  · as_aux_lemma => kernel_rfl
  · as_aux_lemma => kernel_rfl
  · as_aux_lemma => kernel_rfl
  refine QRUN 2 8 10 [(0, .e (some ⟨b, 0, none⟩) 0 0), (3, I (wr (((BitVec.ofInt 64 (wr (((BitVec.ofInt 64 (Int.fdiv (wr ((wr (ch * 6364136223846793005)) + 1442695040888963407)) (2 ^ 33)) ^^^ BitVec.ofInt 64 (Int.fdiv (wr ((wr (ch * 6364136223846793005)) + 1442695040888963407)) (2 ^ 45))).toNat : Int))) &&& BitVec.ofInt 64 255).toNat : Int)))), (34, B (decide ((cn : Int) < (d.n : Int))))] ?_ rfl ?_
  · as_aux_lemma => kernel_rfl
  refine QEND rfl (NEXT (IF (decide ((cn : Int) < (d.n : Int))) ?_ (fun bh1 => ?_) (fun bh1 => ?_)))
  · as_aux_lemma => kernel_rfl
  · -- decide ((cn : Int) < (d.n : Int)) = true
    have h1 := bh1
    have h1 := of_decide_eq_true h1
    refine SEQ (REGIONQ ?_ ?_ ?_)
    · as_aux_lemma => kernel_rfl
    · as_aux_lemma => kernel_rfl
    refine QRUN 4 0 4 [(0, .e (some ⟨b, 0, none⟩) 0 0), (35, I (wr (((BitVec.ofInt 64 (wr (((BitVec.ofInt 64 (Int.fdiv (wr ((wr (ch * 6364136223846793005)) + 1442695040888963407)) (2 ^ 33)) ^^^ BitVec.ofInt 64 (Int.fdiv (wr ((wr (ch * 6364136223846793005)) + 1442695040888963407)) (2 ^ 45))).toNat : Int))) &&& BitVec.ofInt 64 255).toNat : Int)))), (38, .e (some ⟨b, 0, none⟩) 0 0)] ?_ rfl ?_
    · as_aux_lemma => kernel_rfl
    refine QLOADE 38 (.tmp 38) 39 38 ?_ (Nat.le_of_ble_eq_true rfl) (some ⟨b, 0, none⟩) 0 0 [.slice d.a d.n d.c, vi (cn : Int), vi (wr ((wr (ch * 6364136223846793005)) + 1442695040888963407))] (.slice d.a d.n d.c) ?_ (fun w hw => ptC_elem (hw.own 0 rfl)) ?_ ?_
    · as_aux_lemma => kernel_rfl
    · as_aux_lemma => kernel_rfl
    · as_aux_lemma => kernel_rfl
    refine QRUN 3 5 8 [(0, .e (some ⟨b, 0, none⟩) 0 0), (35, I (wr (((BitVec.ofInt 64 (wr (((BitVec.ofInt 64 (Int.fdiv (wr ((wr (ch * 6364136223846793005)) + 1442695040888963407)) (2 ^ 33)) ^^^ BitVec.ofInt 64 (Int.fdiv (wr ((wr (ch * 6364136223846793005)) + 1442695040888963407)) (2 ^ 45))).toNat : Int))) &&& BitVec.ofInt 64 255).toNat : Int)))), (39, .v (.slice d.a d.n d.c)), (42, .e (some ⟨b, 0, none⟩) 0 1)] ?_ rfl ?_
    · as_aux_lemma => kernel_rfl
    refine QLOADE 3 (.tmp 42) 43 3 ?_ (Nat.le_of_ble_eq_true rfl) (some ⟨b, 0, none⟩) 0 1 [.slice d.a d.n d.c, vi (cn : Int), vi (wr ((wr (ch * 6364136223846793005)) + 1442695040888963407))] (vi (cn : Int)) ?_ (fun w hw => ptC_elem (hw.own 0 rfl)) ?_ ?_
    · as_aux_lemma => kernel_rfl
    · as_aux_lemma => kernel_rfl
    · as_aux_lemma => kernel_rfl
    obtain ⟨x2, hx3⟩ : ∃ y, xs[cn]? = some y := ⟨_, List.getElem?_eq_getElem (by omega)⟩
    refine QINDEX 38 (.tmp 39) (.tmp 43) 44 0 ?_ (Nat.le_of_ble_eq_true rfl) d.a d.n d.c .i64 (cn : Int) 5 1 ?_ ?_ ?_ ?_ (Rd.some hx.rd0 (by omega)) (by omega) (by omega) ?_
    · as_aux_lemma => kernel_rfl
    · as_aux_lemma => kernel_rfl
    · as_aux_lemma => kernel_rfl
    · as_aux_lemma => kernel_rfl
    · as_aux_lemma => kernel_rfl
    refine QLOADE 5 (.tmp 44) 45 5 ?_ (Nat.le_of_ble_eq_true rfl) d.a (cn * 1) 0 [.int .u8 (x2.toNat : Int)] (.int .u8 (x2.toNat : Int)) ?_ (fun w hw => (hx.rd hw.fr hS).flat hx3) ?_ ?_
    · as_aux_lemma => kernel_rfl
    · as_aux_lemma => kernel_rfl
    · as_aux_lemma => kernel_rfl
    refine QRUN 1 11 12 [(0, .e (some ⟨b, 0, none⟩) 0 0), (35, I (wr (((BitVec.ofInt 64 (wr (((BitVec.ofInt 64 (Int.fdiv (wr ((wr (ch * 6364136223846793005)) + 1442695040888963407)) (2 ^ 33)) ^^^ BitVec.ofInt 64 (Int.fdiv (wr ((wr (ch * 6364136223846793005)) + 1442695040888963407)) (2 ^ 45))).toNat : Int))) &&& BitVec.ofInt 64 255).toNat : Int)))), (46, I (IntKind.wrap .i64 (x2.toNat : Int)))] ?_ rfl ?_
    · as_aux_lemma => kernel_rfl
    refine QCAST (d := 46) (vi (IntKind.wrap .i64 (x2.toNat : Int))) (vi (x2.toNat : Int)) ?_ (vi_u8 x2) ?_
    · as_aux_lemma => kernel_rfl
    refine QRUN 3 12 15 [(0, .e (some ⟨b, 0, none⟩) 0 0), (3, I (wr (((BitVec.ofInt 64 (wr ((wr (((BitVec.ofInt 64 (wr (((BitVec.ofInt 64 (Int.fdiv (wr ((wr (ch * 6364136223846793005)) + 1442695040888963407)) (2 ^ 33)) ^^^ BitVec.ofInt 64 (Int.fdiv (wr ((wr (ch * 6364136223846793005)) + 1442695040888963407)) (2 ^ 45))).toNat : Int))) &&& BitVec.ofInt 64 255).toNat : Int))) + (x2.toNat : Int))) &&& BitVec.ofInt 64 255).toNat : Int))))] ?_ rfl ?_
    · as_aux_lemma => kernel_rfl
    refine QEND rfl (NEXT (REGION [0, 1, 2, 3, 4, 5, 6, 7, 8] rfl (RUN0 4 [4, 5, 6, 7, 8] [(3, I (wr (((BitVec.ofInt 64 (wr ((wr (((BitVec.ofInt 64 (wr (((BitVec.ofInt 64 (Int.fdiv (wr ((wr (ch * 6364136223846793005)) + 1442695040888963407)) (2 ^ 33)) ^^^ BitVec.ofInt 64 (Int.fdiv (wr ((wr (ch * 6364136223846793005)) + 1442695040888963407)) (2 ^ 45))).toNat : Int))) &&& BitVec.ofInt 64 255).toNat : Int))) + (x2.toNat : Int))) &&& BitVec.ofInt 64 255).toNat : Int)))), (49, .e (some ⟨b, 0, none⟩) 0 0), (52, .e (some ⟨b, 0, none⟩) 0 1)] ?_ rfl ?_)))
    · as_aux_lemma => kernel_rfl
    refine OPC (LOADE 3 (.tmp 52) 53 3 ?_ (Nat.le_of_ble_eq_true rfl) (some ⟨b, 0, none⟩) 0 1 [.slice d.a d.n d.c, vi (cn : Int), vi (wr ((wr (ch * 6364136223846793005)) + 1442695040888963407))] (vi (cn : Int)) ?_ (fun w hw => ptC_elem (hw.own 0 rfl)) ?_ ?_)
    · as_aux_lemma => kernel_rfl
    · as_aux_lemma => kernel_rfl
    · as_aux_lemma => kernel_rfl
    refine RUN0 1 [6, 7, 8] [(3, I (wr (((BitVec.ofInt 64 (wr ((wr (((BitVec.ofInt 64 (wr (((BitVec.ofInt 64 (Int.fdiv (wr ((wr (ch * 6364136223846793005)) + 1442695040888963407)) (2 ^ 33)) ^^^ BitVec.ofInt 64 (Int.fdiv (wr ((wr (ch * 6364136223846793005)) + 1442695040888963407)) (2 ^ 45))).toNat : Int))) &&& BitVec.ofInt 64 255).toNat : Int))) + (x2.toNat : Int))) &&& BitVec.ofInt 64 255).toNat : Int)))), (49, .e (some ⟨b, 0, none⟩) 0 0), (54, I (wr ((cn : Int) + 1)))] ?_ rfl ?_
    · as_aux_lemma => kernel_rfl
    refine CAST (d := 54) (vi (wr ((cn : Int) + 1))) (vi ((cn + 1 : Nat) : Int)) ?_ (vi_cast (by omega) (by omega)) ?_
    · as_aux_lemma => kernel_rfl
    refine RUN0 2 [8] [(3, I (wr (((BitVec.ofInt 64 (wr ((wr (((BitVec.ofInt 64 (wr (((BitVec.ofInt 64 (Int.fdiv (wr ((wr (ch * 6364136223846793005)) + 1442695040888963407)) (2 ^ 33)) ^^^ BitVec.ofInt 64 (Int.fdiv (wr ((wr (ch * 6364136223846793005)) + 1442695040888963407)) (2 ^ 45))).toNat : Int))) &&& BitVec.ofInt 64 255).toNat : Int))) + (x2.toNat : Int))) &&& BitVec.ofInt 64 255).toNat : Int)))), (54, I ((cn + 1 : Nat) : Int)), (56, .e (some ⟨b, 0, none⟩) 0 1)] ?_ rfl ?_
    · as_aux_lemma => kernel_rfl
    refine OPC (STOREC 3 (.tmp 56) (.tmp 54) 0 ?_ 0 _ b 1 d.t [.slice d.a d.n d.c, vi (cn : Int), vi (wr ((wr (ch * 6364136223846793005)) + 1442695040888963407))] [.slice d.a d.n d.c, vi ((cn + 1 : Nat) : Int), vi (wr ((wr (ch * 6364136223846793005)) + 1442695040888963407))] rfl (vi ((cn + 1 : Nat) : Int)) ?_ ?_ ?_ ?_)
    · as_aux_lemma => kernel_rfl
    · as_aux_lemma => kernel_rfl
    · as_aux_lemma => kernel_rfl
    · as_aux_lemma => kernel_rfl
    refine ENDOPS (NEXT (SEQ (REGION [0, 1] rfl (RUN0 2 [] [(2, I (wr (((BitVec.ofInt 64 (wr ((wr (((BitVec.ofInt 64 (wr (((BitVec.ofInt 64 (Int.fdiv (wr ((wr (ch * 6364136223846793005)) + 1442695040888963407)) (2 ^ 33)) ^^^ BitVec.ofInt 64 (Int.fdiv (wr ((wr (ch * 6364136223846793005)) + 1442695040888963407)) (2 ^ 45))).toNat : Int))) &&& BitVec.ofInt 64 255).toNat : Int))) + (x2.toNat : Int))) &&& BitVec.ofInt 64 255).toNat : Int))))] ?_ rfl ?_))))
    · as_aux_lemma => kernel_rfl
    refine ENDOPS (NEXT (RET (CLOSECUR (i := ((cn + 1 : Nat) : Int)) (h := wr ((wr (ch * 6364136223846793005)) + 1442695040888963407)) 0 _ rfl (by omega) hlo ?_)))
    refine FIN (vi (wr (((BitVec.ofInt 64 (wr ((wr (((BitVec.ofInt 64 (wr (((BitVec.ofInt 64 (Int.fdiv (wr ((wr (ch * 6364136223846793005)) + 1442695040888963407)) (2 ^ 33)) ^^^ BitVec.ofInt 64 (Int.fdiv (wr ((wr (ch * 6364136223846793005)) + 1442695040888963407)) (2 ^ 45))).toNat : Int))) &&& BitVec.ofInt 64 255).toNat : Int))) + (x2.toNat : Int))) &&& BitVec.ofInt 64 255).toNat : Int)))) ?_ ⟨wr (((BitVec.ofInt 64 (wr ((wr (((BitVec.ofInt 64 (wr (((BitVec.ofInt 64 (Int.fdiv (wr ((wr (ch * 6364136223846793005)) + 1442695040888963407)) (2 ^ 33)) ^^^ BitVec.ofInt 64 (Int.fdiv (wr ((wr (ch * 6364136223846793005)) + 1442695040888963407)) (2 ^ 45))).toNat : Int))) &&& BitVec.ofInt 64 255).toNat : Int))) + (x2.toNat : Int))) &&& BitVec.ofInt 64 255).toNat : Int)), and255 _⟩ ?_ [0] ?_
    · as_aux_lemma => kernel_rfl
    · rfl
    · rfl
  · -- decide ((cn : Int) < (d.n : Int)) = false
    have h1 := bh1
    have h1 := of_decide_eq_false h1
    refine SKIP (NEXT (SEQ (REGION [0, 1] rfl (RUN0 2 [] [(2, I (wr (((BitVec.ofInt 64 (wr (((BitVec.ofInt 64 (Int.fdiv (wr ((wr (ch * 6364136223846793005)) + 1442695040888963407)) (2 ^ 33)) ^^^ BitVec.ofInt 64 (Int.fdiv (wr ((wr (ch * 6364136223846793005)) + 1442695040888963407)) (2 ^ 45))).toNat : Int))) &&& BitVec.ofInt 64 255).toNat : Int))))] ?_ rfl ?_))))
    · as_aux_lemma => kernel_rfl
    refine ENDOPS (NEXT (RET (CLOSECUR (i := (cn : Int)) (h := wr ((wr (ch * 6364136223846793005)) + 1442695040888963407)) 0 _ rfl (by omega) hlo ?_)))
    refine FIN (vi (wr (((BitVec.ofInt 64 (wr (((BitVec.ofInt 64 (Int.fdiv (wr ((wr (ch * 6364136223846793005)) + 1442695040888963407)) (2 ^ 33)) ^^^ BitVec.ofInt 64 (Int.fdiv (wr ((wr (ch * 6364136223846793005)) + 1442695040888963407)) (2 ^ 45))).toNat : Int))) &&& BitVec.ofInt 64 255).toNat : Int)))) ?_ ⟨wr (((BitVec.ofInt 64 (wr (((BitVec.ofInt 64 (Int.fdiv (wr ((wr (ch * 6364136223846793005)) + 1442695040888963407)) (2 ^ 33)) ^^^ BitVec.ofInt 64 (Int.fdiv (wr ((wr (ch * 6364136223846793005)) + 1442695040888963407)) (2 ^ 45))).toNat : Int))) &&& BitVec.ofInt 64 255).toNat : Int)), and255 _⟩ ?_ [0] ?_
    · as_aux_lemma => kernel_rfl
    · rfl
    · rfl

theorem l1Below_c (W : World) (d : Cd) (hd : CodeOk W d) (p : Value) (n : Int) : Spec Tryd.prog W [curA d p] 41 #[p, vi n] (⟨{x : Int // 0 ≤ x ∧ (n ≤ 0 → x = 0) ∧ (0 < n → x < n)}, fun q => vi q.1, fun q => [curA (d) p]⟩) := by
  refine ENTERC (N := 37) (vs := [p, vi n]) Tryd.func41 rfl rfl (Nat.le_of_ble_eq_true rfl) (fun S0 hS => ?_)
  refine SEQ (REGION [0] rfl (RUN0 1 [] [(0, .v (p)), (1, I n)] ?_ rfl ?_))
  · as_aux_lemma => kernel_rfl
  refine ENDOPS (NEXT (SEQ (SEQ (REGION [0, 1] rfl (RUN0 2 [] [(0, .v (p)), (1, I n), (10, B (decide (n ≤ 0)))] ?_ rfl ?_)))))
  · as_aux_lemma => kernel_rfl
  refine ENDOPS (NEXT (IF (decide (n ≤ 0)) ?_ (fun bh1 => ?_) (fun bh1 => ?_)))
  · as_aux_lemma => kernel_rfl
  · -- decide (n ≤ 0) = true
    have h1 := bh1
    have h1 := of_decide_eq_true h1
    refine SEQ (REGION [0] rfl (RUN0 1 [] [(4, I 0)] ?_ rfl ?_))
    · as_aux_lemma => kernel_rfl
    refine ENDOPS (NEXT (RET (PASS trivial (FIN (vi 0) ?_ ⟨0, (by omega)⟩ ?_ [0] ?_))))
    · as_aux_lemma => kernel_rfl
    · rfl
    · rfl
  · -- decide (n ≤ 0) = false
    have h1 := bh1
    have h1 := of_decide_eq_false h1
    refine SKIP (NEXT (SEQ (SEQ (REGION [0, 1] rfl (RUN0 2 [] [(0, .v (p)), (1, I n), (12, B (decide (n ≤ 256)))] ?_ rfl ?_)))))
    · as_aux_lemma => kernel_rfl
    refine ENDOPS (NEXT (IF (decide (n ≤ 256)) ?_ (fun bh2 => ?_) (fun bh2 => ?_)))
    · as_aux_lemma => kernel_rfl
    · -- decide (n ≤ 256) = true
      have h2 := bh2
      have h2 := of_decide_eq_true h2
      refine SEQ (REGION [0, 1, 2, 3, 4] rfl (RUN0 1 [1, 2, 3, 4] [(1, I n), (13, .v (p))] ?_ rfl ?_))
      · as_aux_lemma => kernel_rfl
      refine OPC (CALL 56 #[p] (some 14) ?_ [0] [curA (d) p] _ rfl (⟨{x : Int // 0 ≤ x ∧ x < 256}, fun q => vi q.1, fun q => [curA (d) p]⟩) (fun w hw => l1Byte_c w (d) (hd.fr hw.fr hS) p) (by rintro _ ⟨⟩; exact Nat.le_of_ble_eq_true rfl) ?_)
      · as_aux_lemma => kernel_rfl
      rintro ⟨m3, hm4⟩
      try dsimp only at hm4
      refine RUN0 1 [3, 4] [(14, I m3), (15, I n)] ?_ rfl ?_
      · as_aux_lemma => kernel_rfl
      refine OPC (RUNV (.binOp .rem 3 (.tmp 14) (.tmp 15) 3) 16 3 ?_ (Nat.le_of_ble_eq_true rfl) (vi (Int.tmod m3 n)) (runs_rem (a := m3) (b := n) ?_ ?_ (by omega)) ?_)
      · as_aux_lemma => kernel_rfl
      · as_aux_lemma => kernel_rfl
      · as_aux_lemma => kernel_rfl
      refine RUN0 1 [] [(4, I (Int.tmod m3 n))] ?_ rfl ?_
      · as_aux_lemma => kernel_rfl
      refine ENDOPS (NEXT (RET (PASS trivial (FIN (vi (Int.tmod m3 n)) ?_ ⟨Int.tmod m3 n, (by first | exact tmod_rng (by omega) (by omega) | exact tmod_rng (four_bytes (by assumption) (by assumption) (by assumption) (by assumption)) (by omega))⟩ ?_ [0] ?_))))
      · as_aux_lemma => kernel_rfl
      · rfl
      · rfl
    · -- decide (n ≤ 256) = false
      have h2 := bh2
      have h2 := of_decide_eq_false h2
      refine SKIP (NEXT (SEQ (REGION [0, 1, 2] rfl (RUN0 1 [1, 2] [(0, .v (p)), (1, I n), (17, .v (p))] ?_ rfl ?_))))
      · as_aux_lemma => kernel_rfl
      refine OPC (CALL 56 #[p] (some 18) ?_ [0] [curA (d) p] _ rfl (⟨{x : Int // 0 ≤ x ∧ x < 256}, fun q => vi q.1, fun q => [curA (d) p]⟩) (fun w hw => l1Byte_c w (d) (hd.fr hw.fr hS) p) (by rintro _ ⟨⟩; exact Nat.le_of_ble_eq_true rfl) ?_)
      · as_aux_lemma => kernel_rfl
      rintro ⟨m5, hm6⟩
      try dsimp only at hm6
      refine RUN0 1 [] [(0, .v (p)), (1, I n), (5, I m5)] ?_ rfl ?_
      · as_aux_lemma => kernel_rfl
      refine ENDOPS (NEXT (SEQ (REGION [0, 1, 2] rfl (RUN0 1 [1, 2] [(0, .v (p)), (1, I n), (5, I m5), (19, .v (p))] ?_ rfl ?_))))
      · as_aux_lemma => kernel_rfl
      refine OPC (CALL 56 #[p] (some 20) ?_ [0] [curA (d) p] _ rfl (⟨{x : Int // 0 ≤ x ∧ x < 256}, fun q => vi q.1, fun q => [curA (d) p]⟩) (fun w hw => l1Byte_c w (d) (hd.fr hw.fr hS) p) (by rintro _ ⟨⟩; exact Nat.le_of_ble_eq_true rfl) ?_)
      · as_aux_lemma => kernel_rfl
      rintro ⟨m7, hm8⟩
      try dsimp only at hm8
      refine RUN0 1 [] [(0, .v (p)), (1, I n), (5, I m5), (6, I m7)] ?_ rfl ?_
      · as_aux_lemma => kernel_rfl
      refine ENDOPS (NEXT (SEQ (REGION [0, 1, 2] rfl (RUN0 1 [1, 2] [(0, .v (p)), (1, I n), (5, I m5), (6, I m7), (21, .v (p))] ?_ rfl ?_))))
      · as_aux_lemma => kernel_rfl
      refine OPC (CALL 56 #[p] (some 22) ?_ [0] [curA (d) p] _ rfl (⟨{x : Int // 0 ≤ x ∧ x < 256}, fun q => vi q.1, fun q => [curA (d) p]⟩) (fun w hw => l1Byte_c w (d) (hd.fr hw.fr hS) p) (by rintro _ ⟨⟩; exact Nat.le_of_ble_eq_true rfl) ?_)
      · as_aux_lemma => kernel_rfl
      rintro ⟨m9, hm10⟩
      try dsimp only at hm10
      refine RUN0 1 [] [(0, .v (p)), (1, I n), (5, I m5), (6, I m7), (7, I m9)] ?_ rfl ?_
      · as_aux_lemma => kernel_rfl
      refine ENDOPS (NEXT (SEQ (REGION [0, 1, 2] rfl (RUN0 1 [1, 2] [(1, I n), (5, I m5), (6, I m7), (7, I m9), (23, .v (p))] ?_ rfl ?_))))
      · as_aux_lemma => kernel_rfl
      refine OPC (CALL 56 #[p] (some 24) ?_ [0] [curA (d) p] _ rfl (⟨{x : Int // 0 ≤ x ∧ x < 256}, fun q => vi q.1, fun q => [curA (d) p]⟩) (fun w hw => l1Byte_c w (d) (hd.fr hw.fr hS) p) (by rintro _ ⟨⟩; exact Nat.le_of_ble_eq_true rfl) ?_)
      · as_aux_lemma => kernel_rfl
      rintro ⟨m11, hm12⟩
      try dsimp only at hm12
      refine RUN0 1 [] [(1, I n), (5, I m5), (6, I m7), (7, I m9), (8, I m11)] ?_ rfl ?_
      · as_aux_lemma => kernel_rfl
      refine ENDOPS (NEXT (SEQ (REGION [0, 1, 2, 3, 4, 5, 6, 7, 8, 9, 10, 11, 12] rfl (RUN0 11 [11, 12] [(34, I (wr ((wr ((wr ((wr (m5 * 16777216)) + (wr (m7 * 65536)))) + (wr (m9 * 256)))) + m11))), (35, I n)] ?_ rfl ?_))))
      · as_aux_lemma => kernel_rfl
      refine OPC (RUNV (.binOp .rem 3 (.tmp 34) (.tmp 35) 3) 36 3 ?_ (Nat.le_of_ble_eq_true rfl) (vi (Int.tmod (wr ((wr ((wr ((wr (m5 * 16777216)) + (wr (m7 * 65536)))) + (wr (m9 * 256)))) + m11)) n)) (runs_rem (a := wr ((wr ((wr ((wr (m5 * 16777216)) + (wr (m7 * 65536)))) + (wr (m9 * 256)))) + m11)) (b := n) ?_ ?_ (by omega)) ?_)
      · as_aux_lemma => kernel_rfl
      · as_aux_lemma => kernel_rfl
      · as_aux_lemma => kernel_rfl
      refine RUN0 1 [] [(4, I (Int.tmod (wr ((wr ((wr ((wr (m5 * 16777216)) + (wr (m7 * 65536)))) + (wr (m9 * 256)))) + m11)) n))] ?_ rfl ?_
      · as_aux_lemma => kernel_rfl
      refine ENDOPS (NEXT (RET (FIN (vi (Int.tmod (wr ((wr ((wr ((wr (m5 * 16777216)) + (wr (m7 * 65536)))) + (wr (m9 * 256)))) + m11)) n)) ?_ ⟨Int.tmod (wr ((wr ((wr ((wr (m5 * 16777216)) + (wr (m7 * 65536)))) + (wr (m9 * 256)))) + m11)) n, (by first | exact tmod_rng (by omega) (by omega) | exact tmod_rng (four_bytes (by assumption) (by assumption) (by assumption) (by assumption)) (by omega))⟩ ?_ [0] ?_)))
      · as_aux_lemma => kernel_rfl
      · rfl
      · rfl

theorem l7Skip_c (W : World) (d : Cd) (hd : CodeOk W d) (p : Value) : Spec Tryd.prog W [curA d p] 42 #[p] (⟨{q : (HH) × List Int // (fun x : List Int => x.length ≤ 3 ∧ ∀ y ∈ x, 0 ≤ y ∧ y < 13) q.2}, fun q => .slice q.1.1.1 q.1.2.length q.1.1.2, fun q => [slA 3 intL (.slice q.1.1.1 q.1.2.length q.1.1.2) q.1.2, curA (d) p]⟩) := by
  refine ENTERC (N := 20) (vs := [p]) Tryd.func42 rfl rfl (Nat.le_of_ble_eq_true rfl) (fun S0 hS => ?_)
  refine SEQ (REGION [0] rfl (RUN0 1 [] [(0, .v (p))] ?_ rfl ?_))
  · as_aux_lemma => kernel_rfl
  refine ENDOPS (NEXT (SEQ (REGION [0, 1] rfl (OPC (BUILDS 22 0 #[] 6 22 ?_ (Nat.le_of_ble_eq_true rfl) 3 [] ?_ intL [] rfl (by simp only [maxLen]; omega) [] [] _ rfl (flatRep rfl) (fun a1 ha2 => ?_))))))
  · as_aux_lemma => kernel_rfl
  · as_aux_lemma => kernel_rfl
  refine RUN0 1 [] [(0, .v (p)), (3, .v (.slice a1 0 0))] ?_ rfl ?_
  · as_aux_lemma => kernel_rfl
  refine ENDOPS (NEXT (SEQ (REGION [0, 1, 2] rfl (RUN0 1 [1, 2] [(0, .v (p)), (3, .v (.slice a1 0 0)), (7, .v (p))] ?_ rfl ?_))))
  · as_aux_lemma => kernel_rfl
  refine OPC (CALL 41 #[p, vi 4] (some 8) ?_ [0] [curA (d) p] _ rfl (⟨{x : Int // 0 ≤ x ∧ (4 ≤ 0 → x = 0) ∧ (0 < 4 → x < 4)}, fun q => vi q.1, fun q => [curA (d) p]⟩) (fun w hw => l1Below_c w (d) (hd.fr hw.fr hS) p 4) (by rintro _ ⟨⟩; exact Nat.le_of_ble_eq_true rfl) ?_)
  · as_aux_lemma => kernel_rfl
  rintro ⟨m3, hm4⟩
  try dsimp only at hm4
  refine RUN0 1 [] [(0, .v (p)), (3, .v (.slice a1 0 0)), (4, I m3)] ?_ rfl ?_
  · as_aux_lemma => kernel_rfl
  refine ENDOPS (NEXT (SEQ (SEQ (REGION [0] rfl (RUN0 1 [] [(0, .v (p)), (3, .v (.slice a1 0 0)), (4, I m3), (5, I 0)] ?_ rfl ?_)))))
  · as_aux_lemma => kernel_rfl
  refine ENDOPS (NEXT (BLOCK (LOOP (ι := Nat × (Option Addr) × Nat × (List Int)) (fun j => [(0, .v (p)), (3, .v (.slice j.2.1 j.2.2.2.length j.2.2.1)), (4, I m3), (5, I (j.1 : Int))]) (fun j => []) (fun j => [slA 3 intL (.slice j.2.1 j.2.2.2.length j.2.2.1) j.2.2.2, curA (d) p]) (fun j => j.2.2.2.length = j.1 ∧ (∀ y ∈ j.2.2.2, 0 ≤ y ∧ y < 13) ∧ (j.1 : Int) ≤ m3) (fun j => (m3 - (j.1 : Int)).toNat) (0, a1, 0, []) [0, 3, 4, 5] ⟨rfl, by simp, by dsimp only; omega⟩ ?_ rfl rfl ?_)))
  · as_aux_lemma => kernel_rfl
  rintro ⟨i, oa, oc, out⟩ ⟨hil, hiy, hin⟩
  dsimp only at hil hiy hin
  refine SEQ (SEQ (REGION [0, 1, 2] rfl (RUN0 3 [] [(0, .v (p)), (3, .v (.slice oa out.length oc)), (4, I m3), (5, I (i : Int)), (11, B (decide ((i : Int) < m3)))] ?_ rfl ?_)))
  · as_aux_lemma => kernel_rfl
  refine ENDOPS (NEXT (IF (decide ((i : Int) < m3)) ?_ (fun bh5 => ?_) (fun bh5 => ?_)))
  · as_aux_lemma => kernel_rfl
  · -- decide ((i : Int) < m3) = true
    have h5 := bh5
    have h5 := of_decide_eq_true h5
    refine SKIP (NEXT (SEQ (BLOCK (REGION [0, 1, 2, 3, 4, 5] rfl (RUN0 2 [2, 3, 4, 5] [(0, .v (p)), (4, I m3), (5, I (i : Int)), (14, .v (.slice oa out.length oc)), (15, .v (p))] ?_ rfl ?_)))))
    · as_aux_lemma => kernel_rfl
    refine OPC (CALL 41 #[p, vi 13] (some 16) ?_ [1] [curA (d) p] _ rfl (⟨{x : Int // 0 ≤ x ∧ (13 ≤ 0 → x = 0) ∧ (0 < 13 → x < 13)}, fun q => vi q.1, fun q => [curA (d) p]⟩) (fun w hw => l1Below_c w (d) (hd.fr hw.fr hS) p 13) (by rintro _ ⟨⟩; exact Nat.le_of_ble_eq_true rfl) ?_)
    · as_aux_lemma => kernel_rfl
    rintro ⟨m6, hm7⟩
    try dsimp only at hm7
    refine OPC (BUILDS 22 1 #[(0, .tmp 16)] 17 22 ?_ (Nat.le_of_ble_eq_true rfl) 3 [vi m6] ?_ intL [m6] rfl (by simp only [maxLen]; omega) [] [] _ rfl (flatRep rfl) (fun a8 ha9 => ?_))
    · as_aux_lemma => kernel_rfl
    · as_aux_lemma => kernel_rfl
    refine OPC (APPENDO 22 (.tmp 14) (.tmp 17) 18 22 ?_ (Nat.le_of_ble_eq_true rfl) (.slice oa out.length oc) a8 1 1 ?_ ?_ ha9 3 ?_ intL (vi 0) 8 ?_ rfl (by decide) 0 1 out ([m6]) _ rfl rfl (by first | omega | (simp only [List.length_append, List.length_cons, List.length_nil, List.length_take, List.length_drop] at *; omega)) (by simp only [maxLen]; first | omega | (simp only [List.length_append, List.length_cons, List.length_nil, List.length_take, List.length_drop] at *; omega)) (fun a10 c11 hn12 => ?_))
    · as_aux_lemma => kernel_rfl
    · as_aux_lemma => kernel_rfl
    · as_aux_lemma => kernel_rfl
    · as_aux_lemma => kernel_rfl
    · as_aux_lemma => kernel_rfl
    refine RUN0 1 [] [(0, .v (p)), (3, .v (.slice a10 ((out ++ ([m6])).length) c11)), (4, I m3), (5, I (i : Int))] ?_ rfl ?_
    · as_aux_lemma => kernel_rfl
    refine ENDOPS (OUTN (NEXT (REGION [0, 1, 2] rfl (RUN0 2 [2] [(0, .v (p)), (3, .v (.slice a10 ((out ++ ([m6])).length) c11)), (4, I m3), (13, I (wr ((i : Int) + 1)))] ?_ rfl ?_))))
    · as_aux_lemma => kernel_rfl
    refine CAST (d := 13) (vi (wr ((i : Int) + 1))) (vi ((i + 1 : Nat) : Int)) ?_ (vi_cast (by omega) (by omega)) ?_
    · as_aux_lemma => kernel_rfl
    refine RUN0 1 [] [(0, .v (p)), (3, .v (.slice a10 ((out ++ ([m6])).length) c11)), (4, I m3), (5, I ((i + 1 : Nat) : Int))] ?_ rfl ?_
    · as_aux_lemma => kernel_rfl
    refine ENDOPS (BACK (i + 1, a10, c11, out ++ ([m6])) [0, 3, 4, 5] 0 [1, 0] _ ⟨by simp only [List.length_append, List.length_cons, List.length_nil]; omega, (fun y hy => (List.mem_append.1 hy).elim (hiy y) (fun h => by simp at h; subst h; omega)), by dsimp only; omega⟩ (by dsimp only; omega) ?_ rfl rfl rfl)
    · as_aux_lemma => kernel_rfl
  · -- decide ((i : Int) < m3) = false
    have h5 := bh5
    have h5 := of_decide_eq_false h5
    refine EXIT (PASS trivial (PASS trivial (OUT (NEXT (SEQ (REGION [0, 1] rfl (RUN0 2 [] [(2, .v (.slice oa out.length oc))] ?_ rfl ?_)))))))
    · as_aux_lemma => kernel_rfl
    refine ENDOPS (NEXT (RET (FIN (.slice oa out.length oc) ?_ ⟨((oa, oc), out), ⟨by dsimp only; omega, hiy⟩⟩ ?_ [0, 0] ?_)))
    · as_aux_lemma => kernel_rfl
    · rfl
    · rfl

theorem drawReply_c (W : World) (code : List UInt8) (code_a : Option Addr) (code_c : Nat) (hcode : Rd byteL W code_a code) : Spec Tryd.prog W [] 19 #[.slice code_a code.length code_c] (⟨{q : (HH) × Reply // (fun x : Reply => (∀ y ∈ x.ids, 0 ≤ y ∧ y < 13) ∧ x.ids.length ≤ 3) q.2}, fun q => .agg #[vi q.1.2.code, .slice q.1.1.1 q.1.2.ids.length q.1.1.2], fun q => [slA 3 intL (.slice q.1.1.1 q.1.2.ids.length q.1.1.2) q.1.2.ids]⟩) := by
  refine ENTER0 (N := 12) (vs := [.slice code_a code.length code_c]) Tryd.func19 rfl rfl (Nat.le_of_ble_eq_true rfl) ?_
  have hcode_len := hcode.len
  refine SEQ (REGION [0] rfl (RUN 1 [] [(0, .v (.slice code_a code.length code_c)), (2, .p 0 0)] [(27, [vi 0, .slice none 0 0])] ?_ rfl ?_))
  · as_aux_lemma => kernel_rfl
  refine ENDOPS (NEXT (SEQ (REGION [0, 1, 2] rfl (RUN0 1 [1, 2] [(2, .p 0 0), (4, .v (.slice code_a code.length code_c))] ?_ rfl ?_))))
  · as_aux_lemma => kernel_rfl
  refine OPC (CALL 40 #[.slice code_a code.length code_c] (some 5) ?_ [] [] _ rfl (⟨Value, fun p => p, fun p => [curA (⟨W.heap.size, 83, code_a, code.length, code_c⟩) p]⟩) (fun w hw => l1New_c w code code_a code_c (hcode.fr hw.fr) W.heap.size hw.fr.size) (by rintro _ ⟨⟩; exact Nat.le_of_ble_eq_true rfl) ?_)
  · as_aux_lemma => kernel_rfl
  rintro p1
  refine RUN0 1 [] [(2, .p 0 0), (3, .v (p1))] ?_ rfl ?_
  · as_aux_lemma => kernel_rfl
  refine ENDOPS (NEXT (SEQ (REGION [0, 1, 2, 3, 4, 5, 6] rfl (RUN0 1 [1, 2, 3, 4, 5, 6] [(2, .p 0 0), (3, .v (p1)), (6, .v (p1))] ?_ rfl ?_))))
  · as_aux_lemma => kernel_rfl
  refine OPC (CALL 41 #[p1, vi 21] (some 7) ?_ [0] [curA (⟨W.heap.size, 83, code_a, code.length, code_c⟩) p1] _ rfl (⟨{x : Int // 0 ≤ x ∧ (21 ≤ 0 → x = 0) ∧ (0 < 21 → x < 21)}, fun q => vi q.1, fun q => [curA (⟨W.heap.size, 83, code_a, code.length, code_c⟩) p1]⟩) (fun w hw => l1Below_c w (⟨W.heap.size, 83, code_a, code.length, code_c⟩) (CodeOk.of hcode hw.fr) p1 21) (by rintro _ ⟨⟩; exact Nat.le_of_ble_eq_true rfl) ?_)
  · as_aux_lemma => kernel_rfl
  rintro ⟨m2, hm3⟩
  try dsimp only at hm3
  refine RUN0 2 [4, 5, 6] [(2, .p 0 0), (8, I (wr (m2 - 1))), (9, .v (p1))] ?_ rfl ?_
  · as_aux_lemma => kernel_rfl
  refine OPC (CALL 42 #[p1] (some 10) ?_ [0] [curA (⟨W.heap.size, 83, code_a, code.length, code_c⟩) p1] _ rfl (⟨{q : (HH) × List Int // (fun x : List Int => x.length ≤ 3 ∧ ∀ y ∈ x, 0 ≤ y ∧ y < 13) q.2}, fun q => .slice q.1.1.1 q.1.2.length q.1.1.2, fun q => [slA 3 intL (.slice q.1.1.1 q.1.2.length q.1.1.2) q.1.2, curA (⟨W.heap.size, 83, code_a, code.length, code_c⟩) p1]⟩) (fun w hw => l7Skip_c w (⟨W.heap.size, 83, code_a, code.length, code_c⟩) (CodeOk.of hcode hw.fr) p1) (by rintro _ ⟨⟩; exact Nat.le_of_ble_eq_true rfl) ?_)
  · as_aux_lemma => kernel_rfl
  rintro ⟨⟨⟨a6, c7⟩, m4⟩, hm5⟩
  try dsimp only at hm5
  refine RUN 2 [] [(2, .p 0 0)] [(27, [vi (wr (m2 - 1)), .slice a6 m4.length c7])] ?_ rfl ?_
  · as_aux_lemma => kernel_rfl
  refine ENDOPS (NEXT (RET (FIN (.agg #[vi (wr (m2 - 1)), .slice a6 m4.length c7]) ?_ ⟨((a6, c7), (⟨wr (m2 - 1), m4⟩ : Reply)), (⟨hm5.2, hm5.1⟩)⟩ ?_ [0] ?_)))
  · as_aux_lemma => kernel_rfl
  · rfl
  · rfl

theorem big_c (W : World) (code : List UInt8) (code_a : Option Addr) (code_c : Nat) (hcode : Rd byteL W code_a code) : Spec Tryd.prog W [] 18 #[.slice code_a code.length code_c] (RV (.bool (decide ((code.length : Int) > 1048576)))) := by
  refine ENTER0 (N := 6) (vs := [.slice code_a code.length code_c]) Tryd.func18 rfl rfl (Nat.le_of_ble_eq_true rfl) ?_
  have hcode_len := hcode.len
  refine SEQ (REGION [0] rfl (RUN0 1 [] [(0, .v (.slice code_a code.length code_c))] ?_ rfl ?_))
  · as_aux_lemma => kernel_rfl
  refine ENDOPS (NEXT (SEQ (REGION [0, 1, 2, 3] rfl (RUN0 4 [] [(2, B (decide ((code.length : Int) > 1048576)))] ?_ rfl ?_))))
  · as_aux_lemma => kernel_rfl
  refine ENDOPS (NEXT (RET (FIN (.bool (decide ((code.length : Int) > 1048576))) ?_ () ?_ [] ?_)))
  · as_aux_lemma => kernel_rfl
  · rfl
  · rfl

end SX
end Go.Proofs.YtpdijcbgdalphaaDoor
