/- Walks, printed by program. -/
import Derived.Test.YtcbpmjfjdjpalaaGreatDoorI1
import Derived.Test.YtcbpmjfjdjpalaaGreatDoorMdll
import Derived.Test.YtcbpmjfjdjpalaaGreatDoorMdl6
import Derived.Test.YtcbpmjfjdjpalaaGreatDoorSxj
namespace Go.Proofs.YtcbpmjfjdjpalaaGreatDoor
namespace SX
open Go Go.RowKit
set_option linter.unusedVariables false
set_option linter.unusedSimpArgs false
set_option maxRecDepth 10000
set_option maxHeartbeats 400000
theorem sDigits_c (W : World) (n : Int) (hn : i64R n) : Spec Tryz.prog W [] 9 #[vi n] (RV (.string (bs (Lib.itoa n)))) := by
 refine ENTER0 (N := 31) (vs := [vi n]) Tryz.func9 rfl rfl (NL rfl) ?_
 refine SEQ (RG (UU 1 [] (ENDOPS (NEXT (SEQ (SEQ (RG (UU 2 [(7, B (n == 0))] (NI (n == 0) (fun bh1 => ?_) (fun bh1 => ?_))))))))))
 ·
  have h1 := eq_of_beq bh1
  refine SEQ (RG (UU 1 [(2, .v (.string (bs ([48]))))] (ENDOPS (NEXT (RF rfl (.string (bs ([48]))) () [] ?_ ?_)))))
  · (show Value.string _ = Value.string (bs (Lib.itoa n)); congr 2; first | (subst_vars; exact itoa_zero.symm) | (rw [itoa_of (by assumption), ← hv]; simp_all [ddz]))
  · rfl
 ·
  have h1 := ne_of_beq_false bh1
  refine SKIP (NEXT (SEQ (RG (UU 3 [(3, B (decide (n < 0)))] (NR (UU 1 [(4, .v (.string (bs ([]))))] (ENDOPS (NEXT (SEQ (BLOCK (LOOP (ι := Int × (List UInt8)) (fun j => [(0, I j.1), (3, B (decide (n < 0))), (4, .v (.string (bs j.2)))]) (fun j => []) (fun j => []) (fun j => i64R j.1 ∧ ddz j.1.natAbs ++ j.2 = ddz n.natAbs) (fun j => j.1.natAbs) (n, []) [0, 3, 4] ⟨hn, by simp⟩ (by kernel_rfl) rfl rfl ?_)))))))))))
  rintro ⟨m, out⟩ ⟨hm, hv⟩
  try dsimp only at hm hv
  have hol : out.length ≤ 20 := by have h1 := congrArg List.length hv; have h2 := dec_len (u := n.natAbs) (by unfold i64R at hn; omega); simp only [List.length_append] at h1; omega
  refine SEQ (SEQ (RG (UU 2 [(11, B (m != 0))] (NI (m != 0) (fun bh2 => ?_) (fun bh2 => ?_)))))
  ·
   have h2 := bne_iff_ne.1 bh2
   refine SKIP (NEXT (BLOCK (SEQ (RG (UU 3 [(5, I (Int.tmod m 10))] (ENDOPS (NEXT (SEQ (SEQ (RG (UU 2 [(15, B (decide ((Int.tmod m 10) < 0)))] (NI (decide ((Int.tmod m 10) < 0)) (fun bh3 => ?_) (fun bh3 => ?_)))))))))))))
   ·
    have h3 := of_decide_eq_true bh3
    refine RG (UU 3 [(5, I (wr (0 - (Int.tmod m 10))))] (NR (UU 3 [(20, .v (.int .u8 (IntKind.wrap .u8 (wr (48 + (wr (0 - (Int.tmod m 10))))))))] (CS 20 (.int .u8 (IntKind.wrap .u8 (wr (48 + (wr (0 - (Int.tmod m 10))))))) (.int .u8 (((byteOf (wr (48 + (wr (0 - (Int.tmod m 10)))))).toNat : Nat) : Int)) (v8 (wr (48 + (wr (0 - (Int.tmod m 10)))))) (OPC (BUILDS 22 1 #[(0, .tmp 20)] 21 22 (by kernel_rfl) (NL rfl) 5 [.int .u8 (((byteOf (wr (48 + (wr (0 - (Int.tmod m 10)))))).toNat : Nat) : Int)] (by kernel_rfl) byteL ([byteOf (wr (48 + (wr (0 - (Int.tmod m 10)))))] : List UInt8) rfl (by simp only [maxLen]; omega) [] [] _ rfl (flatRep rfl) (fun a4 ha5 => (FACT (1 = ([byteOf (wr (48 + (wr (0 - (Int.tmod m 10)))))] : List UInt8).length) (fun w hw => (SlO.lenE (hw.own 0 rfl)).1) (fun hln6 => (OPC (RUNV (.convert 22 9 (.tmp 21)) 22 9 (by kernel_rfl) (NL rfl) (.string (bs ([byteOf (wr (48 + (wr (0 - (Int.tmod m 10)))))] : List UInt8))) (runs_bstr (a := a4) (n := 1) (c := 1) (xs := ([byteOf (wr (48 + (wr (0 - (Int.tmod m 10)))))] : List UInt8)) (e := 5) (by kernel_rfl) (by kernel_rfl) (by kernel_rfl) (by kernel_rfl) hln6.symm (fun w hw => (hw.rdO 0 rfl))) (UU 1 [(23, .v (.string (bs out)))] (OPC (RUNV (.binOp .add 9 (.tmp 22) (.tmp 23) 9) 24 9 (by kernel_rfl) (NL rfl) (.string (bs (([byteOf (wr (48 + (wr (0 - (Int.tmod m 10)))))] : List UInt8) ++ out))) (runs_scat (a := ([byteOf (wr (48 + (wr (0 - (Int.tmod m 10)))))] : List UInt8)) (b := out) (by kernel_rfl) (by kernel_rfl) (by first | omega | (simp only [List.length_append, List.length_cons, List.length_nil, List.length_take, List.length_drop] at *; omega))) ?_))))))))))))))
    refine UU 1 [(4, .v (.string (bs (([byteOf (wr (48 + (wr (0 - (Int.tmod m 10)))))] : List UInt8) ++ out))))] (ENDOPS (NEXT (RG (UU 3 [(0, I (wr (Int.tdiv m 10)))] (ENDOPS (OUTN (BK (wr (Int.tdiv m 10), ([byteOf (wr (48 + (wr (0 - (Int.tmod m 10)))))] : List UInt8) ++ out) [0, 3, 4] 0 [] ⟨(quo10 hm).1, by rw [← hv, (quo10 hm).2, ddz_step (u := m.natAbs) (by omega)]; first | (rw [dig_pos hm (by assumption)]; simp) | (rw [dig_neg hm (by assumption)]; simp)⟩ (by have := (quo10 hm).2; dsimp only; omega))))))))
   ·
    have h3 := of_decide_eq_false bh3
    refine SKIP (NEXT (SEQ (RG (UU 3 [(20, .v (.int .u8 (IntKind.wrap .u8 (wr (48 + (Int.tmod m 10))))))] (CS 20 (.int .u8 (IntKind.wrap .u8 (wr (48 + (Int.tmod m 10))))) (.int .u8 (((byteOf (wr (48 + (Int.tmod m 10)))).toNat : Nat) : Int)) (v8 (wr (48 + (Int.tmod m 10)))) (OPC (BUILDS 22 1 #[(0, .tmp 20)] 21 22 (by kernel_rfl) (NL rfl) 5 [.int .u8 (((byteOf (wr (48 + (Int.tmod m 10)))).toNat : Nat) : Int)] (by kernel_rfl) byteL ([byteOf (wr (48 + (Int.tmod m 10)))] : List UInt8) rfl (by simp only [maxLen]; omega) [] [] _ rfl (flatRep rfl) (fun a7 ha8 => (FACT (1 = ([byteOf (wr (48 + (Int.tmod m 10)))] : List UInt8).length) (fun w hw => (SlO.lenE (hw.own 0 rfl)).1) (fun hln9 => (OPC (RUNV (.convert 22 9 (.tmp 21)) 22 9 (by kernel_rfl) (NL rfl) (.string (bs ([byteOf (wr (48 + (Int.tmod m 10)))] : List UInt8))) (runs_bstr (a := a7) (n := 1) (c := 1) (xs := ([byteOf (wr (48 + (Int.tmod m 10)))] : List UInt8)) (e := 5) (by kernel_rfl) (by kernel_rfl) (by kernel_rfl) (by kernel_rfl) hln9.symm (fun w hw => (hw.rdO 0 rfl))) (UU 1 [(23, .v (.string (bs out)))] (OPC (RUNV (.binOp .add 9 (.tmp 22) (.tmp 23) 9) 24 9 (by kernel_rfl) (NL rfl) (.string (bs (([byteOf (wr (48 + (Int.tmod m 10)))] : List UInt8) ++ out))) (runs_scat (a := ([byteOf (wr (48 + (Int.tmod m 10)))] : List UInt8)) (b := out) (by kernel_rfl) (by kernel_rfl) (by first | omega | (simp only [List.length_append, List.length_cons, List.length_nil, List.length_take, List.length_drop] at *; omega))) ?_)))))))))))))))
    refine UU 1 [(4, .v (.string (bs (([byteOf (wr (48 + (Int.tmod m 10)))] : List UInt8) ++ out))))] (ENDOPS (NEXT (RG (UU 3 [(0, I (wr (Int.tdiv m 10)))] (ENDOPS (OUTN (BK (wr (Int.tdiv m 10), ([byteOf (wr (48 + (Int.tmod m 10)))] : List UInt8) ++ out) [0, 3, 4] 0 [] ⟨(quo10 hm).1, by rw [← hv, (quo10 hm).2, ddz_step (u := m.natAbs) (by omega)]; first | (rw [dig_pos hm (by assumption)]; simp) | (rw [dig_neg hm (by assumption)]; simp)⟩ (by have := (quo10 hm).2; dsimp only; omega))))))))
  ·
   have h2 := bneF bh2
   refine EXIT (PASS trivial (PASS trivial (OUT (NEXT (SEQ (SEQ (RG (UU 1 [(27, B (decide (n < 0)))] (NI (decide (n < 0)) (fun bh10 => ?_) (fun bh10 => ?_))))))))))
   ·
    have h10 := of_decide_eq_true bh10
    refine SEQ (RG (UU 1 [(28, .v (.string (bs out)))] (OPC (RUNV (.binOp .add 9 (.const (.string (bs ([45])))) (.tmp 28) 9) 29 9 (by kernel_rfl) (NL rfl) (.string (bs (([45]) ++ out))) (runs_scat (a := [45]) (b := out) (by kernel_rfl) (by kernel_rfl) (by first | omega | (simp only [List.length_append, List.length_cons, List.length_nil, List.length_take, List.length_drop] at *; omega))) (UU 1 [(2, .v (.string (bs (([45]) ++ out))))] (ENDOPS (NEXT (RF rfl (.string (bs (([45]) ++ out))) () [] ?_ ?_))))))))
    · (show Value.string _ = Value.string (bs (Lib.itoa n)); congr 2; first | (subst_vars; exact itoa_zero.symm) | (rw [itoa_of (by assumption), ← hv]; simp_all [ddz]))
    · rfl
   ·
    have h10 := of_decide_eq_false bh10
    refine SKIP (NEXT (SEQ (RG (UU 2 [(2, .v (.string (bs out)))] (ENDOPS (NEXT (RF rfl (.string (bs out)) () [] ?_ ?_)))))))
    · (show Value.string _ = Value.string (bs (Lib.itoa n)); congr 2; first | (subst_vars; exact itoa_zero.symm) | (rw [itoa_of (by assumption), ← hv]; simp_all [ddz]))
    · rfl

theorem sParts_c (W : World) (s : List UInt8) (c : UInt8) (hl : s.length ≤ 1048576) : Spec Tryz.prog W [] 8 #[.string (bs s), .int .u8 (c.toNat : Int)] (⟨HH, fun p => .slice p.1 ((parts s c).length) p.2, fun p => [slA 9 strL (.slice p.1 (parts s c).length p.2) (parts s c)]⟩) := by
 refine ENTER0 (N := 36) (vs := [.string (bs s), .int .u8 (c.toNat : Int)]) Tryz.func8 rfl rfl (NL rfl) ?_
 refine SEQ (RG (UU 1 [] (NR (OPC (BUILDS 43 0 #[] 8 43 (by kernel_rfl) (NL rfl) 9 [] (by kernel_rfl) strL [] rfl (by simp only [maxLen]; omega) [] [] _ rfl (flatRep rfl) (fun a1 ha2 => (UU 1 [(5, .v (.slice a1 0 0))] (NR (UU 1 [(6, I 0)] (ENDOPS (NEXT (SEQ (SEQ (RG (UU 1 [(7, I 0)] (ENDOPS (NEXT (BLOCK (LOOP (ι := Nat × Nat × (Option Addr) × Nat × (List (List UInt8))) (fun j => [(0, .v (.string (bs s))), (1, .v (.int .u8 (c.toNat : Int))), (5, .v (.slice j.2.2.1 j.2.2.2.2.length j.2.2.2.1)), (6, I (j.2.1 : Int)), (7, I (j.1 : Int))]) (fun j => []) (fun j => [slA 9 strL (.slice j.2.2.1 j.2.2.2.2.length j.2.2.2.1) j.2.2.2.2]) (fun j => ((j.1 ≤ s.length ∧ j.2.1 ≤ j.1 ∧ parts s c = j.2.2.2.2 ++ partsGo c ((s.drop j.2.1).take (j.1 - j.2.1)) (s.drop j.1)) ∨ (j.1 = s.length + 1 ∧ parts s c = j.2.2.2.2)) ∧ j.2.2.2.2.length ≤ j.1 ∧ j.1 ≤ s.length + 1) (fun j => s.length + 1 - j.1) (0, 0, a1, 0, []) [0, 1, 5, 6, 7] ⟨.inl ⟨by dsimp only; omega, by dsimp only; omega, by simp [parts]⟩, by simp, by dsimp only; omega⟩ (by kernel_rfl) rfl rfl ?_)))))))))))))))))))
 rintro ⟨i, fr, oa, oc, out⟩ ⟨hv, hol, hil⟩
 try dsimp only at hv hol hil
 refine SEQ (SEQ (RG (UU 4 [(12, B (decide ((i : Int) ≤ (s.length : Int))))] (NI (decide ((i : Int) ≤ (s.length : Int))) (fun bh3 => ?_) (fun bh3 => ?_)))))
 ·
  have h3 := of_decide_eq_true bh3
  obtain ⟨hv2, hv3, hv4⟩ := hv.resolve_right (fun e => by have := e.1; omega)
  refine SKIP (NEXT (SEQ (BLOCK (SEQ (RG (UU 5 [(19, B ((i : Int) == (s.length : Int)))] (SP 19 ((i : Int) == (s.length : Int)) (fun bh4 => ?_) (fun bh4 => ?_))))))))
  ·
   have h4 := eq_of_beq bh4
   refine UU 6 [(25, B true)] (ENDOPS (NEXT (IFT (by kernel_rfl) (SEQ (RG (UU 4 [(26, .v (.slice oa out.length oc)), (27, .v (.string (bs s))), (28, I (fr : Int)), (29, I (i : Int))] (OPC (RUNV (.slice 9 (.tmp 27) (some (.tmp 28)) (some (.tmp 29)) none) 30 9 (by kernel_rfl) (NL rfl) (.string (bs ((s.drop fr).take (i - fr)))) (runs_sub (s := s) (kl := .i64) (kh := .i64) (i := (fr : Int)) (j := (i : Int)) (by kernel_rfl) (by kernel_rfl) (by kernel_rfl) (by kernel_rfl) (by first | omega | (simp only [List.length_append, List.length_cons, List.length_nil, List.length_take, List.length_drop] at *; omega)) (by first | omega | (simp only [List.length_append, List.length_cons, List.length_nil, List.length_take, List.length_drop] at *; omega)) (by first | omega | (simp only [List.length_append, List.length_cons, List.length_nil, List.length_take, List.length_drop] at *; omega))) (OPC (BUILDS 43 1 #[(0, .tmp 30)] 31 43 (by kernel_rfl) (NL rfl) 9 [.string (bs ((s.drop fr).take (i - fr)))] (by kernel_rfl) strL ([(s.drop fr).take (i - fr)] : List (List UInt8)) rfl (by simp only [maxLen]; omega) [] [] _ rfl (flatRep rfl) (fun a5 ha6 => (OPC (APPENDO 43 (.tmp 26) (.tmp 31) 32 43 (by kernel_rfl) (NL rfl) (.slice oa out.length oc) a5 1 1 (by kernel_rfl) (by kernel_rfl) ha6 9 (by kernel_rfl) strL (.string (bs [])) 16 (by kernel_rfl) rfl (by decide) 0 0 out ([(s.drop fr).take (i - fr)] : List (List UInt8)) _ rfl rfl (by first | omega | (simp only [List.length_append, List.length_cons, List.length_nil, List.length_take, List.length_drop] at *; omega)) (by simp only [maxLen]; first | omega | (simp only [List.length_append, List.length_cons, List.length_nil, List.length_take, List.length_drop] at *; omega)) (fun a7 c8 hn9 => ?_))))))))))))))
   refine UU 1 [(5, .v (.slice a7 ((out ++ ([(s.drop fr).take (i - fr)] : List (List UInt8))).length) c8))] (ENDOPS (NEXT (RG (UU 2 [(34, I (wr ((i : Int) + 1)))] (CS 34 (vi (wr ((i : Int) + 1))) (vi ((i + 1 : Nat) : Int)) (vi_cast (by omega) (by omega)) (UU 1 [(6, I ((i + 1 : Nat) : Int))] (ENDOPS (OUTN (NEXT (RG (UU 2 [(14, I (wr ((i : Int) + 1)))] (CS 14 (vi (wr ((i : Int) + 1))) (vi ((i + 1 : Nat) : Int)) (vi_cast (by omega) (by omega)) (UU 1 [(7, I ((i + 1 : Nat) : Int))] (ENDOPS (BK (i + 1, i + 1, a7, c8, out ++ ([(s.drop fr).take (i - fr)] : List (List UInt8))) [0, 1, 5, 6, 7] 0 [0] ⟨by first | exact parts_last _ hv3 hv4 (by omega) | exact parts_hit hv3 hv4 (by assumption) (by assumption) | exact parts_step hv3 hv4 (by assumption) (by assumption), by simp only [List.length_append, List.length_cons, List.length_nil]; omega, by dsimp only; omega⟩ (by dsimp only; omega))))))))))))))))
  ·
   have h4 := ne_of_beq_false bh4
   refine UU 2 [(20, .v (.string (bs s))), (21, I (i : Int))] ?_
   obtain ⟨x10, hx11⟩ : ∃ y, s[i]? = some y := ⟨_, List.getElem?_eq_getElem (by first | omega | (simp only [List.length_append, List.length_cons, List.length_nil, List.length_take, List.length_drop] at *; omega))⟩
   refine OPC (RUNV (.index 9 (.tmp 20) (.tmp 21)) 22 5 (by kernel_rfl) (NL rfl) (.int .u8 (x10.toNat : Int)) (runs_sidx (s := s) (kd := .i64) (z := (i : Int)) (k := i) (by kernel_rfl) (by kernel_rfl) (by kernel_rfl) (by omega) rfl hx11) (UU 3 [(25, B ((x10.toNat : Int) == (c.toNat : Int)))] (NI ((x10.toNat : Int) == (c.toNat : Int)) (fun bh12 => ?_) (fun bh12 => ?_))))
   ·
    have h12 := eq_of_beq bh12
    refine SEQ (RG (UU 4 [(26, .v (.slice oa out.length oc)), (27, .v (.string (bs s))), (28, I (fr : Int)), (29, I (i : Int))] (OPC (RUNV (.slice 9 (.tmp 27) (some (.tmp 28)) (some (.tmp 29)) none) 30 9 (by kernel_rfl) (NL rfl) (.string (bs ((s.drop fr).take (i - fr)))) (runs_sub (s := s) (kl := .i64) (kh := .i64) (i := (fr : Int)) (j := (i : Int)) (by kernel_rfl) (by kernel_rfl) (by kernel_rfl) (by kernel_rfl) (by first | omega | (simp only [List.length_append, List.length_cons, List.length_nil, List.length_take, List.length_drop] at *; omega)) (by first | omega | (simp only [List.length_append, List.length_cons, List.length_nil, List.length_take, List.length_drop] at *; omega)) (by first | omega | (simp only [List.length_append, List.length_cons, List.length_nil, List.length_take, List.length_drop] at *; omega))) (OPC (BUILDS 43 1 #[(0, .tmp 30)] 31 43 (by kernel_rfl) (NL rfl) 9 [.string (bs ((s.drop fr).take (i - fr)))] (by kernel_rfl) strL ([(s.drop fr).take (i - fr)] : List (List UInt8)) rfl (by simp only [maxLen]; omega) [] [] _ rfl (flatRep rfl) (fun a13 ha14 => (OPC (APPENDO 43 (.tmp 26) (.tmp 31) 32 43 (by kernel_rfl) (NL rfl) (.slice oa out.length oc) a13 1 1 (by kernel_rfl) (by kernel_rfl) ha14 9 (by kernel_rfl) strL (.string (bs [])) 16 (by kernel_rfl) rfl (by decide) 0 0 out ([(s.drop fr).take (i - fr)] : List (List UInt8)) _ rfl rfl (by first | omega | (simp only [List.length_append, List.length_cons, List.length_nil, List.length_take, List.length_drop] at *; omega)) (by simp only [maxLen]; first | omega | (simp only [List.length_append, List.length_cons, List.length_nil, List.length_take, List.length_drop] at *; omega)) (fun a15 c16 hn17 => ?_))))))))))
    refine UU 1 [(5, .v (.slice a15 ((out ++ ([(s.drop fr).take (i - fr)] : List (List UInt8))).length) c16))] (ENDOPS (NEXT (RG (UU 2 [(34, I (wr ((i : Int) + 1)))] (CS 34 (vi (wr ((i : Int) + 1))) (vi ((i + 1 : Nat) : Int)) (vi_cast (by omega) (by omega)) (UU 1 [(6, I ((i + 1 : Nat) : Int))] (ENDOPS (OUTN (NEXT (RG (UU 2 [(14, I (wr ((i : Int) + 1)))] (CS 14 (vi (wr ((i : Int) + 1))) (vi ((i + 1 : Nat) : Int)) (vi_cast (by omega) (by omega)) (UU 1 [(7, I ((i + 1 : Nat) : Int))] (ENDOPS (BK (i + 1, i + 1, a15, c16, out ++ ([(s.drop fr).take (i - fr)] : List (List UInt8))) [0, 1, 5, 6, 7] 0 [0] ⟨by first | exact parts_last _ hv3 hv4 (by omega) | exact parts_hit hv3 hv4 (by assumption) (by assumption) | exact parts_step hv3 hv4 (by assumption) (by assumption), by simp only [List.length_append, List.length_cons, List.length_nil]; omega, by dsimp only; omega⟩ (by dsimp only; omega))))))))))))))))
   ·
    have h12 := ne_of_beq_false bh12
    refine SKIP (OUTN (NEXT (RG (UU 2 [(14, I (wr ((i : Int) + 1)))] (CS 14 (vi (wr ((i : Int) + 1))) (vi ((i + 1 : Nat) : Int)) (vi_cast (by omega) (by omega)) (UU 1 [(7, I ((i + 1 : Nat) : Int))] (ENDOPS (BK (i + 1, fr, oa, oc, out) [0, 1, 5, 6, 7] 0 [0] ⟨by first | exact parts_last _ hv3 hv4 (by omega) | exact parts_hit hv3 hv4 (by assumption) (by assumption) | exact parts_step hv3 hv4 (by assumption) (by assumption), by simp only [List.length_append, List.length_cons, List.length_nil]; omega, by dsimp only; omega⟩ (by dsimp only; omega)))))))))
 ·
  have h3 := of_decide_eq_false bh3
  have hv5 := (hv.resolve_left (fun e => by have := e.1; omega)).2
  refine EXIT (PASS trivial (PASS trivial (OUT (NEXT (SEQ (RG (UU 2 [(4, .v (.slice oa out.length oc))] (ENDOPS (NEXT (RET ?_))))))))))
  have e18 : out = parts s c := by exact hv5.symm
  refine FIN (.slice oa out.length oc) (by kernel_rfl) (oa, oc) ?_ [0] ?_
  · exact congrArg (fun z : List (List UInt8) => Value.slice oa z.length oc) e18
  · exact congrArg (fun z : List (List UInt8) => some [slA 9 strL (.slice oa z.length oc) z]) e18

end SX
end Go.Proofs.YtcbpmjfjdjpalaaGreatDoor
