/- Walks, printed by program. -/
import Derived.Test.YtpdijcbgdalphaaDoorV4
namespace Go.Proofs.YtpdijcbgdalphaaDoor
namespace SX
open Go Go.RowKit
set_option linter.unusedVariables false
set_option linter.unusedSimpArgs false
set_option maxRecDepth 10000
theorem sParts_c (W : World) (s : List UInt8) (c : UInt8) (hl : s.length ≤ 1048576) : Spec Tryd.prog W [] 46 #[.string (bs s), .int .u8 (c.toNat : Int)] (⟨HH, fun p => .slice p.1 ((parts s c).length) p.2, fun p => [slA 9 strL (.slice p.1 (parts s c).length p.2) (parts s c)]⟩) := by
  refine ENTER0 (N := 36) (vs := [.string (bs s), .int .u8 (c.toNat : Int)]) Tryd.func46 rfl rfl (Nat.le_of_ble_eq_true rfl) ?_
  refine SEQ (REGION [0] rfl (RUN0 1 [] [(0, .v (.string (bs s))), (1, .v (.int .u8 (c.toNat : Int)))] ?_ rfl ?_))
  · as_aux_lemma => kernel_rfl
  refine ENDOPS (NEXT (SEQ (REGION [0, 1] rfl (OPC (BUILDS 41 0 #[] 8 41 ?_ (Nat.le_of_ble_eq_true rfl) 9 [] ?_ strL [] rfl (by simp only [maxLen]; omega) [] [] _ rfl (flatRep rfl) (fun a1 ha2 => ?_))))))
  · as_aux_lemma => kernel_rfl
  · as_aux_lemma => kernel_rfl
  refine RUN0 1 [] [(0, .v (.string (bs s))), (1, .v (.int .u8 (c.toNat : Int))), (5, .v (.slice a1 0 0))] ?_ rfl ?_
  · as_aux_lemma => kernel_rfl
  refine ENDOPS (NEXT (SEQ (REGION [0] rfl (RUN0 1 [] [(0, .v (.string (bs s))), (1, .v (.int .u8 (c.toNat : Int))), (5, .v (.slice a1 0 0)), (6, I 0)] ?_ rfl ?_))))
  · as_aux_lemma => kernel_rfl
  refine ENDOPS (NEXT (SEQ (SEQ (REGION [0] rfl (RUN0 1 [] [(0, .v (.string (bs s))), (1, .v (.int .u8 (c.toNat : Int))), (5, .v (.slice a1 0 0)), (6, I 0), (7, I 0)] ?_ rfl ?_)))))
  · as_aux_lemma => kernel_rfl
  refine ENDOPS (NEXT (BLOCK (LOOP (ι := Nat × Nat × (Option Addr) × Nat × (List (List UInt8))) (fun j => [(0, .v (.string (bs s))), (1, .v (.int .u8 (c.toNat : Int))), (5, .v (.slice j.2.2.1 j.2.2.2.2.length j.2.2.2.1)), (6, I (j.2.1 : Int)), (7, I (j.1 : Int))]) (fun j => []) (fun j => [slA 9 strL (.slice j.2.2.1 j.2.2.2.2.length j.2.2.2.1) j.2.2.2.2]) (fun j => ((j.1 ≤ s.length ∧ j.2.1 ≤ j.1 ∧ parts s c = j.2.2.2.2 ++ partsGo c ((s.drop j.2.1).take (j.1 - j.2.1)) (s.drop j.1)) ∨ (j.1 = s.length + 1 ∧ parts s c = j.2.2.2.2)) ∧ j.2.2.2.2.length ≤ j.1 ∧ j.1 ≤ s.length + 1) (fun j => s.length + 1 - j.1) (0, 0, a1, 0, []) [0, 1, 5, 6, 7] ⟨.inl ⟨by dsimp only; omega, by dsimp only; omega, by simp [parts]⟩, by simp, by dsimp only; omega⟩ ?_ rfl rfl ?_)))
  · as_aux_lemma => kernel_rfl
  rintro ⟨i, fr, oa, oc, out⟩ ⟨hv, hol, hil⟩
  dsimp only at hv hol hil
  refine SEQ (SEQ (REGION [0, 1, 2, 3] rfl (RUN0 4 [] [(0, .v (.string (bs s))), (1, .v (.int .u8 (c.toNat : Int))), (5, .v (.slice oa out.length oc)), (6, I (fr : Int)), (7, I (i : Int)), (12, B (decide ((i : Int) ≤ (s.length : Int))))] ?_ rfl ?_)))
  · as_aux_lemma => kernel_rfl
  refine ENDOPS (NEXT (IF (decide ((i : Int) ≤ (s.length : Int))) ?_ (fun bh3 => ?_) (fun bh3 => ?_)))
  · as_aux_lemma => kernel_rfl
  · -- decide ((i : Int) ≤ (s.length : Int)) = true
    have h3 := bh3
    have h3 := of_decide_eq_true h3
    obtain ⟨hv2, hv3, hv4⟩ := hv.resolve_right (fun e => by have := e.1; omega)
    refine SKIP (NEXT (SEQ (BLOCK (SEQ (REGION [0, 1, 2, 3, 4, 5, 6, 7, 8, 9, 10] rfl (RUN0 5 [5, 6, 7, 8, 9, 10] [(0, .v (.string (bs s))), (1, .v (.int .u8 (c.toNat : Int))), (5, .v (.slice oa out.length oc)), (6, I (fr : Int)), (7, I (i : Int)), (19, B ((i : Int) == (s.length : Int)))] ?_ rfl ?_))))))
    · as_aux_lemma => kernel_rfl
    refine SPLIT (d := 19) ((i : Int) == (s.length : Int)) ?_ (fun bh4 => ?_) (fun bh4 => ?_)
    · as_aux_lemma => kernel_rfl
    · -- (i : Int) == (s.length : Int) = true
      have h4 := bh4
      have h4 := eq_of_beq h4
      refine RUN0 6 [] [(0, .v (.string (bs s))), (1, .v (.int .u8 (c.toNat : Int))), (5, .v (.slice oa out.length oc)), (6, I (fr : Int)), (7, I (i : Int)), (25, B true)] ?_ rfl ?_
      · as_aux_lemma => kernel_rfl
      refine ENDOPS (NEXT (IFT ?_ ?_))
      · as_aux_lemma => kernel_rfl
      refine SEQ (REGION [0, 1, 2, 3, 4, 5, 6, 7] rfl (RUN0 4 [4, 5, 6, 7] [(0, .v (.string (bs s))), (1, .v (.int .u8 (c.toNat : Int))), (7, I (i : Int)), (26, .v (.slice oa out.length oc)), (27, .v (.string (bs s))), (28, I (fr : Int)), (29, I (i : Int))] ?_ rfl ?_))
      · as_aux_lemma => kernel_rfl
      refine OPC (RUNV (.slice 9 (.tmp 27) (some (.tmp 28)) (some (.tmp 29)) none) 30 9 ?_ (Nat.le_of_ble_eq_true rfl) (.string (bs ((s.drop fr).take (i - fr)))) (runs_sub (s := s) (kl := .i64) (kh := .i64) (i := (fr : Int)) (j := (i : Int)) ?_ ?_ ?_ ?_ (by first | omega | (simp only [List.length_append, List.length_cons, List.length_nil, List.length_take, List.length_drop] at *; omega)) (by first | omega | (simp only [List.length_append, List.length_cons, List.length_nil, List.length_take, List.length_drop] at *; omega)) (by first | omega | (simp only [List.length_append, List.length_cons, List.length_nil, List.length_take, List.length_drop] at *; omega))) ?_)
      · as_aux_lemma => kernel_rfl
      · as_aux_lemma => kernel_rfl
      · as_aux_lemma => kernel_rfl
      · as_aux_lemma => kernel_rfl
      · as_aux_lemma => kernel_rfl
      refine OPC (BUILDS 41 1 #[(0, .tmp 30)] 31 41 ?_ (Nat.le_of_ble_eq_true rfl) 9 [.string (bs ((s.drop fr).take (i - fr)))] ?_ strL ([(s.drop fr).take (i - fr)] : List (List UInt8)) rfl (by simp only [maxLen]; omega) [] [] _ rfl (flatRep rfl) (fun a5 ha6 => ?_))
      · as_aux_lemma => kernel_rfl
      · as_aux_lemma => kernel_rfl
      refine OPC (APPENDO 41 (.tmp 26) (.tmp 31) 32 41 ?_ (Nat.le_of_ble_eq_true rfl) (.slice oa out.length oc) a5 1 1 ?_ ?_ ha6 9 ?_ strL (.string (bs [])) 16 ?_ rfl (by decide) 0 0 out ([(s.drop fr).take (i - fr)] : List (List UInt8)) _ rfl rfl (by first | omega | (simp only [List.length_append, List.length_cons, List.length_nil, List.length_take, List.length_drop] at *; omega)) (by simp only [maxLen]; first | omega | (simp only [List.length_append, List.length_cons, List.length_nil, List.length_take, List.length_drop] at *; omega)) (fun a7 c8 hn9 => ?_))
      · as_aux_lemma => kernel_rfl
      · as_aux_lemma => kernel_rfl
      · as_aux_lemma => kernel_rfl
      · as_aux_lemma => kernel_rfl
      · as_aux_lemma => kernel_rfl
      refine RUN0 1 [] [(0, .v (.string (bs s))), (1, .v (.int .u8 (c.toNat : Int))), (5, .v (.slice a7 ((out ++ ([(s.drop fr).take (i - fr)] : List (List UInt8))).length) c8)), (7, I (i : Int))] ?_ rfl ?_
      · as_aux_lemma => kernel_rfl
      refine ENDOPS (NEXT (REGION [0, 1, 2] rfl (RUN0 2 [2] [(0, .v (.string (bs s))), (1, .v (.int .u8 (c.toNat : Int))), (5, .v (.slice a7 ((out ++ ([(s.drop fr).take (i - fr)] : List (List UInt8))).length) c8)), (7, I (i : Int)), (34, I (wr ((i : Int) + 1)))] ?_ rfl ?_)))
      · as_aux_lemma => kernel_rfl
      refine CAST (d := 34) (vi (wr ((i : Int) + 1))) (vi ((i + 1 : Nat) : Int)) ?_ (vi_cast (by omega) (by omega)) ?_
      · as_aux_lemma => kernel_rfl
      refine RUN0 1 [] [(0, .v (.string (bs s))), (1, .v (.int .u8 (c.toNat : Int))), (5, .v (.slice a7 ((out ++ ([(s.drop fr).take (i - fr)] : List (List UInt8))).length) c8)), (6, I ((i + 1 : Nat) : Int)), (7, I (i : Int))] ?_ rfl ?_
      · as_aux_lemma => kernel_rfl
      refine ENDOPS (OUTN (NEXT (REGION [0, 1, 2] rfl (RUN0 2 [2] [(0, .v (.string (bs s))), (1, .v (.int .u8 (c.toNat : Int))), (5, .v (.slice a7 ((out ++ ([(s.drop fr).take (i - fr)] : List (List UInt8))).length) c8)), (6, I ((i + 1 : Nat) : Int)), (14, I (wr ((i : Int) + 1)))] ?_ rfl ?_))))
      · as_aux_lemma => kernel_rfl
      refine CAST (d := 14) (vi (wr ((i : Int) + 1))) (vi ((i + 1 : Nat) : Int)) ?_ (vi_cast (by omega) (by omega)) ?_
      · as_aux_lemma => kernel_rfl
      refine RUN0 1 [] [(0, .v (.string (bs s))), (1, .v (.int .u8 (c.toNat : Int))), (5, .v (.slice a7 ((out ++ ([(s.drop fr).take (i - fr)] : List (List UInt8))).length) c8)), (6, I ((i + 1 : Nat) : Int)), (7, I ((i + 1 : Nat) : Int))] ?_ rfl ?_
      · as_aux_lemma => kernel_rfl
      refine ENDOPS (BACK (i + 1, i + 1, a7, c8, out ++ ([(s.drop fr).take (i - fr)] : List (List UInt8))) [0, 1, 5, 6, 7] 0 [0] _ ⟨by first | exact parts_last _ hv3 hv4 (by omega) | exact parts_hit hv3 hv4 (by assumption) (by assumption) | exact parts_step hv3 hv4 (by assumption) (by assumption), by simp only [List.length_append, List.length_cons, List.length_nil]; omega, by dsimp only; omega⟩ (by dsimp only; omega) ?_ rfl rfl rfl)
      · as_aux_lemma => kernel_rfl
    · -- (i : Int) == (s.length : Int) = false
      have h4 := bh4
      have h4 := ne_of_beq_false h4
      refine RUN0 2 [7, 8, 9, 10] [(0, .v (.string (bs s))), (1, .v (.int .u8 (c.toNat : Int))), (5, .v (.slice oa out.length oc)), (6, I (fr : Int)), (7, I (i : Int)), (19, B false), (20, .v (.string (bs s))), (21, I (i : Int))] ?_ rfl ?_
      · as_aux_lemma => kernel_rfl
      obtain ⟨x10, hx11⟩ : ∃ y, s[i]? = some y := ⟨_, List.getElem?_eq_getElem (by first | omega | (simp only [List.length_append, List.length_cons, List.length_nil, List.length_take, List.length_drop] at *; omega))⟩
      refine OPC (RUNV (.index 9 (.tmp 20) (.tmp 21)) 22 5 ?_ (Nat.le_of_ble_eq_true rfl) (.int .u8 (x10.toNat : Int)) (runs_sidx (s := s) (kd := .i64) (z := (i : Int)) (k := i) ?_ ?_ ?_ (by omega) rfl hx11) ?_)
      · as_aux_lemma => kernel_rfl
      · as_aux_lemma => kernel_rfl
      · as_aux_lemma => kernel_rfl
      · as_aux_lemma => kernel_rfl
      refine RUN0 3 [] [(0, .v (.string (bs s))), (1, .v (.int .u8 (c.toNat : Int))), (5, .v (.slice oa out.length oc)), (6, I (fr : Int)), (7, I (i : Int)), (25, B ((x10.toNat : Int) == (c.toNat : Int)))] ?_ rfl ?_
      · as_aux_lemma => kernel_rfl
      refine ENDOPS (NEXT (IF ((x10.toNat : Int) == (c.toNat : Int)) ?_ (fun bh12 => ?_) (fun bh12 => ?_)))
      · as_aux_lemma => kernel_rfl
      · -- (x10.toNat : Int) == (c.toNat : Int) = true
        have h12 := bh12
        have h12 := eq_of_beq h12
        refine SEQ (REGION [0, 1, 2, 3, 4, 5, 6, 7] rfl (RUN0 4 [4, 5, 6, 7] [(0, .v (.string (bs s))), (1, .v (.int .u8 (c.toNat : Int))), (7, I (i : Int)), (26, .v (.slice oa out.length oc)), (27, .v (.string (bs s))), (28, I (fr : Int)), (29, I (i : Int))] ?_ rfl ?_))
        · as_aux_lemma => kernel_rfl
        refine OPC (RUNV (.slice 9 (.tmp 27) (some (.tmp 28)) (some (.tmp 29)) none) 30 9 ?_ (Nat.le_of_ble_eq_true rfl) (.string (bs ((s.drop fr).take (i - fr)))) (runs_sub (s := s) (kl := .i64) (kh := .i64) (i := (fr : Int)) (j := (i : Int)) ?_ ?_ ?_ ?_ (by first | omega | (simp only [List.length_append, List.length_cons, List.length_nil, List.length_take, List.length_drop] at *; omega)) (by first | omega | (simp only [List.length_append, List.length_cons, List.length_nil, List.length_take, List.length_drop] at *; omega)) (by first | omega | (simp only [List.length_append, List.length_cons, List.length_nil, List.length_take, List.length_drop] at *; omega))) ?_)
        · as_aux_lemma => kernel_rfl
        · as_aux_lemma => kernel_rfl
        · as_aux_lemma => kernel_rfl
        · as_aux_lemma => kernel_rfl
        · as_aux_lemma => kernel_rfl
        refine OPC (BUILDS 41 1 #[(0, .tmp 30)] 31 41 ?_ (Nat.le_of_ble_eq_true rfl) 9 [.string (bs ((s.drop fr).take (i - fr)))] ?_ strL ([(s.drop fr).take (i - fr)] : List (List UInt8)) rfl (by simp only [maxLen]; omega) [] [] _ rfl (flatRep rfl) (fun a13 ha14 => ?_))
        · as_aux_lemma => kernel_rfl
        · as_aux_lemma => kernel_rfl
        refine OPC (APPENDO 41 (.tmp 26) (.tmp 31) 32 41 ?_ (Nat.le_of_ble_eq_true rfl) (.slice oa out.length oc) a13 1 1 ?_ ?_ ha14 9 ?_ strL (.string (bs [])) 16 ?_ rfl (by decide) 0 0 out ([(s.drop fr).take (i - fr)] : List (List UInt8)) _ rfl rfl (by first | omega | (simp only [List.length_append, List.length_cons, List.length_nil, List.length_take, List.length_drop] at *; omega)) (by simp only [maxLen]; first | omega | (simp only [List.length_append, List.length_cons, List.length_nil, List.length_take, List.length_drop] at *; omega)) (fun a15 c16 hn17 => ?_))
        · as_aux_lemma => kernel_rfl
        · as_aux_lemma => kernel_rfl
        · as_aux_lemma => kernel_rfl
        · as_aux_lemma => kernel_rfl
        · as_aux_lemma => kernel_rfl
        refine RUN0 1 [] [(0, .v (.string (bs s))), (1, .v (.int .u8 (c.toNat : Int))), (5, .v (.slice a15 ((out ++ ([(s.drop fr).take (i - fr)] : List (List UInt8))).length) c16)), (7, I (i : Int))] ?_ rfl ?_
        · as_aux_lemma => kernel_rfl
        refine ENDOPS (NEXT (REGION [0, 1, 2] rfl (RUN0 2 [2] [(0, .v (.string (bs s))), (1, .v (.int .u8 (c.toNat : Int))), (5, .v (.slice a15 ((out ++ ([(s.drop fr).take (i - fr)] : List (List UInt8))).length) c16)), (7, I (i : Int)), (34, I (wr ((i : Int) + 1)))] ?_ rfl ?_)))
        · as_aux_lemma => kernel_rfl
        refine CAST (d := 34) (vi (wr ((i : Int) + 1))) (vi ((i + 1 : Nat) : Int)) ?_ (vi_cast (by omega) (by omega)) ?_
        · as_aux_lemma => kernel_rfl
        refine RUN0 1 [] [(0, .v (.string (bs s))), (1, .v (.int .u8 (c.toNat : Int))), (5, .v (.slice a15 ((out ++ ([(s.drop fr).take (i - fr)] : List (List UInt8))).length) c16)), (6, I ((i + 1 : Nat) : Int)), (7, I (i : Int))] ?_ rfl ?_
        · as_aux_lemma => kernel_rfl
        refine ENDOPS (OUTN (NEXT (REGION [0, 1, 2] rfl (RUN0 2 [2] [(0, .v (.string (bs s))), (1, .v (.int .u8 (c.toNat : Int))), (5, .v (.slice a15 ((out ++ ([(s.drop fr).take (i - fr)] : List (List UInt8))).length) c16)), (6, I ((i + 1 : Nat) : Int)), (14, I (wr ((i : Int) + 1)))] ?_ rfl ?_))))
        · as_aux_lemma => kernel_rfl
        refine CAST (d := 14) (vi (wr ((i : Int) + 1))) (vi ((i + 1 : Nat) : Int)) ?_ (vi_cast (by omega) (by omega)) ?_
        · as_aux_lemma => kernel_rfl
        refine RUN0 1 [] [(0, .v (.string (bs s))), (1, .v (.int .u8 (c.toNat : Int))), (5, .v (.slice a15 ((out ++ ([(s.drop fr).take (i - fr)] : List (List UInt8))).length) c16)), (6, I ((i + 1 : Nat) : Int)), (7, I ((i + 1 : Nat) : Int))] ?_ rfl ?_
        · as_aux_lemma => kernel_rfl
        refine ENDOPS (BACK (i + 1, i + 1, a15, c16, out ++ ([(s.drop fr).take (i - fr)] : List (List UInt8))) [0, 1, 5, 6, 7] 0 [0] _ ⟨by first | exact parts_last _ hv3 hv4 (by omega) | exact parts_hit hv3 hv4 (by assumption) (by assumption) | exact parts_step hv3 hv4 (by assumption) (by assumption), by simp only [List.length_append, List.length_cons, List.length_nil]; omega, by dsimp only; omega⟩ (by dsimp only; omega) ?_ rfl rfl rfl)
        · as_aux_lemma => kernel_rfl
      · -- (x10.toNat : Int) == (c.toNat : Int) = false
        have h12 := bh12
        have h12 := ne_of_beq_false h12
        refine SKIP (OUTN (NEXT (REGION [0, 1, 2] rfl (RUN0 2 [2] [(0, .v (.string (bs s))), (1, .v (.int .u8 (c.toNat : Int))), (5, .v (.slice oa out.length oc)), (6, I (fr : Int)), (14, I (wr ((i : Int) + 1)))] ?_ rfl ?_))))
        · as_aux_lemma => kernel_rfl
        refine CAST (d := 14) (vi (wr ((i : Int) + 1))) (vi ((i + 1 : Nat) : Int)) ?_ (vi_cast (by omega) (by omega)) ?_
        · as_aux_lemma => kernel_rfl
        refine RUN0 1 [] [(0, .v (.string (bs s))), (1, .v (.int .u8 (c.toNat : Int))), (5, .v (.slice oa out.length oc)), (6, I (fr : Int)), (7, I ((i + 1 : Nat) : Int))] ?_ rfl ?_
        · as_aux_lemma => kernel_rfl
        refine ENDOPS (BACK (i + 1, fr, oa, oc, out) [0, 1, 5, 6, 7] 0 [0] _ ⟨by first | exact parts_last _ hv3 hv4 (by omega) | exact parts_hit hv3 hv4 (by assumption) (by assumption) | exact parts_step hv3 hv4 (by assumption) (by assumption), by simp only [List.length_append, List.length_cons, List.length_nil]; omega, by dsimp only; omega⟩ (by dsimp only; omega) ?_ rfl rfl rfl)
        · as_aux_lemma => kernel_rfl
  · -- decide ((i : Int) ≤ (s.length : Int)) = false
    have h3 := bh3
    have h3 := of_decide_eq_false h3
    have hv5 := (hv.resolve_left (fun e => by have := e.1; omega)).2
    refine EXIT (PASS trivial (PASS trivial (OUT (NEXT (SEQ (REGION [0, 1] rfl (RUN0 2 [] [(4, .v (.slice oa out.length oc))] ?_ rfl ?_)))))))
    · as_aux_lemma => kernel_rfl
    refine ENDOPS (NEXT (RET ?_))
    have e18 : out = parts s c := by exact hv5.symm
    refine FIN (.slice oa out.length oc) ?_ (oa, oc) ?_ [0] ?_
    · as_aux_lemma => kernel_rfl
    · exact congrArg (fun z : List (List UInt8) => Value.slice oa z.length oc) e18
    · exact congrArg (fun z : List (List UInt8) => some [slA 9 strL (.slice oa z.length oc) z]) e18

theorem l29Nums_c (W : World) (words : List (List UInt8)) (words_a : Option Addr) (words_c : Nat) (hwords : Rd strL W words_a words) (hb : words.length ≤ 1048577) : Spec Tryd.prog W [] 47 #[.slice words_a words.length words_c] (⟨HH, fun p => .tuple #[.slice p.1 (((readArgs words).getD []).length) p.2, .bool ((readArgs words).isSome)], fun p => [slA 3 intL (.slice p.1 ((readArgs words).getD []).length p.2) ((readArgs words).getD [])]⟩) := by
  refine ENTER0 (N := 36) (vs := [.slice words_a words.length words_c]) Tryd.func47 rfl rfl (Nat.le_of_ble_eq_true rfl) ?_
  have hwords_len := hwords.len
  refine SEQ (REGION [0, 1] rfl (RUN0 2 [] [(0, .v (.slice words_a words.length words_c))] ?_ rfl ?_))
  · as_aux_lemma => kernel_rfl
  refine ENDOPS (NEXT (SEQ (REGION [0, 1] rfl (OPC (BUILDS 22 0 #[] 8 22 ?_ (Nat.le_of_ble_eq_true rfl) 3 [] ?_ intL [] rfl (by simp only [maxLen]; omega) [] [] _ rfl (flatRep rfl) (fun a1 ha2 => ?_))))))
  · as_aux_lemma => kernel_rfl
  · as_aux_lemma => kernel_rfl
  refine RUN0 1 [] [(0, .v (.slice words_a words.length words_c)), (4, .v (.slice a1 0 0))] ?_ rfl ?_
  · as_aux_lemma => kernel_rfl
  refine ENDOPS (NEXT (SEQ (SEQ (REGION [0] rfl (RUN0 1 [] [(0, .v (.slice words_a words.length words_c)), (4, .v (.slice a1 0 0)), (5, I 0)] ?_ rfl ?_)))))
  · as_aux_lemma => kernel_rfl
  refine ENDOPS (NEXT (BLOCK (LOOP (ι := Nat × (List (List UInt8)) × (Option Addr) × Nat × (List Int)) (fun j => [(0, .v (.slice words_a words.length words_c)), (4, .v (.slice j.2.2.1 j.2.2.2.2.length j.2.2.2.1)), (5, I (j.1 : Int))]) (fun j => []) (fun j => [slA 3 intL (.slice j.2.2.1 j.2.2.2.2.length j.2.2.2.1) j.2.2.2.2]) (fun j => j.1 + j.2.1.length = words.length ∧ words.drop j.1 = j.2.1 ∧ readArgs words = (readArgs j.2.1).map (j.2.2.2.2 ++ ·) ∧ j.2.2.2.2.length = j.1) (fun j => j.2.1.length) (0, words, a1, 0, []) [0, 4, 5] ⟨by simp, rfl, by simp, rfl⟩ ?_ rfl rfl ?_)))
  · as_aux_lemma => kernel_rfl
  rintro ⟨k, ys, oa, oc, out⟩ ⟨hk, hd, hv0, hv1⟩
  dsimp only at hk hd hv0 hv1
  refine SEQ (SEQ (REGION [0, 1, 2, 3] rfl (RUN0 4 [] [(0, .v (.slice words_a words.length words_c)), (4, .v (.slice oa out.length oc)), (5, I (k : Int)), (12, B (decide ((k : Int) < (words.length : Int))))] ?_ rfl ?_)))
  · as_aux_lemma => kernel_rfl
  refine ENDOPS (NEXT (IF (decide ((k : Int) < (words.length : Int))) ?_ (fun bh3 => ?_) (fun bh3 => ?_)))
  · as_aux_lemma => kernel_rfl
  · -- decide ((k : Int) < (words.length : Int)) = true
    have h3 := bh3
    have h3 := of_decide_eq_true h3
    obtain ⟨y4, ys5, rfl, hx_y4, hd_y4, hl_y4⟩ := drop_cons hd hk (by omega)
    refine SKIP (NEXT (SEQ (BLOCK (SEQ (REGION [0, 1, 2, 3, 4, 5, 6, 7, 8, 9] rfl (RUN0 2 [2, 3, 4, 5, 6, 7, 8, 9] [(0, .v (.slice words_a words.length words_c)), (4, .v (.slice oa out.length oc)), (5, I (k : Int)), (16, .v (.slice words_a words.length words_c)), (17, I (k : Int))] ?_ rfl ?_))))))
    · as_aux_lemma => kernel_rfl
    refine OPC (INDEX 41 (.tmp 16) (.tmp 17) 18 0 ?_ (Nat.le_of_ble_eq_true rfl) words_a words.length words_c .i64 (k : Int) 9 1 ?_ ?_ ?_ ?_ (Rd.some hwords (by omega)) (by omega) (by omega) ?_)
    · as_aux_lemma => kernel_rfl
    · as_aux_lemma => kernel_rfl
    · as_aux_lemma => kernel_rfl
    · as_aux_lemma => kernel_rfl
    · as_aux_lemma => kernel_rfl
    refine OPC (LOADE 9 (.tmp 18) 19 9 ?_ (Nat.le_of_ble_eq_true rfl) words_a (k * 1) 0 [.string (bs y4)] (.string (bs y4)) ?_ (fun w hw => (hwords.fr hw.fr).flat hx_y4) ?_ ?_)
    · as_aux_lemma => kernel_rfl
    · as_aux_lemma => kernel_rfl
    · as_aux_lemma => kernel_rfl
    refine OPC (CALL 58 #[.string (bs y4)] (some 20) ?_ [] [] _ rfl (RV (.tuple #[vi (((number y4).getD 0 : Nat) : Int), .bool ((number y4).isSome)])) (fun w hw => sNumber_c w y4) (by rintro _ ⟨⟩; exact Nat.le_of_ble_eq_true rfl) ?_)
    · as_aux_lemma => kernel_rfl
    rintro ⟨⟩
    refine RUN0 5 [] [(0, .v (.slice words_a words.length words_c)), (4, .v (.slice oa out.length oc)), (5, I (k : Int)), (6, I (((number y4).getD 0 : Nat) : Int)), (7, B ((number y4).isSome))] ?_ rfl ?_
    · as_aux_lemma => kernel_rfl
    refine ENDOPS (NEXT (SEQ (SEQ (REGION [0, 1, 2, 3, 4] rfl (RUN0 2 [2, 3, 4] [(0, .v (.slice words_a words.length words_c)), (4, .v (.slice oa out.length oc)), (5, I (k : Int)), (6, I (((number y4).getD 0 : Nat) : Int)), (7, B ((number y4).isSome)), (23, .v (.slice words_a words.length words_c)), (24, I (k : Int))] ?_ rfl ?_)))))
    · as_aux_lemma => kernel_rfl
    refine OPC (INDEX 41 (.tmp 23) (.tmp 24) 25 0 ?_ (Nat.le_of_ble_eq_true rfl) words_a words.length words_c .i64 (k : Int) 9 1 ?_ ?_ ?_ ?_ (Rd.some hwords (by omega)) (by omega) (by omega) ?_)
    · as_aux_lemma => kernel_rfl
    · as_aux_lemma => kernel_rfl
    · as_aux_lemma => kernel_rfl
    · as_aux_lemma => kernel_rfl
    · as_aux_lemma => kernel_rfl
    refine OPC (LOADE 9 (.tmp 25) 26 9 ?_ (Nat.le_of_ble_eq_true rfl) words_a (k * 1) 0 [.string (bs y4)] (.string (bs y4)) ?_ (fun w hw => (hwords.fr hw.fr).flat hx_y4) ?_ ?_)
    · as_aux_lemma => kernel_rfl
    · as_aux_lemma => kernel_rfl
    · as_aux_lemma => kernel_rfl
    refine OPC (RUNV (.binOp .eql 9 (.tmp 26) (.const (.string (bs ([45])))) 9) 27 4 ?_ (Nat.le_of_ble_eq_true rfl) (.bool (y4 == ([45]))) (runs_seql (a := y4) (b := [45]) ?_ ?_) ?_)
    · as_aux_lemma => kernel_rfl
    · as_aux_lemma => kernel_rfl
    · as_aux_lemma => kernel_rfl
    refine ENDOPS (NEXT (IF (y4 == ([45])) ?_ (fun bh6 => ?_) (fun bh6 => ?_)))
    · as_aux_lemma => kernel_rfl
    · -- y4 == ([45]) = true
      have h6 := bh6
      have h6 := eq_of_beq h6
      refine SEQ (REGION [0] rfl (RUN0 1 [] [(0, .v (.slice words_a words.length words_c)), (4, .v (.slice oa out.length oc)), (5, I (k : Int)), (6, I (-1))] ?_ rfl ?_))
      · as_aux_lemma => kernel_rfl
      refine ENDOPS (NEXT (REGION [0] rfl (RUN0 1 [] [(0, .v (.slice words_a words.length words_c)), (4, .v (.slice oa out.length oc)), (5, I (k : Int)), (6, I (-1)), (7, B true)] ?_ rfl ?_)))
      · as_aux_lemma => kernel_rfl
      refine ENDOPS (NEXT (SEQ (SEQ (REGION [0, 1] rfl (RUN0 2 [] [(0, .v (.slice words_a words.length words_c)), (4, .v (.slice oa out.length oc)), (5, I (k : Int)), (6, I (-1)), (29, B false)] ?_ rfl ?_)))))
      · as_aux_lemma => kernel_rfl
      refine ENDOPS (NEXT (IFF ?_ ?_))
      · as_aux_lemma => kernel_rfl
      refine SKIP (NEXT (REGION [0, 1, 2, 3, 4] rfl (RUN0 2 [2, 3, 4] [(0, .v (.slice words_a words.length words_c)), (5, I (k : Int)), (31, .v (.slice oa out.length oc)), (32, I (-1))] ?_ rfl ?_)))
      · as_aux_lemma => kernel_rfl
      refine OPC (BUILDS 22 1 #[(0, .tmp 32)] 33 22 ?_ (Nat.le_of_ble_eq_true rfl) 3 [vi (-1)] ?_ intL [-1] rfl (by simp only [maxLen]; omega) [] [] _ rfl (flatRep rfl) (fun a7 ha8 => ?_))
      · as_aux_lemma => kernel_rfl
      · as_aux_lemma => kernel_rfl
      refine OPC (APPENDO 22 (.tmp 31) (.tmp 33) 34 22 ?_ (Nat.le_of_ble_eq_true rfl) (.slice oa out.length oc) a7 1 1 ?_ ?_ ha8 3 ?_ intL (vi 0) 8 ?_ rfl (by decide) 0 0 out ([-1]) _ rfl rfl (by first | omega | (simp only [List.length_append, List.length_cons, List.length_nil, List.length_take, List.length_drop] at *; omega)) (by simp only [maxLen]; first | omega | (simp only [List.length_append, List.length_cons, List.length_nil, List.length_take, List.length_drop] at *; omega)) (fun a9 c10 hn11 => ?_))
      · as_aux_lemma => kernel_rfl
      · as_aux_lemma => kernel_rfl
      · as_aux_lemma => kernel_rfl
      · as_aux_lemma => kernel_rfl
      · as_aux_lemma => kernel_rfl
      refine RUN0 1 [] [(0, .v (.slice words_a words.length words_c)), (4, .v (.slice a9 ((out ++ ([-1])).length) c10)), (5, I (k : Int))] ?_ rfl ?_
      · as_aux_lemma => kernel_rfl
      refine ENDOPS (OUTN (NEXT (REGION [0, 1, 2] rfl (RUN0 2 [2] [(0, .v (.slice words_a words.length words_c)), (4, .v (.slice a9 ((out ++ ([-1])).length) c10)), (14, I (wr ((k : Int) + 1)))] ?_ rfl ?_))))
      · as_aux_lemma => kernel_rfl
      refine CAST (d := 14) (vi (wr ((k : Int) + 1))) (vi ((k + 1 : Nat) : Int)) ?_ (vi_cast (by omega) (by omega)) ?_
      · as_aux_lemma => kernel_rfl
      refine RUN0 1 [] [(0, .v (.slice words_a words.length words_c)), (4, .v (.slice a9 ((out ++ ([-1])).length) c10)), (5, I ((k + 1 : Nat) : Int))] ?_ rfl ?_
      · as_aux_lemma => kernel_rfl
      refine ENDOPS (BACK (k + 1, ys5, a9, c10, out ++ ([-1])) [0, 4, 5] 0 [0] _ ⟨hl_y4, hd_y4, hv0.trans (by first | (rw [readArgs_num (by assumption) (by assumption)]; simp [Option.map_map, Function.comp_def]; done) | (rw [show y4 = [45] by assumption, readArgs_dash]; simp [Option.map_map, Function.comp_def])), (by simp only [List.length_append, List.length_cons, List.length_nil]; omega)⟩ (by simp) ?_ rfl rfl rfl)
      · as_aux_lemma => kernel_rfl
    · -- y4 == ([45]) = false
      have h6 := bh6
      have h6 := ne_of_beq_false h6
      refine SKIP (NEXT (SEQ (SEQ (REGION [0, 1] rfl (RUN0 2 [] [(0, .v (.slice words_a words.length words_c)), (4, .v (.slice oa out.length oc)), (5, I (k : Int)), (6, I (((number y4).getD 0 : Nat) : Int)), (29, B (!((number y4).isSome)))] ?_ rfl ?_)))))
      · as_aux_lemma => kernel_rfl
      refine ENDOPS (NEXT (IF (!((number y4).isSome)) ?_ (fun bh12 => ?_) (fun bh12 => ?_)))
      · as_aux_lemma => kernel_rfl
      · -- !((number y4).isSome) = true
        have h12 := bh12
        have h12 := notT h12
        refine SEQ (REGION [0, 1, 2] rfl (OPC (BUILDS 22 0 #[] 30 22 ?_ (Nat.le_of_ble_eq_true rfl) 3 [] ?_ intL [] rfl (by simp only [maxLen]; omega) [] [] _ rfl (flatRep rfl) (fun a13 ha14 => ?_))))
        · as_aux_lemma => kernel_rfl
        · as_aux_lemma => kernel_rfl
        refine RUN0 2 [] [(2, .v (.slice a13 0 0)), (3, B false)] ?_ rfl ?_
        · as_aux_lemma => kernel_rfl
        refine ENDOPS (NEXT (RET (PASS trivial (OUTR (PASS trivial (PASS trivial (OUTR (PASS trivial ?_))))))))
        have efin : readArgs words = none := by exact hv0.trans (by rw [readArgs_bad (by assumption) (by assumption)]; rfl)
        refine FIN (.tuple #[.slice a13 0 0, .bool false]) ?_ (a13, 0) ?_ [1] ?_
        · as_aux_lemma => kernel_rfl
        · rw [efin]; rfl
        · rw [efin]; rfl
      · -- !((number y4).isSome) = false
        have h12 := bh12
        have h12 := notF h12
        refine SKIP (NEXT (REGION [0, 1, 2, 3, 4] rfl (RUN0 2 [2, 3, 4] [(0, .v (.slice words_a words.length words_c)), (5, I (k : Int)), (31, .v (.slice oa out.length oc)), (32, I (((number y4).getD 0 : Nat) : Int))] ?_ rfl ?_)))
        · as_aux_lemma => kernel_rfl
        refine OPC (BUILDS 22 1 #[(0, .tmp 32)] 33 22 ?_ (Nat.le_of_ble_eq_true rfl) 3 [vi (((number y4).getD 0 : Nat) : Int)] ?_ intL [(((number y4).getD 0 : Nat) : Int)] rfl (by simp only [maxLen]; omega) [] [] _ rfl (flatRep rfl) (fun a15 ha16 => ?_))
        · as_aux_lemma => kernel_rfl
        · as_aux_lemma => kernel_rfl
        refine OPC (APPENDO 22 (.tmp 31) (.tmp 33) 34 22 ?_ (Nat.le_of_ble_eq_true rfl) (.slice oa out.length oc) a15 1 1 ?_ ?_ ha16 3 ?_ intL (vi 0) 8 ?_ rfl (by decide) 0 0 out ([(((number y4).getD 0 : Nat) : Int)]) _ rfl rfl (by first | omega | (simp only [List.length_append, List.length_cons, List.length_nil, List.length_take, List.length_drop] at *; omega)) (by simp only [maxLen]; first | omega | (simp only [List.length_append, List.length_cons, List.length_nil, List.length_take, List.length_drop] at *; omega)) (fun a17 c18 hn19 => ?_))
        · as_aux_lemma => kernel_rfl
        · as_aux_lemma => kernel_rfl
        · as_aux_lemma => kernel_rfl
        · as_aux_lemma => kernel_rfl
        · as_aux_lemma => kernel_rfl
        refine RUN0 1 [] [(0, .v (.slice words_a words.length words_c)), (4, .v (.slice a17 ((out ++ ([(((number y4).getD 0 : Nat) : Int)])).length) c18)), (5, I (k : Int))] ?_ rfl ?_
        · as_aux_lemma => kernel_rfl
        refine ENDOPS (OUTN (NEXT (REGION [0, 1, 2] rfl (RUN0 2 [2] [(0, .v (.slice words_a words.length words_c)), (4, .v (.slice a17 ((out ++ ([(((number y4).getD 0 : Nat) : Int)])).length) c18)), (14, I (wr ((k : Int) + 1)))] ?_ rfl ?_))))
        · as_aux_lemma => kernel_rfl
        refine CAST (d := 14) (vi (wr ((k : Int) + 1))) (vi ((k + 1 : Nat) : Int)) ?_ (vi_cast (by omega) (by omega)) ?_
        · as_aux_lemma => kernel_rfl
        refine RUN0 1 [] [(0, .v (.slice words_a words.length words_c)), (4, .v (.slice a17 ((out ++ ([(((number y4).getD 0 : Nat) : Int)])).length) c18)), (5, I ((k + 1 : Nat) : Int))] ?_ rfl ?_
        · as_aux_lemma => kernel_rfl
        refine ENDOPS (BACK (k + 1, ys5, a17, c18, out ++ ([(((number y4).getD 0 : Nat) : Int)])) [0, 4, 5] 0 [0] _ ⟨hl_y4, hd_y4, hv0.trans (by first | (rw [readArgs_num (by assumption) (by assumption)]; simp [Option.map_map, Function.comp_def]; done) | (rw [show y4 = [45] by assumption, readArgs_dash]; simp [Option.map_map, Function.comp_def])), (by simp only [List.length_append, List.length_cons, List.length_nil]; omega)⟩ (by simp) ?_ rfl rfl rfl)
        · as_aux_lemma => kernel_rfl
  · -- decide ((k : Int) < (words.length : Int)) = false
    have h3 := bh3
    have h3 := of_decide_eq_false h3
    obtain rfl := drop_nil hk (by omega)
    refine EXIT (PASS trivial (PASS trivial (OUT (NEXT (SEQ (REGION [0, 1, 2] rfl (RUN0 3 [] [(2, .v (.slice oa out.length oc)), (3, B true)] ?_ rfl ?_)))))))
    · as_aux_lemma => kernel_rfl
    refine ENDOPS (NEXT (RET ?_))
    have efin : readArgs words = some out := by rw [hv0]; simp [readArgs]
    refine FIN (.tuple #[.slice oa out.length oc, .bool true]) ?_ (oa, oc) ?_ [0] ?_
    · as_aux_lemma => kernel_rfl
    · rw [efin]; rfl
    · rw [efin]; rfl

end SX
end Go.Proofs.YtpdijcbgdalphaaDoor
