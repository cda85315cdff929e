/- Scripts that are read, in plain Lean. It imports no program. -/
import Derived.Test.YtpdijcbgdalphabGreatDoorMdlb
namespace Go.Proofs.YtpdijcbgdalphabGreatDoor
namespace SX
set_option linter.unusedVariables false
set_option linter.unusedSimpArgs false
open Go Go.RowKit
theorem script_len2 (l : List Req) : (scriptText l).length ≤ 50000 := by
  by_cases hs : scriptText l = []
  · rw [hs]; simp
  · obtain ⟨h0, h1, h2, h3⟩ := script_ok hs
    have hj := join_len (l.map reqLine) 200 (fun x hx => by
      obtain ⟨q, hq, rfl⟩ := List.mem_map.1 hx
      have := reqLine_len q; omega)
    rw [h3]
    simp only [List.length_map] at hj
    omega
theorem over200 {n : Nat} (h : (n : Int) > 200) : 200 < n := by omega
theorem not200 {n : Nat} (h : ¬ (n : Int) > 200) : ¬ 200 < n := by omega
theorem join_two (x y : List UInt8) (ys : List (List UInt8)) (c : UInt8) : Lib.join (x :: y :: ys) [c] = x ++ ([c] ++ Lib.join (y :: ys) [c]) := by
  rw [Lib.join_cons, Lib.join_cons]; simp [Lib.joinTail]
theorem join_partsGo (c : UInt8) : ∀ (s cur : List UInt8), Lib.join (partsGo c cur s) [c] = cur ++ s
  | [], cur => by simp [partsGo, Lib.join_one]
  | x :: s, cur => by
    unfold partsGo
    by_cases hx : x = c
    · rw [if_pos hx]
      have hl := (partsGo_len c s []).1
      have ih := join_partsGo c s []
      match hp : partsGo c [] s with
      | [] => rw [hp] at hl; simp at hl
      | y :: ys =>
        rw [hp] at ih
        rw [join_two, ih, hx]; simp
    · rw [if_neg hx, join_partsGo c s (cur ++ [x])]; simp
theorem join_parts (s : List UInt8) (c : UInt8) : Lib.join (parts s c) [c] = s := by
  have := join_partsGo c s []
  simpa [parts] using this
theorem readGo_spec : ∀ (ls : List (List UInt8)) (k : Nat) (acc : List Req),
    (∃ qs : List Req, ls = qs.map reqLine ∧ (∀ q ∈ qs, reqOk q = true) ∧ readGo k acc ls = (acc ++ qs, -1)) ∨
    (∃ (j : Nat) (l : List UInt8), ls[j]? = some l ∧ readI l = none ∧ (∀ i z, i < j → ls[i]? = some z → (readI z).isSome = true) ∧ readGo k acc ls = ([], ((k + j : Nat) : Int)))
  | [], k, acc => .inl ⟨[], rfl, fun _ h => absurd h (List.not_mem_nil), by simp [readGo]⟩
  | l :: ls, k, acc => by
    cases hl : readI l with
    | none => exact .inr ⟨0, l, rfl, hl, fun i z h => absurd h (Nat.not_lt_zero _), by simp [readGo, hl]⟩
    | some q =>
      obtain ⟨h1, h2⟩ := readI_some hl
      rcases readGo_spec ls (k + 1) (acc ++ [q]) with ⟨qs, e1, e2, e3⟩ | ⟨j, z, e1, e2, e3, e4⟩
      · refine .inl ⟨q :: qs, by rw [e1, List.map_cons, h2], fun y hy => ?_, by simp [readGo, hl, e3]⟩
        rcases List.mem_cons.1 hy with rfl | hy
        · exact h1
        · exact e2 y hy
      · refine .inr ⟨j + 1, z, by simpa using e1, e2, fun i y hi hy => ?_, ?_⟩
        · cases i with
          | zero => simp at hy; subst hy; rw [hl]; rfl
          | succ i => exact e3 i y (by omega) (by simpa using hy)
        · simp only [readGo, hl, e4]; congr 2; omega
theorem line_ne {q : Req} (h : reqOk q = true) : reqLine q ≠ [] := (line_parts h).choose_spec.2.2.2.2
theorem linesGo_ok : ∀ (l : List Req) (ls : List (List UInt8)), (∀ q ∈ l, reqOk q = true) → linesGo ls l = Lib.join (ls ++ l.map reqLine) [10]
  | [], ls, _ => by simp [linesGo]
  | q :: qs, ls, h => by
    unfold linesGo
    rw [if_neg (line_ne (h q (List.mem_cons_self ..))), linesGo_ok qs _ (fun z hz => h z (List.mem_cons_of_mem _ hz))]; simp
theorem rs_neg {s : List UInt8} (h : (readScript s).2 < 0) : scriptText (readScript s).1 = s := by
  unfold readScript at h ⊢
  by_cases hs : s = []
  · rw [if_pos hs]; rw [hs]; rfl
  · rw [if_neg hs] at h ⊢
    by_cases hl : 200 < (parts s 10).length
    · rw [if_pos hl] at h; simp at h
    · rw [if_neg hl] at h ⊢
      rcases readGo_spec (parts s 10) 0 [] with ⟨qs, e1, e2, e3⟩ | ⟨j, z, e1, e2, e3, e4⟩
      · rw [e3]
        have hq : ¬ 200 < qs.length := by rw [e1] at hl; simpa using hl
        show scriptText ([] ++ qs) = s
        rw [List.nil_append, scriptText_of hq, linesGo_ok qs [] e2, List.nil_append, ← e1, join_parts]
      · rw [e4] at h; simp at h; omega
theorem rs_many {s : List UInt8} (hm : 200 < (parts s 10).length) : (readScript s).2 = 200 := by
  unfold readScript
  by_cases hs : s = []
  · rw [hs] at hm; exact absurd hm (by decide)
  · rw [if_neg hs, if_pos hm]
theorem rs_bad {s : List UInt8} (h : 0 ≤ (readScript s).2) (hm : ¬ 200 < (parts s 10).length) : ∃ (j : Nat) (l : List UInt8), (parts s 10)[j]? = some l ∧ readI l = none ∧ (∀ i z, i < j → (parts s 10)[i]? = some z → (readI z).isSome = true) ∧ (readScript s).2 = (j : Int) := by
  unfold readScript at h ⊢
  by_cases hs : s = []
  · rw [if_pos hs] at h; simp at h
  · rw [if_neg hs, if_neg hm] at h ⊢
    rcases readGo_spec (parts s 10) 0 [] with ⟨qs, e1, e2, e3⟩ | ⟨j, z, e1, e2, e3, e4⟩
    · rw [e3] at h; simp at h
    · exact ⟨j, z, e1, e2, e3, by rw [e4]; simp⟩
theorem rs_lt {s : List UInt8} (h : 0 ≤ (readScript s).2) (hm : ¬ 200 < (parts s 10).length) : (readScript s).2 < ((parts s 10).length : Int) := by
  obtain ⟨j, l, e1, _, _, e4⟩ := rs_bad h hm
  have := (List.getElem?_eq_some_iff.1 e1).1
  omega
theorem rs_at {s : List UInt8} (h : 0 ≤ (readScript s).2) (hm : ¬ 200 < (parts s 10).length) {k : Nat} {l : List UInt8} (hk : (parts s 10)[k]? = some l) (hle : (k : Int) ≤ (readScript s).2) : (readI l).isSome = decide ((k : Int) < (readScript s).2) := by
  obtain ⟨j, z, e1, e2, e3, e4⟩ := rs_bad h hm
  by_cases hj : k < j
  · rw [e3 k l hj hk]; exact (decide_eq_true (by omega)).symm
  · obtain rfl : k = j := by omega
    rw [e1] at hk; injection hk with hk; subst hk
    rw [e2]; exact (decide_eq_false (by omega)).symm
end SX
end Go.Proofs.YtpdijcbgdalphabGreatDoor
