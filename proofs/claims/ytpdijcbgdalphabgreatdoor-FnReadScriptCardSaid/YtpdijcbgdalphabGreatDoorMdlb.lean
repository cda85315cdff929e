/- Scripts and their lines, in plain Lean. It imports no program. -/
import Derived.Test.YtpdijcbgdalphabGreatDoorMdl8
namespace Go.Proofs.YtpdijcbgdalphabGreatDoor
namespace SX
set_option linter.unusedVariables false
set_option linter.unusedSimpArgs false
open Go Go.RowKit
def sameReqs : List Req → List Req → Bool
  | [], [] => true
  | x :: xs, y :: ys => if !(reqEq x y) then false else sameReqs xs ys
  | _, _ => false
theorem reqEq_refl (x : Req) : reqEq x x = true := by simp [reqEq]
theorem sameReqs_refl : ∀ (a : List Req), sameReqs a a = true
  | [] => rfl
  | x :: xs => by simp [sameReqs, reqEq_refl, sameReqs_refl xs]
theorem sameReqs_ne : ∀ {a b : List Req}, a.length ≠ b.length → sameReqs a b = false
  | [], [], h => absurd rfl h
  | [], _ :: _, _ => rfl
  | _ :: _, [], _ => rfl
  | x :: xs, y :: ys, h => by
    have := sameReqs_ne (a := xs) (b := ys) (by simpa using h)
    simp [sameReqs, this]
theorem reqWord_no10 (k : Int) : (10 : UInt8) ∉ reqWord k := by
  unfold reqWord
  rcases Nat.lt_or_ge k.toNat reqWords.length with h | h
  · rw [List.getElem?_eq_getElem h]
    have : ∀ x ∈ reqWords, (10 : UInt8) ∉ x := by decide
    exact this _ (List.getElem_mem h)
  · rw [List.getElem?_eq_none h]; simp
theorem line_no10 {q : Req} (hq : reqOk q = true) : (10 : UInt8) ∉ reqLine q := by
  obtain ⟨⟨k1, k2⟩, ⟨i1, i2⟩, ⟨c1, c2⟩, ⟨f1, f2⟩, ⟨s1, s2⟩, ⟨t1, t2⟩⟩ := reqOk_rng hq
  have n : ∀ {n : Int}, 0 ≤ n → (10 : UInt8) ∉ Lib.itoa n := fun h => itoa_no h (by decide)
  have hf : (10 : UInt8) ∉ (if q.from' == -1 then [45] else Lib.itoa q.from') := by
    split
    · decide
    · rename_i h; exact n (by have : q.from' ≠ -1 := by simpa using h
                              omega)
  have e : (10 : UInt8) ≠ 32 := by decide
  unfold reqLine
  rw [if_pos hq]
  split
  · simp only [List.mem_append, List.mem_singleton, not_or]; exact ⟨reqWord_no10 _, e, n i1, e, n c1, e, hf, e, n s1, e, n t1⟩
  · split
    · simp only [List.mem_append, List.mem_singleton, not_or]; exact ⟨reqWord_no10 _, e, n c1, e, n s1⟩
    · split
      · exact reqWord_no10 _
      · simp only [List.mem_append, List.mem_singleton, not_or]; exact ⟨reqWord_no10 _, e, n i1⟩
theorem parts_tail {c : UInt8} : ∀ (xs : List (List UInt8)) (y : List UInt8), c ∉ y → (∀ x ∈ xs, c ∉ x) → parts (y ++ Lib.joinTail [c] xs) c = y :: xs
  | [], y, hy, _ => by simp [Lib.joinTail, parts_no hy]
  | x :: xs, y, hy, h => by
    have ih := parts_tail xs x (h x (List.mem_cons_self ..)) (fun z hz => h z (List.mem_cons_of_mem _ hz))
    rw [show Lib.joinTail [c] (x :: xs) = [c] ++ (x ++ Lib.joinTail [c] xs) by simp [Lib.joinTail], parts_cons _ hy, ih]
theorem parts_join {c : UInt8} {ls : List (List UInt8)} (hn : ls ≠ []) (h : ∀ x ∈ ls, c ∉ x) : parts (Lib.join ls [c]) c = ls := by
  cases ls with
  | nil => exact absurd rfl hn
  | cons y ys => rw [Lib.join_cons]; exact parts_tail ys y (h y (List.mem_cons_self ..)) (fun z hz => h z (List.mem_cons_of_mem _ hz))
theorem linesGo_all : ∀ (l : List Req) (ls : List (List UInt8)), linesGo ls l ≠ [] → (∀ q ∈ l, reqLine q ≠ []) ∧ linesGo ls l = Lib.join (ls ++ l.map reqLine) [10]
  | [], ls, _ => ⟨fun _ h => absurd h (List.not_mem_nil), by simp [linesGo]⟩
  | q :: qs, ls, h => by
    unfold linesGo at h ⊢
    by_cases hq : reqLine q = []
    · rw [if_pos hq] at h; exact absurd rfl h
    · rw [if_neg hq] at h ⊢
      obtain ⟨h1, h2⟩ := linesGo_all qs _ h
      refine ⟨fun z hz => ?_, by rw [h2]; simp⟩
      rcases List.mem_cons.1 hz with rfl | hz
      · exact hq
      · exact h1 z hz
theorem line_ok {q : Req} (h : reqLine q ≠ []) : reqOk q = true := by
  by_cases hq : reqOk q = true
  · exact hq
  · exact absurd (by unfold reqLine; rw [if_neg hq]) h
theorem script_ok {l : List Req} (hs : scriptText l ≠ []) : l ≠ [] ∧ l.length ≤ 200 ∧ (∀ q ∈ l, reqOk q = true) ∧ scriptText l = Lib.join (l.map reqLine) [10] := by
  unfold scriptText at hs ⊢
  by_cases hl : 200 < l.length
  · rw [if_pos hl] at hs; exact absurd rfl hs
  · rw [if_neg hl] at hs ⊢
    have he := linesGo_eq l []
    simp only [List.length_nil, Lib.join_nil] at he
    rw [← he] at hs ⊢
    obtain ⟨h1, h2⟩ := linesGo_all l [] hs
    refine ⟨?_, by omega, fun q hq => line_ok (h1 q hq), by simpa using h2⟩
    rintro rfl
    exact hs (by simp [linesGo, Lib.join_nil])
theorem script_len (l : List Req) : (scriptText l).length ≤ 1048576 := by
  by_cases hs : scriptText l = []
  · rw [hs]; simp
  · obtain ⟨h0, h1, h2, h3⟩ := script_ok hs
    have hj := join_len (l.map reqLine) 200 (fun x hx => by
      obtain ⟨q, hq, rfl⟩ := List.mem_map.1 hx
      have := reqLine_len q; omega)
    rw [h3]
    simp only [List.length_map] at hj
    omega
theorem readGo_all : ∀ (l acc : List Req) (k : Nat), (∀ q ∈ l, reqOk q = true) → readGo k acc (l.map reqLine) = (acc ++ l, -1)
  | [], acc, k, _ => by simp [readGo]
  | q :: qs, acc, k, h => by
    have hq := readI_line (h q (List.mem_cons_self ..))
    rw [List.map_cons, readGo_some (by rw [hq]; rfl), hq, readGo_all qs _ _ (fun z hz => h z (List.mem_cons_of_mem _ hz))]
    simp [optReq]
theorem read_script {l : List Req} (hs : scriptText l ≠ []) : readScript (scriptText l) = (l, -1) := by
  obtain ⟨h0, h1, h2, h3⟩ := script_ok hs
  have hp : parts (scriptText l) 10 = l.map reqLine := by
    rw [h3]; exact parts_join (by simpa using h0) (fun x hx => by obtain ⟨q, hq, rfl⟩ := List.mem_map.1 hx; exact line_no10 (h2 q hq))
  unfold readScript
  rw [if_neg hs, hp, if_neg (by simpa using h1), readGo_all l [] 0 h2]; simp
theorem read_one {l : List Req} (hs : scriptText l ≠ []) {k : Nat} {q : Req} (hk : l[k]? = some q) : readI (reqLine q) = some q :=
  readI_line ((script_ok hs).2.2.1 q (List.mem_of_getElem? hk))
end SX
end Go.Proofs.YtpdijcbgdalphabGreatDoor
