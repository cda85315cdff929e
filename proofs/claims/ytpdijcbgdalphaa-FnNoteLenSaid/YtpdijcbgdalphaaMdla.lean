/- The lengths of records, in plain Lean. It imports no program. -/
import Derived.Test.YtpdijcbgdalphaaMdl2
namespace Go.Proofs.Ytpdijcbgdalphaa
namespace SX
set_option linter.unusedVariables false
set_option linter.unusedSimpArgs false
open Go Go.RowKit
def logMost (n : Int) : Int := if inB n 0 1000000 then wr (19 * n) else 0
theorem logMost_one : logMost 1 = 19 := by rw [logMost, if_pos (by decide)]; exact wr_of (by decide) (by decide)
theorem putNum_le (k : Nat) (n : Int) (h : n < ((128 ^ (k + 1) : Nat) : Int)) : (putNum n).length ≤ k + 1 := by
  unfold putNum
  split
  · rename_i hb
    have hb : 0 ≤ n ∧ n ≤ 2147483647 := by simpa [inB] using hb
    exact putGo_len k n.toNat (by omega)
  · simp
theorem putNum_two {n : Int} (h : n ≤ 16383) : (putNum n).length ≤ 2 := putNum_le 1 n (by simp; omega)
theorem putNum_one {n : Nat} (h : n < 128) : (putNum (n : Int)).length = 1 := by
  rw [putNum, if_pos (by simp [inB]; omega), show (n : Int).toNat = n by omega, putGo_lt h]; rfl
theorem putNum_seq : (putNum 1000000).length = 3 := by
  rw [putNum, if_pos (by decide), show (1000000 : Int).toNat = 1000000 from rfl, putGo_ge (by decide), putGo_ge (by decide), putGo_lt (by decide)]; rfl
theorem reqBytes_le (q : Req) : (reqBytes q).length ≤ 11 := by
  unfold reqBytes
  split
  · rename_i hq
    split
    · rename_i hk
      have hk : q.kind = 1 := by simpa using hk
      have hb : usedB q.id = true ∧ usedB q.cabin = true ∧ inB q.from' (-1) 9999 = true ∧ usedB q.size = true ∧ usedB q.tier = true := by
        rw [reqOk, if_pos (by simp [hk])] at hq
        simpa [and_assoc] using hq
      simp only [usedB, inB, Bool.and_eq_true, decide_eq_true_eq] at hb
      have h1 := putNum_le 0 q.kind (by omega)
      have h2 := putNum_two (n := q.id) (by omega)
      have h3 := putNum_two (n := q.cabin) (by omega)
      have h4 := putNum_two (n := wr (q.from' + 1)) (by rw [wr_of (by omega) (by omega)]; omega)
      have h5 := putNum_two (n := q.size) (by omega)
      have h6 := putNum_two (n := q.tier) (by omega)
      simp only [putNums, List.flatMap_cons, List.flatMap_nil, List.length_append, List.length_nil]
      omega
    · split
      · rename_i hk
        have hk : q.kind = 3 := by simpa using hk
        have hb : usedB q.cabin = true ∧ usedB q.size = true := by
          simp only [reqOk, hk] at hq
          simp at hq; exact ⟨hq.1, hq.2.1⟩
        simp only [usedB, inB, Bool.and_eq_true, decide_eq_true_eq] at hb
        have h1 := putNum_two (n := q.kind) (by omega)
        have h3 := putNum_two (n := q.cabin) (by omega)
        have h5 := putNum_two (n := q.size) (by omega)
        simp only [putNums, List.flatMap_cons, List.flatMap_nil, List.length_append, List.length_nil]
        omega
      · split
        · have := putNum_len q.kind
          simp only [putNums, List.flatMap_cons, List.flatMap_nil, List.length_append, List.length_nil]
          omega
        · have h1 := putNum_len q.kind
          have h2 := putNum_len q.id
          simp only [putNums, List.flatMap_cons, List.flatMap_nil, List.length_append, List.length_nil]
          omega
  · simp
theorem noteOf_len {seq : Int} {q : Req} (hs : inB seq 1 1000000 = true) (hb : 1 ≤ (reqBytes q).length) : (noteOf seq q).length = 5 + (putNum seq).length + (reqBytes q).length ∧ (putNum seq).length ≤ 3 := by
  have h11 := reqBytes_le q
  have hs' : 1 ≤ seq ∧ seq ≤ 1000000 := by simpa [inB] using hs
  have h3 : (putNum seq).length ≤ 3 := putNum_le 2 seq (by simp; omega)
  refine ⟨?_, h3⟩
  rw [noteOf, frameOf, if_pos (by rw [hs]; simp [inB]; omega)]
  have hl : (four (crc (putNum seq ++ reqBytes q)) ++ (putNum seq ++ reqBytes q)).length = 4 + (putNum seq).length + (reqBytes q).length := by simp only [List.length_append, four_len]; omega
  rw [List.length_append, putNum_one (by omega), hl]
  omega
theorem noteOf_nil {seq : Int} {q : Req} (h : ¬ (inB seq 1 1000000 = true ∧ 1 ≤ (reqBytes q).length)) : (noteOf seq q).length = 0 := by
  rw [noteOf, frameOf, if_neg]
  · rfl
  · intro hc
    simp only [Bool.and_eq_true] at hc
    exact h ⟨hc.1, by have := hc.2; simp [inB] at this; omega⟩
theorem noteLen_le (q : Req) : noteLen q ≤ 19 := by
  unfold noteLen
  by_cases hb : 1 ≤ (reqBytes q).length
  · have h := noteOf_len (seq := 1000000) (q := q) (by decide) hb
    have := reqBytes_le q
    omega
  · have := noteOf_nil (seq := 1000000) (q := q) (fun h => hb h.2)
    omega
theorem noteOf_le (seq : Int) (q : Req) : ((noteOf seq q).length : Int) ≤ noteLen q := by
  unfold noteLen
  by_cases h : inB seq 1 1000000 = true ∧ 1 ≤ (reqBytes q).length
  · have h1 := noteOf_len h.1 h.2
    have h2 := noteOf_len (seq := 1000000) (q := q) (by decide) h.2
    have := putNum_seq
    omega
  · have := noteOf_nil h
    omega
end SX
end Go.Proofs.Ytpdijcbgdalphaa
