/- What the functions on lines of requests and events come to, in plain Lean. It imports no program. -/
import Derived.Test.YtgbfemglimebdaaGreatDoorMdl3
namespace Go.Proofs.YtgbfemglimebdaaGreatDoor
namespace SX
set_option linter.unusedVariables false
set_option linter.unusedSimpArgs false
def reqWords : List (List UInt8) := [[], [106, 111, 105, 110], [99, 97, 110, 99, 101, 108], [102, 114, 101, 101], [97, 99, 99, 101, 112, 116], [100, 101, 99, 108, 105, 110, 101], [116, 105, 99, 107], [112, 105, 99, 107]]
def reqWord (k : Int) : List UInt8 := (reqWords[k.toNat]?).getD []
theorem reqWord_of {k : Int} {x : List UInt8} (h : reqWords[k.toNat]? = some x) : x = reqWord k := by unfold reqWord; rw [h]; rfl
theorem reqOk_rng {q : Req} (h : reqOk q = true) : (1 ≤ q.kind ∧ q.kind ≤ 7) ∧ (0 ≤ q.id ∧ q.id ≤ 9999) ∧ (0 ≤ q.cabin ∧ q.cabin ≤ 9999) ∧ (-1 ≤ q.from' ∧ q.from' ≤ 9999) ∧ (0 ≤ q.size ∧ q.size ≤ 9999) ∧ (0 ≤ q.tier ∧ q.tier ≤ 9999) := by
  unfold reqOk at h
  split at h
  · rename_i hk; simp [usedB, inB] at h hk; omega
  · split at h
    · rename_i hk; simp [usedB, inB, reqEq] at h hk; omega
    · split at h
      · rename_i hk; simp [usedB, inB, reqEq] at h hk; omega
      · split at h
        · rename_i hk; simp [usedB, inB, reqEq] at h hk; omega
        · cases h
theorem allKeep_rng : ∀ {l : List Int}, allKeep l = true → ∀ x ∈ l, i64R x
  | [], _, x, hx => by cases hx
  | y :: l, h, x, hx => by
    simp only [allKeep, Bool.and_eq_true] at h
    rcases List.mem_cons.1 hx with rfl | hx
    · have := h.1; simp [inB] at this; omega
    · exact allKeep_rng h.2 x hx
theorem actOk_rng {a : Act} (h : actOk a = true) : (1 ≤ a.kind ∧ a.kind ≤ 4) ∧ (a.kind = 1 → reqOk a.req = true) ∧ (0 ≤ a.n ∧ a.n ≤ 9999) ∧ (a.keep.length ≤ 3 ∧ ∀ x ∈ a.keep, i64R x) := by
  unfold actOk at h
  split at h
  · rename_i hk; simp at h hk; refine ⟨by omega, fun _ => h.1, by omega, by simp [h.2.2]⟩
  · split at h
    · rename_i hk; simp at h hk; refine ⟨by omega, fun e => by omega, by omega, by simp [h.2.2]⟩
    · split at h
      · rename_i hk; simp [usedB, inB] at h hk; refine ⟨by omega, fun e => by omega, by omega, by simp [h.2.2]⟩
      · split at h
        · rename_i hk; simp at h hk; refine ⟨by omega, fun e => by omega, by omega, by omega, allKeep_rng h.1⟩
        · cases h
def reqLine (q : Req) : List UInt8 :=
  if reqOk q then
    if q.kind == 1 then reqWord 1 ++ ([32] ++ (Lib.itoa q.id ++ ([32] ++ (Lib.itoa q.cabin ++ ([32] ++ ((if q.from' == -1 then [45] else Lib.itoa q.from') ++ ([32] ++ (Lib.itoa q.size ++ ([32] ++ Lib.itoa q.tier)))))))))
    else if q.kind == 3 then reqWord 3 ++ ([32] ++ (Lib.itoa q.cabin ++ ([32] ++ Lib.itoa q.size)))
    else if q.kind == 6 then reqWord 6
    else reqWord q.kind ++ ([32] ++ Lib.itoa q.id)
  else []
def actLine (a : Act) : List UInt8 :=
  if actOk a then
    if a.kind == 1 then [108, 97, 121, 32] ++ reqLine a.req
    else if a.kind == 2 then [115, 101, 97, 108]
    else if a.kind == 3 then [109, 97, 114, 107, 32] ++ Lib.itoa a.n
    else joinSp [102, 97, 108, 108] a.keep
  else []
theorem reqWord_len (k : Int) : (reqWord k).length ≤ 7 := by
  unfold reqWord
  rcases Nat.lt_or_ge k.toNat reqWords.length with h | h
  · rw [List.getElem?_eq_getElem h]
    have : ∀ x ∈ reqWords, x.length ≤ 7 := by decide
    exact this _ (List.getElem_mem h)
  · rw [List.getElem?_eq_none h]; simp
theorem reqLine_len (q : Req) : (reqLine q).length ≤ 200 := by
  unfold reqLine
  split
  · rename_i h
    have hq := reqOk_rng h
    have h1 := itoa_len (n := q.id) (by omega)
    have h2 := itoa_len (n := q.cabin) (by omega)
    have h3 := itoa_len (n := q.from') (by omega)
    have h4 := itoa_len (n := q.size) (by omega)
    have h5 := itoa_len (n := q.tier) (by omega)
    have w0 := reqWord_len q.kind
    have w1 := reqWord_len 1
    have w3 := reqWord_len 3
    have w6 := reqWord_len 6
    repeat' split
    all_goals (try simp only [List.length_append, List.length_cons, List.length_nil])
    all_goals omega
  · simp
end SX
end Go.Proofs.YtgbfemglimebdaaGreatDoor
