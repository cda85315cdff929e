/- What the two readers of a request's line come to; they agree. No program is in sight. -/
import Derived.Test.YtpdijcbgdalphabGreatDoorMdl6
namespace Go.Proofs.YtpdijcbgdalphabGreatDoor
namespace SX
set_option linter.unusedVariables false
set_option linter.unusedSimpArgs false
def argOf (w : List UInt8) : Option Int := if w = [45] then some (-1) else (number w).map fun n => (n : Int)
def readArgs : List (List UInt8) → Option (List Int)
  | [] => some []
  | w :: ws => match argOf w with
    | some n => (readArgs ws).map (n :: ·)
    | none => none
theorem readArgs_len : ∀ {ws : List (List UInt8)} {l : List Int}, readArgs ws = some l → l.length = ws.length
  | [], l, h => by simp [readArgs] at h; subst h; rfl
  | w :: ws, l, h => by
    simp only [readArgs] at h
    split at h
    · obtain ⟨l', h', rfl⟩ := Option.map_eq_some_iff.1 h
      simp [readArgs_len h']
    · cases h
theorem argOf_itoa {n : Int} (h0 : 0 ≤ n) (h1 : n ≤ 9999) : argOf (Lib.itoa n) = some n := by
  unfold argOf
  rw [if_neg, number_itoa h0 (by omega)]
  · simp; omega
  · intro e
    have := itoa_no h0 (c := 45) (by decide)
    rw [e] at this
    simp at this
def noQ : Req := ⟨0, 0, 0, 0, 0, 0⟩
def at5 (l : List Int) (k : Nat) : Int := (l[k]?).getD 0
def iReq (w : List UInt8) (l : List Int) : Req :=
  if w = [106, 111, 105, 110] then ⟨1, at5 l 0, at5 l 1, at5 l 2, at5 l 3, at5 l 4⟩
  else if w = [99, 97, 110, 99, 101, 108] then ⟨2, at5 l 0, 0, 0, 0, 0⟩
  else if w = [102, 114, 101, 101] then ⟨3, 0, at5 l 0, 0, at5 l 1, 0⟩
  else if w = [97, 99, 99, 101, 112, 116] then ⟨4, at5 l 0, 0, 0, 0, 0⟩
  else if w = [100, 101, 99, 108, 105, 110, 101] then ⟨5, at5 l 0, 0, 0, 0, 0⟩
  else if w = [116, 105, 99, 107] then ⟨6, 0, 0, 0, 0, 0⟩
  else if w = [112, 105, 99, 107] then ⟨7, at5 l 0, 0, 0, 0, 0⟩
  else noQ
def head0 (ps : List (List UInt8)) : List UInt8 := (ps[0]?).getD []
/-- the program's -/
def readI (line : List UInt8) : Option Req :=
  if 6 < (parts line 32).length then none else
  match readArgs ((parts line 32).drop 1) with
  | none => none
  | some l => if reqOk (iReq (head0 (parts line 32)) l) = true ∧ reqLine (iReq (head0 (parts line 32)) l) = line then some (iReq (head0 (parts line 32)) l) else none
def kindGo (w : List UInt8) : Nat → Int → Int → Int
  | 0, _, z => z
  | m + 1, k, z => kindGo w m (k + 1) (if w = reqWord k then k else z)
def sReq (w : List UInt8) (l : List Int) : Req :=
  if l.length = 1 then ⟨kindGo w 7 1 0, at5 l 0, 0, 0, 0, 0⟩
  else if l.length = 2 then ⟨kindGo w 7 1 0, 0, at5 l 0, 0, at5 l 1, 0⟩
  else if l.length = 5 then ⟨kindGo w 7 1 0, at5 l 0, at5 l 1, at5 l 2, at5 l 3, at5 l 4⟩
  else ⟨kindGo w 7 1 0, 0, 0, 0, 0, 0⟩
/-- the reference's -/
def readS (line : List UInt8) : Option Req :=
  if 80 < line.length then none else
  match readArgs ((parts line 32).drop 1) with
  | none => none
  | some l => if reqLine (sReq (head0 (parts line 32)) l) = line ∧ line ≠ [] then some (sReq (head0 (parts line 32)) l) else none

theorem word_no {n : Int} (h0 : 0 ≤ n) : (32 : UInt8) ∉ Lib.itoa n := itoa_no h0 (by decide)
theorem reqWord_no (k : Int) : (32 : UInt8) ∉ reqWord k := by
  unfold reqWord
  rcases Nat.lt_or_ge k.toNat reqWords.length with h | h
  · rw [List.getElem?_eq_getElem h]
    have : ∀ x ∈ reqWords, (32 : UInt8) ∉ x := by decide
    exact this _ (List.getElem_mem h)
  · rw [List.getElem?_eq_none h]; simp
theorem from_no {n : Int} (h : -1 ≤ n) : (32 : UInt8) ∉ (if n == -1 then [45] else Lib.itoa n) := by
  split
  · simp
  · rename_i h'; exact word_no (by simp at h'; omega)
theorem from_arg {n : Int} (h : -1 ≤ n) (h1 : n ≤ 9999) : argOf (if n == -1 then [45] else Lib.itoa n) = some n := by
  split
  · rename_i h'; simp at h'; simp [argOf, h']
  · rename_i h'; exact argOf_itoa (by simp at h'; omega) h1
theorem from_len {n : Int} (h : -1 ≤ n) (h1 : n ≤ 9999) : ((if n == -1 then [45] else Lib.itoa n) : List UInt8).length ≤ 5 := by
  split
  · simp
  · rename_i h'; exact (itoa_short (by simp at h'; omega) (by omega)).2

/-- the parts of a line -/
theorem line_parts {q : Req} (hq : reqOk q = true) : ∃ l, parts (reqLine q) 32 = reqWord q.kind :: l ∧ l.length ≤ 5 ∧ readArgs l = some (if q.kind == 1 then [q.id, q.cabin, q.from', q.size, q.tier] else if q.kind == 3 then [q.cabin, q.size] else if q.kind == 6 then [] else [q.id]) ∧ (reqLine q).length ≤ 80 ∧ reqLine q ≠ [] := by
  have hr := reqOk_rng hq
  have hw := reqWord_no q.kind
  have hwl := reqWord_len q.kind
  obtain ⟨⟨k1, k2⟩, ⟨i1, i2⟩, ⟨c1, c2⟩, ⟨f1, f2⟩, ⟨s1, s2⟩, ⟨t1, t2⟩⟩ := hr
  have li := itoa_short i1 (by omega)
  have lc := itoa_short c1 (by omega)
  have ls := itoa_short s1 (by omega)
  have lt := itoa_short t1 (by omega)
  have lf := from_len f1 f2
  unfold reqLine
  rw [if_pos hq]
  by_cases e1 : q.kind = 1
  · simp only [e1, beq_self_eq_true, if_true]
    refine ⟨[Lib.itoa q.id, Lib.itoa q.cabin, if q.from' == -1 then [45] else Lib.itoa q.from', Lib.itoa q.size, Lib.itoa q.tier], ?_, by simp, ?_, ?_, by simp⟩
    · rw [parts_cons _ (reqWord_no 1), parts_cons _ (word_no i1), parts_cons _ (word_no c1), parts_cons _ (from_no f1), parts_cons _ (word_no s1), parts_no (word_no t1)]
    · simp only [readArgs, argOf_itoa i1 i2, argOf_itoa c1 c2, from_arg f1 f2, argOf_itoa s1 s2, argOf_itoa t1 t2, Option.map_some]
    · have := reqWord_len 1
      simp only [List.length_append, List.length_cons, List.length_nil]
      omega
  · by_cases e3 : q.kind = 3
    · simp only [e3, beq_self_eq_true, if_true, show ((3 : Int) == 1) = false from rfl, Bool.false_eq_true, if_false]
      refine ⟨[Lib.itoa q.cabin, Lib.itoa q.size], ?_, by simp, ?_, ?_, by simp⟩
      · rw [parts_cons _ (reqWord_no 3), parts_cons _ (word_no c1), parts_no (word_no s1)]
      · simp only [readArgs, argOf_itoa c1 c2, argOf_itoa s1 s2, Option.map_some]
      · have := reqWord_len 3
        simp only [List.length_append, List.length_cons, List.length_nil]
        omega
    · by_cases e6 : q.kind = 6
      · simp only [e6, beq_self_eq_true, if_true, show ((6 : Int) == 1) = false from rfl, show ((6 : Int) == 3) = false from rfl, Bool.false_eq_true, if_false]
        refine ⟨[], ?_, by simp, rfl, ?_, by decide⟩
        · rw [parts_no (reqWord_no 6)]
        · have := reqWord_len 6; omega
      · have b1 : (q.kind == 1) = false := by simpa using e1
        have b3 : (q.kind == 3) = false := by simpa using e3
        have b6 : (q.kind == 6) = false := by simpa using e6
        simp only [b1, b3, b6, Bool.false_eq_true, if_false]
        refine ⟨[Lib.itoa q.id], ?_, by simp, ?_, ?_, by simp⟩
        · rw [parts_cons _ hw, parts_no (word_no i1)]
        · simp only [readArgs, argOf_itoa i1 i2, Option.map_some]
        · simp only [List.length_append, List.length_cons, List.length_nil]
          omega
theorem reqEq_eq {a b : Req} (h : reqEq a b = true) : a = b := by
  cases a; cases b
  simp [reqEq] at h
  obtain ⟨rfl, rfl, rfl, rfl, rfl, rfl⟩ := h
  rfl
/-- what a right request looks like, by its kind -/
theorem reqOk_form {q : Req} (hq : reqOk q = true) : q = (if q.kind == 1 then q else if q.kind == 3 then ⟨3, 0, q.cabin, 0, q.size, 0⟩ else if q.kind == 6 then ⟨6, 0, 0, 0, 0, 0⟩ else ⟨q.kind, q.id, 0, 0, 0, 0⟩) := by
  unfold reqOk at hq
  by_cases e1 : q.kind = 1
  · simp [e1]
  · by_cases e3 : q.kind = 3
    · simp [e3] at hq ⊢
      exact reqEq_eq hq.2.2
    · by_cases e6 : q.kind = 6
      · simp [e6] at hq ⊢
        exact reqEq_eq hq
      · simp [e1, e3, e6] at hq ⊢
        exact reqEq_eq hq.2.2
theorem kinds_of {k : Int} (h0 : 1 ≤ k) (h1 : k ≤ 7) : k = 1 ∨ k = 2 ∨ k = 3 ∨ k = 4 ∨ k = 5 ∨ k = 6 ∨ k = 7 := by omega
theorem kindGo_of {k : Int} (h0 : 1 ≤ k) (h1 : k ≤ 7) : kindGo (reqWord k) 7 1 0 = k := by
  rcases kinds_of h0 h1 with rfl | rfl | rfl | rfl | rfl | rfl | rfl <;> decide
theorem iReq_of {q : Req} (hq : reqOk q = true) : iReq (reqWord q.kind) (if q.kind == 1 then [q.id, q.cabin, q.from', q.size, q.tier] else if q.kind == 3 then [q.cabin, q.size] else if q.kind == 6 then [] else [q.id]) = q := by
  have hr := reqOk_rng hq
  have hf := reqOk_form hq
  obtain ⟨k, i, c, f, s, t⟩ := q
  rcases kinds_of hr.1.1 hr.1.2 with h | h | h | h | h | h | h <;> simp only at h <;> subst h <;> clear hq hr <;> first | (simp at hf; simp [iReq, reqWord, reqWords, at5, hf]; done) | simp [iReq, reqWord, reqWords, at5]
theorem sReq_of {q : Req} (hq : reqOk q = true) : sReq (reqWord q.kind) (if q.kind == 1 then [q.id, q.cabin, q.from', q.size, q.tier] else if q.kind == 3 then [q.cabin, q.size] else if q.kind == 6 then [] else [q.id]) = q := by
  have hr := reqOk_rng hq
  have hf := reqOk_form hq
  unfold sReq
  rw [kindGo_of hr.1.1 hr.1.2]
  obtain ⟨k, i, c, f, s, t⟩ := q
  rcases kinds_of hr.1.1 hr.1.2 with h | h | h | h | h | h | h <;> simp only at h <;> subst h <;> clear hq hr <;> first | (simp at hf; simp [at5, hf]; done) | simp [at5]
theorem readI_line {q : Req} (hq : reqOk q = true) : readI (reqLine q) = some q := by
  obtain ⟨l, h1, h2, h3, h4, h5⟩ := line_parts hq
  unfold readI
  rw [h1, if_neg (by simp; omega)]
  simp only [List.drop_succ_cons, List.drop_zero, h3, head0, List.getElem?_cons_zero, Option.getD_some, iReq_of hq]
  simp [hq]
theorem readS_line {q : Req} (hq : reqOk q = true) : readS (reqLine q) = some q := by
  obtain ⟨l, h1, h2, h3, h4, h5⟩ := line_parts hq
  unfold readS
  rw [h1, if_neg (by omega)]
  simp only [List.drop_succ_cons, List.drop_zero, h3, head0, List.getElem?_cons_zero, Option.getD_some, sReq_of hq]
  simp [h5]
theorem readI_some {line : List UInt8} {q : Req} (h : readI line = some q) : reqOk q = true ∧ reqLine q = line := by
  unfold readI at h
  split at h
  · cases h
  · split at h
    · cases h
    · split at h
      · rename_i hc; injection h with h; subst h; exact hc
      · cases h
theorem readS_some {line : List UInt8} {q : Req} (h : readS line = some q) : reqOk q = true ∧ reqLine q = line := by
  unfold readS at h
  split at h
  · cases h
  · split at h
    · cases h
    · split at h
      · rename_i hc; injection h with h; subst h
        refine ⟨?_, hc.1⟩
        have hne := hc.2
        rw [← hc.1] at hne
        unfold reqLine at hne
        split at hne
        · assumption
        · exact absurd rfl hne
      · cases h
theorem read_eq (line : List UInt8) : readI line = readS line := by
  cases hi : readI line with
  | some q =>
    obtain ⟨h1, h2⟩ := readI_some hi
    rw [← h2, readS_line h1]
  | none =>
    cases hs : readS line with
    | none => rfl
    | some q =>
      obtain ⟨h1, h2⟩ := readS_some hs
      rw [← h2, readI_line h1] at hi
      cases hi
/-! ### For the walks -/
def optReq (o : Option Req) : Req := o.getD ⟨0, 0, 0, 0, 0, 0⟩
theorem readArgs_dash (ws : List (List UInt8)) : readArgs ([45] :: ws) = (readArgs ws).map ((-1) :: ·) := by simp [readArgs, argOf]
theorem readArgs_num {w : List UInt8} {ws : List (List UInt8)} (h : w ≠ [45]) (hs : (number w).isSome = true) : readArgs (w :: ws) = (readArgs ws).map ((((number w).getD 0 : Nat) : Int) :: ·) := by
  obtain ⟨n, hn⟩ := Option.isSome_iff_exists.1 hs
  simp [readArgs, argOf, h, hn]
theorem readArgs_bad {w : List UInt8} {ws : List (List UInt8)} (h : w ≠ [45]) (hs : (number w).isSome = false) : readArgs (w :: ws) = none := by
  have hn : number w = none := by simpa using hs
  simp [readArgs, argOf, h, hn]
theorem number_of {s : List UInt8} {n : Nat} (h : 1 ≤ s.length ∧ s.length ≤ 6) (hd : digitsGo 0 s = some n) : number s = if Lib.itoa (n : Int) = s then some n else none := by
  unfold number
  rw [if_neg (by omega), hd]
theorem number_bad {s : List UInt8} (h : s.length < 1 ∨ 6 < s.length ∨ digitsGo 0 s = none) : number s = none := by
  unfold number
  split
  · rfl
  · rw [h.resolve_left (by omega) |>.resolve_left (by omega)]
theorem at5_pad {d : List Int} {k j : Nat} {x : Int} (hd : d.length = k) (hk : k ≤ 5) (hj : j < 5) (h : (d ++ List.replicate (5 - k) 0)[j]? = some x) : x = at5 d j := by
  unfold at5
  rcases Nat.lt_or_ge j k with hlt | hge
  · rw [List.getElem?_append_left (by omega)] at h
    rw [h]; rfl
  · rw [List.getElem?_append_right (by omega), List.getElem?_replicate, if_pos (by omega)] at h
    rw [List.getElem?_eq_none (by omega)]
    simpa using h.symm
theorem pad_set {d : List Int} {k : Nat} {x : Int} (hd : d.length = k) (hk : k < 5) : (d ++ List.replicate (5 - k) 0).set k x = (d ++ [x]) ++ List.replicate (5 - (k + 1)) 0 := by
  rw [List.set_append_right _ _ (by omega), hd, Nat.sub_self, show 5 - k = (5 - (k + 1)) + 1 by omega, List.replicate_succ]
  simp
theorem at5_of {d : List Int} {j : Nat} {x : Int} (h : d[j]? = some x) : x = at5 d j := by unfold at5; rw [h]; rfl
theorem readI_many {line : List UInt8} (h : 6 < (parts line 32).length) : readI line = none := by unfold readI; rw [if_pos h]
theorem readI_bad {line : List UInt8} (ha : readArgs ((parts line 32).drop 1) = none) : readI line = none := by
  unfold readI
  split
  · rfl
  · rw [ha]
theorem readI_of {line : List UInt8} {l : List Int} {w : List UInt8} {q : Req} (h : ¬ 6 < (parts line 32).length) (ha : readArgs ((parts line 32).drop 1) = some l) (h0 : (parts line 32)[0]? = some w) (hq : iReq w l = q) :
    readI line = if reqOk q = true ∧ reqLine q = line then some q else none := by
  unfold readI
  rw [if_neg h, ha]
  simp only [head0, h0, Option.getD_some, hq]
theorem readS_long {line : List UInt8} (h : 80 < line.length) : readS line = none := by unfold readS; rw [if_pos h]
theorem readS_bad {line : List UInt8} (ha : readArgs ((parts line 32).drop 1) = none) : readS line = none := by
  unfold readS
  split
  · rfl
  · rw [ha]
theorem readS_of {line : List UInt8} {l : List Int} {w : List UInt8} {q : Req} (h : ¬ 80 < line.length) (ha : readArgs ((parts line 32).drop 1) = some l) (h0 : (parts line 32)[0]? = some w) (hq : sReq w l = q) :
    readS line = if reqLine q = line ∧ line ≠ [] then some q else none := by
  unfold readS
  rw [if_neg h, ha]
  simp only [head0, h0, Option.getD_some, hq]
/-! ### Scripts that are read -/
def readGo : Nat → List Req → List (List UInt8) → List Req × Int
  | _, acc, [] => (acc, -1)
  | i, acc, l :: ls => match readI l with
    | none => ([], (i : Int))
    | some q => readGo (i + 1) (acc ++ [q]) ls
def readScript (s : List UInt8) : List Req × Int :=
  if s = [] then ([], -1) else if 200 < (parts s 10).length then ([], 200) else readGo 0 [] (parts s 10)
theorem readGo_some {k : Nat} {acc : List Req} {l : List UInt8} {ls : List (List UInt8)} (h : (readI l).isSome = true) : readGo k acc (l :: ls) = readGo (k + 1) (acc ++ [optReq (readI l)]) ls := by
  obtain ⟨q, hq⟩ := Option.isSome_iff_exists.1 h
  simp [readGo, hq, optReq]
theorem readGo_none {k : Nat} {acc : List Req} {l : List UInt8} {ls : List (List UInt8)} (h : (readI l).isSome = false) : readGo k acc (l :: ls) = ([], (k : Int)) := by
  have hq : readI l = none := by simpa using h
  simp [readGo, hq]
theorem readGo_len : ∀ (ls : List (List UInt8)) (k : Nat) (acc : List Req), (readGo k acc ls).1.length ≤ acc.length + ls.length
  | [], k, acc => by simp [readGo]
  | l :: ls, k, acc => by
    simp only [readGo]
    split
    · simp
    · have := readGo_len ls (k + 1) (acc ++ [‹Req›])
      simp at this ⊢; omega
theorem readScript_len (s : List UInt8) : (readScript s).1.length ≤ 200 := by
  unfold readScript
  split
  · simp
  · split
    · simp
    · have := readGo_len (parts s 10) 0 []
      simp at this; omega
theorem readScript_of {s : List UInt8} (h : s ≠ []) (h2 : ¬ 200 < (parts s 10).length) : readScript s = readGo 0 [] (parts s 10) := by rw [readScript, if_neg h, if_neg h2]
theorem readScript_big {s : List UInt8} (h : s ≠ []) (h2 : 200 < (parts s 10).length) : readScript s = ([], 200) := by rw [readScript, if_neg h, if_pos h2]
theorem readScript_nil {s : List UInt8} (h : s = []) : readScript s = ([], -1) := by rw [readScript, if_pos h]
theorem set_mid {α : Type} {done ys : List α} {y m : α} {k : Nat} (hd : done.length = k) : (done ++ y :: ys).set k m = (done ++ [m]) ++ ys := by
  rw [List.set_append_right _ _ (by omega), hd, Nat.sub_self]
  simp
end SX
end Go.Proofs.YtpdijcbgdalphabGreatDoor
