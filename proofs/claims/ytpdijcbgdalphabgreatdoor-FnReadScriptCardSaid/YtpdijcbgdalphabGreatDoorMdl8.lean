/- What the two readers of an event's line come to; they agree. No program is in sight. -/
import Derived.Test.YtpdijcbgdalphabGreatDoorMdl7
import Derived.Lib.IndexMore
namespace Go.Proofs.YtpdijcbgdalphabGreatDoor
namespace SX
set_option linter.unusedVariables false
set_option linter.unusedSimpArgs false
open Go Go.RowKit
theorem indexByte_app {c : UInt8} : ∀ {w : List UInt8} (rest : List UInt8), c ∉ w → Lib.indexByte (w ++ c :: rest) c = (w.length : Int)
  | [], rest, _ => by simp [Lib.indexByte]
  | x :: w, rest, h => by
    simp only [List.mem_cons, not_or] at h
    have ih := indexByte_app rest h.2
    simp only [List.cons_append, Lib.indexByte, ih, List.length_cons]
    rw [if_neg (by simp; exact fun e => h.1 e.symm), if_neg (by simp)]
    omega
theorem indexByte_no {c : UInt8} : ∀ {w : List UInt8}, c ∉ w → Lib.indexByte w c = -1
  | [], _ => rfl
  | x :: w, h => by
    simp only [List.mem_cons, not_or] at h
    have ih := indexByte_no h.2
    simp only [Lib.indexByte, ih]
    rw [if_neg (by simp; exact fun e => h.1 e.symm)]
    simp
theorem cut_app {w : List UInt8} (rest : List UInt8) (h : (32 : UInt8) ∉ w) : Lib.cut (w ++ ([32] ++ rest)) [32] = (w, rest, true) := by
  have e : Lib.index (w ++ ([32] ++ rest)) [32] = (w.length : Int) := by rw [Lib.index_one]; exact indexByte_app rest h
  unfold Lib.cut
  rw [e, if_pos (by omega)]
  simp
theorem cut_no {w : List UInt8} (h : (32 : UInt8) ∉ w) : Lib.cut w [32] = (w, [], false) := by
  have e : Lib.index w [32] = -1 := by rw [Lib.index_one]; exact indexByte_no h
  unfold Lib.cut
  rw [e, if_neg (by decide)]
theorem cut_len (s : List UInt8) : (Lib.cut s [32]).1.length ≤ s.length ∧ (Lib.cut s [32]).2.1.length ≤ s.length := by
  unfold Lib.cut
  split
  · simp; omega
  · simp
def numZ (p : List UInt8) : Int := (((number p).getD 0 : Nat) : Int)
def actI (line : List UInt8) : Act :=
  if (Lib.cut line [32]).1 = [108, 97, 121] then ⟨1, optReq (readI (Lib.cut line [32]).2.1), 0, []⟩
  else if (Lib.cut line [32]).1 = [115, 101, 97, 108] then ⟨2, ⟨0, 0, 0, 0, 0, 0⟩, 0, []⟩
  else if (Lib.cut line [32]).1 = [109, 97, 114, 107] then ⟨3, ⟨0, 0, 0, 0, 0, 0⟩, numZ (Lib.cut line [32]).2.1, []⟩
  else if (Lib.cut line [32]).1 = [102, 97, 108, 108] then ⟨4, ⟨0, 0, 0, 0, 0, 0⟩, 0, if (Lib.cut line [32]).2.2 = true then (parts (Lib.cut line [32]).2.1 32).map numZ else []⟩
  else ⟨0, ⟨0, 0, 0, 0, 0, 0⟩, 0, []⟩
def readActI (line : List UInt8) : Option Act := if actOk (actI line) = true ∧ actLine (actI line) = line then some (actI line) else none
def nums (line : List UInt8) : List Int := (readArgs ((parts line 32).drop 1)).getD []
def actS (line : List UInt8) : Act :=
  if head0 (parts line 32) = [108, 97, 121] then (if 4 < line.length then ⟨1, optReq (readS (line.drop 4)), 0, []⟩ else ⟨0, ⟨0, 0, 0, 0, 0, 0⟩, 0, []⟩)
  else if head0 (parts line 32) = [115, 101, 97, 108] then ⟨2, ⟨0, 0, 0, 0, 0, 0⟩, 0, []⟩
  else if head0 (parts line 32) = [109, 97, 114, 107] then ⟨3, ⟨0, 0, 0, 0, 0, 0⟩, at5 (nums line) 0, []⟩
  else if head0 (parts line 32) = [102, 97, 108, 108] then ⟨4, ⟨0, 0, 0, 0, 0, 0⟩, 0, nums line⟩
  else ⟨0, ⟨0, 0, 0, 0, 0, 0⟩, 0, []⟩
def readActS (line : List UInt8) : Option Act :=
  if 90 < line.length then none else if line = [] then none else if actLine (actS line) = line then some (actS line) else none

theorem argOf_num {n : Int} (h0 : 0 ≤ n) (h1 : n ≤ 99999) : argOf (Lib.itoa n) = some n := by
  unfold argOf
  rw [if_neg, number_itoa h0 h1]
  · simp; omega
  · intro e
    have := itoa_no h0 (c := 45) (by decide)
    rw [e] at this
    simp at this
theorem numZ_itoa {n : Int} (h0 : 0 ≤ n) (h1 : n ≤ 99999) : numZ (Lib.itoa n) = n := by
  unfold numZ
  rw [number_itoa h0 h1]
  simp; omega
theorem joinSp_parts {w : List UInt8} (hw : (32 : UInt8) ∉ w) : ∀ (ks : List Int), (∀ x ∈ ks, 0 ≤ x) → parts (joinSp w ks) 32 = w :: ks.map Lib.itoa := by
  intro ks
  -- the text behind the word
  have gen : ∀ (ks : List Int) (out : List UInt8), joinSp out ks = out ++ joinSp [] ks := by
    intro ks
    induction ks with
    | nil => intro out; simp [joinSp]
    | cons x xs ih => intro out; simp only [joinSp]; rw [ih (out ++ _), ih ([] ++ _)]; simp
  induction ks generalizing w with
  | nil => intro _; simp [joinSp, parts_no hw]
  | cons x xs ih =>
    intro h
    have hx := word_no (h x (by simp))
    have ihx := ih hx (fun y hy => h y (by simp [hy]))
    simp only [joinSp]
    rw [gen, List.append_assoc, List.append_assoc, parts_cons _ hw, ← gen, ihx]
    rfl
theorem joinSp_app (w : List UInt8) (x : Int) (xs : List Int) : joinSp w (x :: xs) = w ++ ([32] ++ joinSp (Lib.itoa x) xs) := by
  have gen : ∀ (ks : List Int) (out : List UInt8), joinSp out ks = out ++ joinSp [] ks := by
    intro ks
    induction ks with
    | nil => intro out; simp [joinSp]
    | cons x xs ih => intro out; simp only [joinSp]; rw [ih (out ++ _), ih ([] ++ _)]; simp
  simp only [joinSp]
  rw [gen, gen xs (Lib.itoa x)]
  simp
theorem joinSp_len : ∀ (ks : List Int) (out : List UInt8), (∀ x ∈ ks, 0 ≤ x ∧ x ≤ 99999) → (joinSp out ks).length ≤ out.length + 6 * ks.length
  | [], out, _ => by simp [joinSp]
  | x :: xs, out, h => by
    have h1 := (itoa_short (h x (by simp)).1 (h x (by simp)).2).2
    have ih := joinSp_len xs (out ++ ([32] ++ Lib.itoa x)) (fun y hy => h y (by simp [hy]))
    simp only [joinSp, List.length_append, List.length_cons, List.length_nil] at ih ⊢
    omega
theorem readArgs_keep : ∀ (ks : List Int), (∀ x ∈ ks, 0 ≤ x ∧ x ≤ 99999) → readArgs (ks.map Lib.itoa) = some ks
  | [], _ => rfl
  | x :: xs, h => by
    simp only [List.map_cons, readArgs, argOf_num (h x (by simp)).1 (h x (by simp)).2, readArgs_keep xs (fun y hy => h y (by simp [hy])), Option.map_some]
theorem numZ_keep : ∀ (ks : List Int), (∀ x ∈ ks, 0 ≤ x ∧ x ≤ 99999) → (ks.map Lib.itoa).map numZ = ks
  | [], _ => rfl
  | x :: xs, h => by
    simp only [List.map_cons, numZ_itoa (h x (by simp)).1 (h x (by simp)).2, numZ_keep xs (fun y hy => h y (by simp [hy]))]
theorem allKeep_small : ∀ {l : List Int}, allKeep l = true → ∀ x ∈ l, 0 ≤ x ∧ x ≤ 99999
  | [], _, x, hx => by cases hx
  | y :: l, h, x, hx => by
    simp only [allKeep, Bool.and_eq_true] at h
    rcases List.mem_cons.1 hx with rfl | hx
    · have := h.1; simp [inB] at this; omega
    · exact allKeep_small h.2 x hx
/-- a right event, by its kind -/
theorem actOk_form {a : Act} (h : actOk a = true) : (a.kind = 1 ∧ reqOk a.req = true ∧ a = ⟨1, a.req, 0, []⟩) ∨ a = ⟨2, ⟨0, 0, 0, 0, 0, 0⟩, 0, []⟩ ∨ (0 ≤ a.n ∧ a.n ≤ 9999 ∧ a = ⟨3, ⟨0, 0, 0, 0, 0, 0⟩, a.n, []⟩) ∨ (allKeep a.keep = true ∧ a.keep.length ≤ 3 ∧ a = ⟨4, ⟨0, 0, 0, 0, 0, 0⟩, 0, a.keep⟩) := by
  have hno : ∀ q, noReq q = true → q = ⟨0, 0, 0, 0, 0, 0⟩ := fun q hq => reqEq_eq hq
  obtain ⟨k, q, n, ks⟩ := a
  unfold actOk at h
  simp only at h
  split at h
  · rename_i hk; simp at h hk; subst hk; exact .inl ⟨rfl, h.1, by simp [h.2.1, h.2.2]⟩
  · split at h
    · rename_i hk; simp at h hk; subst hk; exact .inr (.inl (by simp [hno _ h.1, h.2.1, h.2.2]))
    · split at h
      · rename_i hk; simp [usedB, inB] at h hk; subst hk; exact .inr (.inr (.inl ⟨by simp; omega, by simp; omega, by simp [hno _ h.1, h.2.2]⟩))
      · split at h
        · rename_i hk; simp at h hk; subst hk; exact .inr (.inr (.inr ⟨h.1, by simp; omega, by simp [hno _ h.2.1, h.2.2.1]⟩))
        · cases h
theorem act_line {a : Act} (h : actOk a = true) : actI (actLine a) = a ∧ actS (actLine a) = a ∧ (actLine a).length ≤ 90 ∧ actLine a ≠ [] := by
  have hal : actLine a = (if a.kind == 1 then [108, 97, 121, 32] ++ reqLine a.req else if a.kind == 2 then [115, 101, 97, 108] else if a.kind == 3 then [109, 97, 114, 107, 32] ++ Lib.itoa a.n else joinSp [102, 97, 108, 108] a.keep) := by unfold actLine; rw [if_pos h]
  rcases actOk_form h with ⟨h1, h2, h3⟩ | h3 | ⟨h1, h2, h3⟩ | ⟨h1, h2, h3⟩
  · obtain ⟨l, e1, e2, e3, e4, e5⟩ := line_parts h2
    rw [h1] at hal
    simp only [beq_self_eq_true, if_true] at hal
    have hb : actLine a = [108, 97, 121] ++ ([32] ++ reqLine a.req) := hal
    have hc := cut_app (w := [108, 97, 121]) (reqLine a.req) (by decide)
    have hp := parts_cons (a := [108, 97, 121]) (c := 32) (reqLine a.req) (by decide)
    refine ⟨?_, ?_, ?_, ?_⟩
    · rw [hb]
      unfold actI
      rw [hc]
      simp only [if_true, readI_line h2, optReq, Option.getD_some]
      exact h3.symm
    · rw [hb]
      unfold actS
      rw [hp]
      have hne : 0 < (reqLine a.req).length := List.length_pos_iff.2 e5
      simp only [head0, List.getElem?_cons_zero, Option.getD_some, if_true]
      rw [if_pos (by simp; omega)]
      have hd : ([108, 97, 121] ++ ([32] ++ reqLine a.req) : List UInt8).drop 4 = reqLine a.req := rfl
      rw [hd, readS_line h2]
      exact h3.symm
    · rw [hb]; simp; omega
    · rw [hb]; simp
  · rw [h3] at hal
    rw [h3]
    have hb : actLine ⟨2, ⟨0, 0, 0, 0, 0, 0⟩, 0, []⟩ = [115, 101, 97, 108] := by rw [← h3]; rw [h3]; rw [hal]; rfl
    rw [hb]
    exact ⟨by unfold actI; rw [cut_no (by decide)]; simp, by unfold actS nums; rw [parts_no (by decide)]; simp [head0], by decide, by decide⟩
  · have hk : a.kind = 3 := by rw [h3]
    rw [hk] at hal
    have hb : actLine a = [109, 97, 114, 107] ++ ([32] ++ Lib.itoa a.n) := hal
    have hc := cut_app (w := [109, 97, 114, 107]) (Lib.itoa a.n) (by decide)
    have hp := parts_cons (a := [109, 97, 114, 107]) (c := 32) (Lib.itoa a.n) (by decide)
    have hsh := itoa_short h1 (by omega)
    refine ⟨?_, ?_, ?_, ?_⟩
    · have key : actI ([109, 97, 114, 107] ++ ([32] ++ Lib.itoa a.n)) = ⟨3, ⟨0, 0, 0, 0, 0, 0⟩, a.n, []⟩ := by
        unfold actI
        rw [hc]
        simp [numZ_itoa h1 (by omega)]
      rw [hb, key]
      exact h3.symm
    · have key : actS ([109, 97, 114, 107] ++ ([32] ++ Lib.itoa a.n)) = ⟨3, ⟨0, 0, 0, 0, 0, 0⟩, a.n, []⟩ := by
        unfold actS nums
        rw [hp, parts_no (word_no h1)]
        simp [head0, readArgs, argOf_num h1 (by omega), at5]
      rw [hb, key]
      exact h3.symm
    · rw [hb]; simp; omega
    · rw [hb]; simp
  · have hk : a.kind = 4 := by rw [h3]
    rw [hk] at hal
    have hb : actLine a = joinSp [102, 97, 108, 108] a.keep := hal
    have hsm := allKeep_small h1
    have hp := joinSp_parts (w := [102, 97, 108, 108]) (by decide) a.keep (fun x hx => (hsm x hx).1)
    have hlen := joinSp_len a.keep [102, 97, 108, 108] hsm
    refine ⟨?_, ?_, ?_, ?_⟩
    · rw [hb]
      have hc : (Lib.cut (joinSp [102, 97, 108, 108] a.keep) [32]).1 = [102, 97, 108, 108] ∧ (if (Lib.cut (joinSp [102, 97, 108, 108] a.keep) [32]).2.2 = true then (parts (Lib.cut (joinSp [102, 97, 108, 108] a.keep) [32]).2.1 32).map numZ else []) = a.keep := by
        cases hks : a.keep with
        | nil => simp [joinSp, cut_no (w := [102, 97, 108, 108]) (by decide)]
        | cons x xs =>
          rw [hks] at hsm
          simp only [joinSp_app, cut_app (w := [102, 97, 108, 108]) _ (by decide)]
          refine ⟨trivial, ?_⟩
          simp only [if_true]
          rw [joinSp_parts (word_no (hsm x (by simp)).1) xs (fun y hy => (hsm y (by simp [hy])).1), ← List.map_cons (f := Lib.itoa)]
          exact numZ_keep _ hsm
      have key : actI (joinSp [102, 97, 108, 108] a.keep) = ⟨4, ⟨0, 0, 0, 0, 0, 0⟩, 0, a.keep⟩ := by
        unfold actI
        rw [hc.1, hc.2]
        simp
      rw [key]
      exact h3.symm
    · have key : actS (joinSp [102, 97, 108, 108] a.keep) = ⟨4, ⟨0, 0, 0, 0, 0, 0⟩, 0, a.keep⟩ := by
        unfold actS nums
        rw [hp]
        simp [head0, readArgs_keep _ hsm]
      rw [hb, key]
      exact h3.symm
    · rw [hb]; simp at hlen ⊢; omega
    · rw [hb]
      cases hks : a.keep with
      | nil => simp [joinSp]
      | cons x xs => rw [joinSp_app]; simp
theorem readAct_eq (line : List UInt8) : readActI line = readActS line := by
  cases hi : readActI line with
  | some a =>
    unfold readActI at hi
    split at hi
    · rename_i hc
      injection hi with hi
      rw [hi] at hc
      obtain ⟨h1, h2, h3, h4⟩ := act_line hc.1
      rw [hc.2] at h2 h3 h4
      unfold readActS
      rw [if_neg (by omega), if_neg h4, h2, if_pos hc.2]
    · cases hi
  | none =>
    cases hs : readActS line with
    | none => rfl
    | some a =>
      exfalso
      unfold readActS at hs
      split at hs
      · cases hs
      · split at hs
        · cases hs
        · rename_i hne
          split at hs
          · rename_i hc
            injection hs with hs
            rw [hs] at hc
            have hok : actOk a = true := by
              have : actLine a ≠ [] := by rw [hc]; exact hne
              unfold actLine at this
              split at this
              · assumption
              · exact absurd rfl this
            obtain ⟨h1, h2, h3, h4⟩ := act_line hok
            rw [hc] at h1
            unfold readActI at hi
            rw [h1, if_pos ⟨hok, hc⟩] at hi
            cases hi
          · cases hs
/-! ### For the walks -/
def optAct (o : Option Act) : Act := o.getD ⟨0, ⟨0, 0, 0, 0, 0, 0⟩, 0, []⟩
theorem optAct_len (line : List UInt8) : (optAct (readActI line)).keep.length ≤ 3 := by
  unfold optAct
  cases h : readActI line with
  | none => simp
  | some a =>
    unfold readActI at h
    split at h
    · rename_i hc
      injection h with h
      rw [h] at hc
      exact (actOk_rng hc.1).2.2.2.1
    · cases h
theorem at5_none {d : List Int} (h : ¬ 0 < d.length) : at5 d 0 = 0 := by
  have : d = [] := List.eq_nil_of_length_eq_zero (by omega)
  subst this
  rfl
def heldAct (a : Act) (z : Int) : Int := if heldInts a.keep z < 0 then -1 else heldInts a.keep z
/-! ### Draws -/
theorem tmod_rng {a n : Int} (h0 : 0 ≤ a) (hn : 0 < n) : 0 ≤ Int.tmod a n ∧ (n ≤ 0 → Int.tmod a n = 0) ∧ (0 < n → Int.tmod a n < n) := by
  rw [Int.tmod_eq_emod_of_nonneg h0]
  have h1 := Int.emod_nonneg a (show n ≠ 0 by omega)
  have h2 := Int.emod_lt_of_pos a hn
  exact ⟨h1, fun h => by omega, fun _ => h2⟩
theorem four_bytes {x y z w : Int} (hx : 0 ≤ x ∧ x < 256) (hy : 0 ≤ y ∧ y < 256) (hz : 0 ≤ z ∧ z < 256) (hw : 0 ≤ w ∧ w < 256) : 0 ≤ wr (wr (wr (wr (x * 16777216) + wr (y * 65536)) + wr (z * 256)) + w) := by
  rw [wr_of (x := x * 16777216) (by omega) (by omega), wr_of (x := y * 65536) (by omega) (by omega), wr_of (x := z * 256) (by omega) (by omega), wr_of (x := x * 16777216 + y * 65536) (by omega) (by omega),
    wr_of (x := x * 16777216 + y * 65536 + z * 256) (by omega) (by omega), wr_of (by omega) (by omega)]
  omega
theorem codeWord_no (c : Int) : (32 : UInt8) ∉ codeWord c := by
  unfold codeWord
  split
  · rcases Nat.lt_or_ge c.toNat codeWords.length with h | h
    · rw [List.getElem?_eq_getElem h]
      have : ∀ x ∈ codeWords, (32 : UInt8) ∉ x := by decide
      exact this _ (List.getElem_mem h)
    · rw [List.getElem?_eq_none h]; simp
  · decide
theorem reply_parts {r : Reply} (h : ∀ y ∈ r.ids, 0 ≤ y ∧ y < 13) : parts (replyLine r) 32 = codeWord r.code :: r.ids.map Lib.itoa := joinSp_parts (codeWord_no _) _ (fun x hx => (h x hx).1)
theorem reply_head {r : Reply} (h : ∀ y ∈ r.ids, 0 ≤ y ∧ y < 13) {x : List UInt8} (hx : (parts (replyLine r) 32)[0]? = some x) : x = codeWord r.code := by
  rw [reply_parts h] at hx
  simpa using hx.symm
theorem reply_tail {r : Reply} (h : ∀ y ∈ r.ids, 0 ≤ y ∧ y < 13) {k : Nat} {x : List UInt8} {y : Int} (hx : (parts (replyLine r) 32)[k + 1]? = some x) (hy : r.ids[k]? = some y) : number x = some y.toNat ∧ 0 ≤ y := by
  rw [reply_parts h, List.getElem?_cons_succ, List.getElem?_map, hy] at hx
  have hb := h y (List.mem_of_getElem? hy)
  simp only [Option.map_some, Option.some.injEq] at hx
  rw [← hx]
  exact ⟨number_itoa hb.1 (by omega), hb.1⟩
theorem reply_len {r : Reply} (h : ∀ y ∈ r.ids, 0 ≤ y ∧ y < 13) : (parts (replyLine r) 32).length = 1 + r.ids.length := by rw [reply_parts h]; simp; omega
theorem reply_short {r : Reply} (h : ∀ y ∈ r.ids, 0 ≤ y ∧ y < 13) (hl : r.ids.length ≤ 3) : (replyLine r).length ≤ 1048576 := by
  have h1 := joinSp_len r.ids (codeWord r.code) (fun x hx => by have := h x hx; omega)
  have h2 := codeWord_len r.code
  unfold replyLine
  omega
end SX
end Go.Proofs.YtpdijcbgdalphabGreatDoor
