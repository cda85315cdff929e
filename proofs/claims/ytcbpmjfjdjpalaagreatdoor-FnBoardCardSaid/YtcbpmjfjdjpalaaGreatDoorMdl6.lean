/- Texts of this claim, put together by program. -/
import Derived.Test.YtcbpmjfjdjpalaaGreatDoorMdl2
import Derived.Test.YtcbpmjfjdjpalaaGreatDoorSxt
import Derived.Lib.Join
import Derived.Test.YtcbpmjfjdjpalaaGreatDoorMdlp
import Derived.Lib.Split
import Derived.Lib.SplitLaws
import Derived.Lib.IndexBytes
import Derived.Lib.IndexLaws
/- What the functions on lines come to, in plain Lean. It imports no program. -/
namespace Go.Proofs.YtcbpmjfjdjpalaaGreatDoor
namespace SX
set_option linter.unusedVariables false
set_option linter.unusedSimpArgs false
structure Standing where
  state : Int
  cabin : Int
  level : Int
  place : Int
  left : Int
  asked : Int
end SX
end Go.Proofs.YtcbpmjfjdjpalaaGreatDoor
/- What the functions on lines of requests and events come to, in plain Lean. It imports no program. -/
namespace Go.Proofs.YtcbpmjfjdjpalaaGreatDoor
namespace SX
set_option linter.unusedVariables false
set_option linter.unusedSimpArgs false
end SX
end Go.Proofs.YtcbpmjfjdjpalaaGreatDoor
/- What the functions on replies and scripts come to, in plain Lean. It imports no program. -/
namespace Go.Proofs.YtcbpmjfjdjpalaaGreatDoor
namespace SX
set_option linter.unusedVariables false
set_option linter.unusedSimpArgs false
open Go Go.RowKit
structure Reply where
  code : Int
  ids : List Int
/-! ### Scripts -/
end SX
end Go.Proofs.YtcbpmjfjdjpalaaGreatDoor
/- Boards: the waiting parties of a cabin as a line; in plain Lean. It imports no program. -/
namespace Go.Proofs.YtcbpmjfjdjpalaaGreatDoor
namespace SX
set_option linter.unusedVariables false
set_option linter.unusedSimpArgs false
open Go Go.RowKit
theorem insL_memG {α : Type} {lt : α → α → Bool} {l : List α} {e x : α} (h : x ∈ insL lt l e) : x = e ∨ x ∈ l := by
  induction l with
  | nil => simp [insL] at h; exact .inl h
  | cons y l ih =>
    unfold insL at h
    split at h
    · rcases List.mem_cons.1 h with rfl | h
      · simp
      · rcases ih h with rfl | h <;> simp [*]
    · simpa using h
theorem queueOf_mem {r : Rules} {cabin now : Int} : ∀ {list : List Party} {e : Entry}, e ∈ queueOf r list cabin now → ∃ p ∈ list, entryOk r p now = true ∧ p.cabin = cabin ∧ e = entryOf r p now
  | [], e, h => by simp [queueOf] at h
  | p :: ps, e, h => by
    unfold queueOf at h
    split at h
    · rename_i hc
      simp only [Bool.and_eq_true, beq_iff_eq] at hc
      rw [qIns_eq] at h
      rcases insL_memG h with rfl | h
      · exact ⟨p, by simp, hc.1, hc.2, rfl⟩
      · obtain ⟨q, hq, h2⟩ := queueOf_mem h
        exact ⟨q, by simp [hq], h2⟩
    · obtain ⟨q, hq, h2⟩ := queueOf_mem h
      exact ⟨q, by simp [hq], h2⟩
theorem atId_nn {l : List Party} {id : Int} {p : Party} (hp : p ∈ l) (hi : p.id = id) : 0 ≤ atId l id := by
  obtain ⟨h1, h2⟩ := idxF_none (q := fun e : Party => e.id == id) l 0
  rcases h2 with h2 | h2
  · have := h1.1 h2 p hp
    simp [hi] at this
  · exact h2
/-- an entry of a right house's row is a party's -/
theorem row_party {h : House} {k : Nat} {c : Cabin} {e : Entry} (hh : houseOk h = true) (hc : h.cabins[k]? = some c) (he : e ∈ c.row) : 0 ≤ atId h.parties e.id ∧ 1 ≤ e.id ∧ e.id ≤ 999 ∧ c.row.length ≤ 10 := by
  obtain ⟨_, _, _, _, _, _, _, h8⟩ := houseP_of hh
  have ha := (h8 k c hc).2.1
  simp only [agrees, Bool.and_eq_true, cabinOk] at ha
  obtain ⟨⟨⟨⟨⟨⟨_, hq⟩, _⟩, hr⟩, _⟩, _⟩, _⟩ := ha
  have hq := queueP_of hq
  have hrow := (sameRow_iff _ _).1 hr
  obtain ⟨i, hi⟩ := List.mem_iff_getElem?.1 he
  have hR := (hq.2 i e hi).1.2.2.1
  simp only [inB, Bool.and_eq_true, decide_eq_true_eq] at hR
  rw [hrow] at he
  obtain ⟨p, hp, h1, h2, h3⟩ := queueOf_mem he
  refine ⟨atId_nn hp ?_, hR.1, hR.2, hq.1⟩
  rw [h3]
  simp [entryOf, h1]
def starB (h : House) (id : Int) : Bool := match h.parties[(atId h.parties id).toNat]? with
  | some p => restingB p h.now
  | none => false
theorem starB_of {h : House} {id : Int} {p : Party} (hp : h.parties[(atId h.parties id).toNat]? = some p) : starB h id = restingB p h.now := by simp [starB, hp]
def partB (h : House) (e : Entry) : List UInt8 := if starB h e.id then Lib.itoa e.id ++ [42] else Lib.itoa e.id
theorem partB_t {h : House} {e : Entry} (hs : starB h e.id = true) : partB h e = Lib.itoa e.id ++ [42] := by simp [partB, hs]
theorem partB_f {h : House} {e : Entry} (hs : starB h e.id = false) : partB h e = Lib.itoa e.id := by simp [partB, hs]
theorem joinS_len : ∀ (ls : List (List UInt8)) (m : Nat), (∀ x ∈ ls, x.length ≤ m) → (Lib.join ls [32]).length ≤ (m + 1) * ls.length
  | [], m, _ => by simp [Lib.join_nil]
  | x :: l, m, h => by
    rw [Lib.join_cons]
    have h1 := h x (by simp)
    have h2 : ∀ (l : List (List UInt8)), (∀ x ∈ l, x.length ≤ m) → (Lib.joinTail [32] l).length ≤ (m + 1) * l.length := by
      intro l
      induction l with
      | nil => intro _; simp [Lib.joinTail]
      | cons y l ih =>
        intro hl
        have h3 := hl y (by simp)
        have h4 := ih fun z hz => hl z (by simp [hz])
        simp only [Lib.joinTail, List.map_cons, List.flatten_cons, List.length_append, List.length_cons, List.length_nil, Nat.mul_add] at h4 ⊢
        omega
    have h5 := h2 l fun z hz => h z (by simp [hz])
    simp only [List.length_append, List.length_cons, Nat.mul_add] at h5 ⊢
    omega
def boardB (h : House) (row : List Entry) : List UInt8 := Lib.join (row.map (partB h)) [32]
noncomputable def boardLine (h : House) (cabin : Int) : List UInt8 :=
  if hasCab h cabin then match h.cabins[cabin.toNat]? with
    | some c => if c.row = [] then [45] else boardB h c.row
    | none => []
  else []
theorem boardLine_no {h : House} {cabin : Int} (hb : hasCab h cabin = false) : boardLine h cabin = [] := by simp [boardLine, hb]
theorem boardLine_nil {h : House} {cabin : Int} {c : Cabin} (hb : hasCab h cabin = true) (hc : h.cabins[cabin.toNat]? = some c) (hr : c.row = []) : boardLine h cabin = [45] := by simp [boardLine, hb, hc, hr]
theorem boardLine_of {h : House} {cabin : Int} {c : Cabin} (hb : hasCab h cabin = true) (hc : h.cabins[cabin.toNat]? = some c) (hr : c.row ≠ []) : boardLine h cabin = boardB h c.row := by simp [boardLine, hb, hc, hr]
theorem hasCab_ok {h : House} {cabin : Int} (hb : hasCab h cabin = true) : houseOk h = true := by
  simp only [hasCab, Bool.and_eq_true] at hb; exact hb.1
theorem partB_len (h : House) {e : Entry} (he : i64R e.id) : (partB h e).length ≤ 22 := by
  have := itoa_len he
  unfold partB
  split <;> simp <;> omega
theorem parts_1 {h : House} {row : List Entry} {k : Nat} {e : Entry} (he : row[k]? = some e) (hs : starB h e.id = true) : (row.take k).map (partB h) ++ [Lib.itoa e.id ++ [42]] = (row.take (k + 1)).map (partB h) := by
  rw [List.take_add_one, he]; simp [partB_t hs]
theorem parts_0 {h : House} {row : List Entry} {k : Nat} {e : Entry} (he : row[k]? = some e) (hs : starB h e.id = false) : (row.take k).map (partB h) ++ [Lib.itoa e.id] = (row.take (k + 1)).map (partB h) := by
  rw [List.take_add_one, he]; simp [partB_f hs]
theorem boardLine_parts {h : House} {cabin : Int} {c : Cabin} {k : Nat} {out : List (List UInt8)} (hb : hasCab h cabin = true) (hc : h.cabins[cabin.toNat]? = some c) (hk : k = c.row.length) (ho : out = (c.row.take k).map (partB h)) : (out.length = 0 → boardLine h cabin = [45]) ∧ (out.length ≠ 0 → boardLine h cabin = Lib.join out [32]) := by
  subst hk; rw [List.take_length] at ho
  refine ⟨fun h0 => ?_, fun h0 => ?_⟩
  · exact boardLine_nil hb hc (by rw [ho] at h0; simpa using h0)
  · rw [boardLine_of hb hc (fun h9 => by rw [ho, h9] at h0; simp at h0), ho]; rfl
end SX
end Go.Proofs.YtcbpmjfjdjpalaaGreatDoor
/- What the functions that read lines come to; marks. No program is in sight. -/
namespace Go.Proofs.YtcbpmjfjdjpalaaGreatDoor
namespace SX
set_option linter.unusedVariables false
set_option linter.unusedSimpArgs false
open Go Go.RowKit
/-! ### Marks -/
/-! ### Numerals -/
def digitsGo : Nat → List UInt8 → Option Nat
  | n, [] => some n
  | n, c :: cs => if c.toNat < 48 ∨ 57 < c.toNat then none else digitsGo (10 * n + (c.toNat - 48)) cs
/-- the number that a text is: at most six digits -/
def number (s : List UInt8) : Option Nat :=
  if s.length < 1 ∨ 6 < s.length then none else
  match digitsGo 0 s with
  | some n => if Lib.itoa (n : Int) = s then some n else none
  | none => none
theorem dec_chars (u : Nat) : ∀ c ∈ Lib.decDigits u, 48 ≤ c.toNat ∧ c.toNat ≤ 57 := by
  induction u using Nat.strongRecOn with
  | ind u ih =>
    intro c hc
    rw [Lib.decDigits] at hc
    split at hc
    · simp at hc; subst hc; simp; omega
    · rcases List.mem_append.1 hc with hc | hc
      · exact ih (u / 10) (by omega) c hc
      · simp at hc; subst hc; simp; omega
theorem itoa_nat (n : Nat) : Lib.itoa (n : Int) = Lib.decDigits n := by unfold Lib.itoa; rw [if_neg (by omega)]; rfl
theorem itoa_chars {n : Int} (h : 0 ≤ n) : ∀ c ∈ Lib.itoa n, 48 ≤ c.toNat ∧ c.toNat ≤ 57 := by
  obtain ⟨m, rfl⟩ := Int.eq_ofNat_of_zero_le h
  rw [itoa_nat]; exact dec_chars m
theorem itoa_no {n : Int} (h : 0 ≤ n) {c : UInt8} (hc : c.toNat < 48) : c ∉ Lib.itoa n := fun hm => by have := itoa_chars h c hm; omega
/-! ### Parts -/
def partsGo (by' : UInt8) : List UInt8 → List UInt8 → List (List UInt8)
  | cur, [] => [cur]
  | cur, c :: cs => if c = by' then cur :: partsGo by' [] cs else partsGo by' (cur ++ [c]) cs
def parts (s : List UInt8) (by' : UInt8) : List (List UInt8) := partsGo by' [] s
theorem partsGo_no {c : UInt8} : ∀ (a cur rest : List UInt8), c ∉ a → partsGo c cur (a ++ rest) = partsGo c (cur ++ a) rest
  | [], cur, rest, _ => by simp
  | x :: a, cur, rest, h => by
    simp only [List.mem_cons, not_or] at h
    simp only [List.cons_append, partsGo, if_neg (fun e : x = c => h.1 e.symm), partsGo_no a (cur ++ [x]) rest h.2, List.append_assoc, List.nil_append]
theorem parts_no {c : UInt8} {a : List UInt8} (h : c ∉ a) : parts a c = [a] := by
  have := partsGo_no a [] [] h
  simpa [parts, partsGo] using this
theorem parts_cons {c : UInt8} {a : List UInt8} (b : List UInt8) (h : c ∉ a) : parts (a ++ ([c] ++ b)) c = a :: parts b c := by
  unfold parts
  rw [partsGo_no a [] _ h]
  simp [partsGo]
theorem partsGo_len (c : UInt8) : ∀ (s cur : List UInt8), 1 ≤ (partsGo c cur s).length ∧ (partsGo c cur s).length ≤ s.length + 1
  | [], cur => by simp [partsGo]
  | x :: s, cur => by
    simp only [partsGo]
    split
    · have := partsGo_len c s []; simp; omega
    · have := partsGo_len c s (cur ++ [x]); simp; omega
theorem parts_len (s : List UInt8) (c : UInt8) : 1 ≤ (parts s c).length ∧ (parts s c).length ≤ s.length + 1 := partsGo_len c s []
theorem byte_eq {x c : UInt8} (h : (x.toNat : Int) = (c.toNat : Int)) : x = c := UInt8.toNat_inj.1 (by omega)
theorem parts_last {s : List UInt8} {c : UInt8} {out : List (List UInt8)} {fr i : Nat} (fr' : Nat) (h1 : fr ≤ i) (h : parts s c = out ++ partsGo c ((s.drop fr).take (i - fr)) (s.drop i)) (he : i = s.length) :
    (i + 1 ≤ s.length ∧ fr' ≤ i + 1 ∧ parts s c = (out ++ [(s.drop fr).take (i - fr)]) ++ partsGo c ((s.drop fr').take (i + 1 - fr')) (s.drop (i + 1))) ∨ (i + 1 = s.length + 1 ∧ parts s c = out ++ [(s.drop fr).take (i - fr)]) := by
  refine .inr ⟨by omega, ?_⟩
  rw [h, List.drop_eq_nil_of_le (show s.length ≤ i by omega)]
  rfl
theorem parts_hit {s : List UInt8} {c x : UInt8} {out : List (List UInt8)} {fr i : Nat} (h1 : fr ≤ i) (h : parts s c = out ++ partsGo c ((s.drop fr).take (i - fr)) (s.drop i)) (hx : s[i]? = some x) (he : (x.toNat : Int) = (c.toNat : Int)) :
    (i + 1 ≤ s.length ∧ i + 1 ≤ i + 1 ∧ parts s c = (out ++ [(s.drop fr).take (i - fr)]) ++ partsGo c ((s.drop (i + 1)).take (i + 1 - (i + 1))) (s.drop (i + 1))) ∨ (i + 1 = s.length + 1 ∧ parts s c = out ++ [(s.drop fr).take (i - fr)]) := by
  have hlt : i < s.length := (List.getElem?_eq_some_iff.1 hx).1
  have hxe : s[i] = x := (List.getElem?_eq_some_iff.1 hx).2
  refine .inl ⟨by omega, by omega, ?_⟩
  rw [h, List.drop_eq_getElem_cons hlt, hxe, byte_eq he]
  simp [partsGo]
theorem parts_step {s : List UInt8} {c x : UInt8} {out : List (List UInt8)} {fr i : Nat} (h1 : fr ≤ i) (h : parts s c = out ++ partsGo c ((s.drop fr).take (i - fr)) (s.drop i)) (hx : s[i]? = some x) (he : ¬ (x.toNat : Int) = (c.toNat : Int)) :
    (i + 1 ≤ s.length ∧ fr ≤ i + 1 ∧ parts s c = out ++ partsGo c ((s.drop fr).take (i + 1 - fr)) (s.drop (i + 1))) ∨ (i + 1 = s.length + 1 ∧ parts s c = out) := by
  have hlt : i < s.length := (List.getElem?_eq_some_iff.1 hx).1
  have hxe : s[i] = x := (List.getElem?_eq_some_iff.1 hx).2
  refine .inl ⟨by omega, by omega, ?_⟩
  have hcur : (s.drop fr).take (i + 1 - fr) = (s.drop fr).take (i - fr) ++ [x] := by
    rw [show i + 1 - fr = (i - fr) + 1 by omega, List.take_add_one, List.getElem?_drop, show fr + (i - fr) = i by omega, hx]
    rfl
  rw [h, List.drop_eq_getElem_cons hlt, hxe, hcur]
  simp only [partsGo]
  rw [if_neg (fun e => he (by rw [e]))]
theorem splitK_parts (c : UInt8) : ∀ (k : Nat) (s : List UInt8), s.count c = k → Lib.splitK [c] 0 k s = parts s c
  | 0, s, h => by
    rw [Lib.splitK, parts_no (List.count_eq_zero.1 h)]
  | k + 1, s, h => by
    rw [Lib.splitK, Lib.index_one]
    by_cases hm : Lib.indexByte s c = -1
    · exfalso
      have hin : c ∈ s := List.count_pos_iff.1 (by omega)
      obtain ⟨j, hj⟩ := List.getElem?_of_mem hin
      exact Lib.indexByte_none hm j hj
    · have hge := Lib.indexByte_ge s c
      obtain ⟨o, ho⟩ : ∃ o : Nat, Lib.indexByte s c = o := ⟨(Lib.indexByte s c).toNat, by omega⟩
      obtain ⟨h1, h2⟩ := Lib.indexByte_some ho
      have hlt : o < s.length := (List.getElem?_eq_some_iff.1 h1).1
      rw [ho, if_neg (by simp)]
      have hs : s = s.take o ++ ([c] ++ s.drop (o + 1)) := by
        have he : s[o] = c := (List.getElem?_eq_some_iff.1 h1).2
        conv => lhs; rw [← List.take_append_drop o s, List.drop_eq_getElem_cons hlt, he]
        rfl
      have hno : c ∉ s.take o := by
        intro hin
        obtain ⟨j, hj⟩ := List.getElem?_of_mem hin
        rw [List.getElem?_take] at hj
        split at hj
        · rename_i hjo; exact h2 j hjo hj
        · cases hj
      have hcount : (s.drop (o + 1)).count c = k := by
        have hc := congrArg (List.count c) hs
        rw [List.count_append, List.count_append, List.count_eq_zero.2 hno] at hc
        simp at hc
        omega
      have ih := splitK_parts c k (s.drop (o + 1)) hcount
      have hp := parts_cons (s.drop (o + 1)) hno
      rw [← hs] at hp
      rw [hp]
      simp only [Int.toNat_natCast, Nat.add_zero, List.length_singleton]
      rw [ih]
end SX
end Go.Proofs.YtcbpmjfjdjpalaaGreatDoor
