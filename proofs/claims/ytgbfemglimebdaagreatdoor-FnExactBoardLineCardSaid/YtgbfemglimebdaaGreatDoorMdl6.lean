/- What the functions that read lines come to; marks. No program is in sight. -/
import Derived.Test.YtgbfemglimebdaaGreatDoorMdl5
import Derived.Lib.Split
import Derived.Lib.SplitLaws
import Derived.Lib.IndexBytes
import Derived.Lib.IndexLaws
namespace Go.Proofs.YtgbfemglimebdaaGreatDoor
namespace SX
set_option linter.unusedVariables false
set_option linter.unusedSimpArgs false
open Go Go.RowKit
/-! ### Marks -/
def markInts : List Int → Int → List Int × Int
  | [], k => ([], k)
  | _ :: xs, k => (k :: (markInts xs (wr (k + 1))).1, (markInts xs (wr (k + 1))).2)
def heldInts : List Int → Int → Int
  | [], k => k
  | x :: xs, k => if x != k then -1 else heldInts xs (wr (k + 1))
theorem held_mark : ∀ (xs : List Int) (k : Int), heldInts (markInts xs k).1 k = (markInts xs k).2
  | [], k => rfl
  | x :: xs, k => by simp [markInts, heldInts, held_mark xs]
theorem mark_len : ∀ (xs : List Int) (k : Int), (markInts xs k).1.length = xs.length
  | [], k => rfl
  | x :: xs, k => by simp [markInts, mark_len xs]
theorem mark_end : ∀ (xs : List Int) (k : Int), 0 ≤ k → k + xs.length ≤ 9223372036854775807 → (markInts xs k).2 = k + xs.length
  | [], k, _, _ => by simp [markInts]
  | x :: xs, k, h0, h1 => by
    simp only [List.length_cons] at h1
    simp only [markInts, List.length_cons]
    rw [wr_of (by omega) (by omega), mark_end xs (k + 1) (by omega) (by omega)]
    omega
def inc (k : Int) : Int := wr (k + 1)
def reqFs (q : Req) : List Int := [q.kind, q.id, q.cabin, q.from', q.size, q.tier]
def markReqs : List Req → Int → List Req × Int
  | [], k => ([], k)
  | _ :: xs, k => let k1 := wr (k + 1); let k2 := wr (k1 + 1); let k3 := wr (k2 + 1); let k4 := wr (k3 + 1); let k5 := wr (k4 + 1); let k6 := wr (k5 + 1)
    (⟨k, k1, k2, k3, k4, k5⟩ :: (markReqs xs k6).1, (markReqs xs k6).2)
def heldReqs (xs : List Req) (k : Int) : Int := heldInts (xs.flatMap reqFs) k
theorem held_marks : ∀ (xs : List Req) (k : Int), heldReqs (markReqs xs k).1 k = (markReqs xs k).2
  | [], k => rfl
  | x :: xs, k => by
    have := held_marks xs
    simp only [heldReqs] at this
    simp [markReqs, heldReqs, heldInts, reqFs, this]
theorem marks_len : ∀ (xs : List Req) (k : Int), (markReqs xs k).1.length = xs.length
  | [], k => rfl
  | x :: xs, k => by simp [markReqs, marks_len xs]
theorem marks_end : ∀ (xs : List Req) (k : Int), 0 ≤ k → k + 6 * xs.length ≤ 9223372036854775807 → (markReqs xs k).2 = k + 6 * xs.length
  | [], k, _, _ => by simp [markReqs]
  | x :: xs, k, h0, h1 => by
    simp only [List.length_cons] at h1
    simp only [markReqs, List.length_cons]
    rw [wr_of (x := k + 1) (by omega) (by omega), wr_of (x := k + 1 + 1) (by omega) (by omega), wr_of (x := k + 1 + 1 + 1) (by omega) (by omega), wr_of (x := k + 1 + 1 + 1 + 1) (by omega) (by omega), wr_of (x := k + 1 + 1 + 1 + 1 + 1) (by omega) (by omega), wr_of (x := k + 1 + 1 + 1 + 1 + 1 + 1) (by omega) (by omega), marks_end xs _ (by omega) (by omega)]
    omega

/-! ### Numerals -/
def digitsGo : Nat → List UInt8 → Option Nat
  | n, [] => some n
  | n, c :: cs => if c.toNat < 48 ∨ 57 < c.toNat then none else digitsGo (10 * n + (c.toNat - 48)) cs
/-- the number that a text is: at most six digits -/
def number (s : List UInt8) : Option Nat :=
  if s.length < 1 ∨ 6 < s.length then none else
  match digitsGo 0 s with
  | some n => if Lib.itoa (n : Int) = s then some n else none
  | none => none
def p10 : Nat → Nat
  | 0 => 1
  | k + 1 => 10 * p10 k
theorem p10_max : ∀ {k : Nat}, k ≤ 6 → p10 k ≤ 1000000
  | 0, _ => by decide
  | 1, _ => by decide
  | 2, _ => by decide
  | 3, _ => by decide
  | 4, _ => by decide
  | 5, _ => by decide
  | 6, _ => by decide
  | k + 7, h => by omega
theorem v8sub {x m : Nat} (h : m ≤ x ∧ x < 256) : Value.int .u8 (IntKind.wrap .u8 ((x : Int) - (m : Int))) = .int .u8 ((x - m : Nat) : Int) := by
  congr 1
  have h2 : IntKind.wrap .u8 ((x : Int) - (m : Int)) = ((x : Int) - (m : Int)) % 256 := by simp [IntKind.wrap, IntKind.bits, IntKind.signed]
  rw [h2]
  omega
theorem v8sub48 {x : Nat} (h : 48 ≤ x ∧ x < 256) : Value.int .u8 (IntKind.wrap .u8 ((x : Int) - 48)) = .int .u8 ((x - 48 : Nat) : Int) := v8sub (m := 48) h
theorem p10_le : ∀ {k : Nat}, k < 6 → p10 (k + 1) = 10 * p10 k ∧ p10 k ≤ 100000
  | 0, _ => by decide
  | 1, _ => by decide
  | 2, _ => by decide
  | 3, _ => by decide
  | 4, _ => by decide
  | 5, _ => by decide
  | k + 6, h => by omega
theorem digitsGo_append : ∀ (l : List UInt8) (a : Nat) (c : UInt8), digitsGo a (l ++ [c]) = (digitsGo a l).bind fun m => digitsGo m [c]
  | [], a, c => rfl
  | x :: l, a, c => by
    simp only [List.cons_append, digitsGo]
    split
    · rfl
    · exact digitsGo_append l _ c
theorem digit_ok (d : Nat) (h : d < 10) (m : Nat) : digitsGo m [UInt8.ofNat (48 + d)] = some (10 * m + d) := by
  have : (UInt8.ofNat (48 + d)).toNat = 48 + d := by rw [UInt8.toNat_ofNat']; omega
  simp only [digitsGo, this]
  rw [if_neg (by omega)]
  congr 1
  omega
theorem digitsGo_dec (u : Nat) : digitsGo 0 (Lib.decDigits u) = some u := by
  induction u using Nat.strongRecOn with
  | ind u ih =>
    rw [Lib.decDigits]
    split
    · rename_i h; rw [digit_ok u h]; congr 1; omega
    · rename_i h
      rw [digitsGo_append, ih (u / 10) (by omega)]
      simp only [Option.bind_some]
      rw [digit_ok (u % 10) (by omega)]
      congr 1
      omega
theorem dec_len_le : ∀ (k u : Nat), u < 10 ^ (k + 1) → 1 ≤ (Lib.decDigits u).length ∧ (Lib.decDigits u).length ≤ k + 1
  | 0, u, h => by rw [Lib.decDigits, dif_pos (by omega)]; simp
  | k + 1, u, h => by
    rw [Lib.decDigits]
    split
    · simp
    · have := dec_len_le k (u / 10) (by rw [Nat.pow_succ] at h; exact Nat.div_lt_of_lt_mul (by rw [Nat.mul_comm]; exact h))
      simp; omega
theorem dec_chars (u : Nat) : ∀ c ∈ Lib.decDigits u, 48 ≤ c.toNat ∧ c.toNat ≤ 57 := by
  induction u using Nat.strongRecOn with
  | ind u ih =>
    intro c hc
    rw [Lib.decDigits] at hc
    split at hc
    · simp at hc; subst hc; simp; omega
    · rcases List.mem_append.1 hc with hc | hc
      · exact ih (u / 10) (by omega) c hc
      · simp at hc; subst hc; simp; omega
theorem itoa_nat (n : Nat) : Lib.itoa (n : Int) = Lib.decDigits n := by unfold Lib.itoa; rw [if_neg (by omega)]; rfl
theorem itoa_chars {n : Int} (h : 0 ≤ n) : ∀ c ∈ Lib.itoa n, 48 ≤ c.toNat ∧ c.toNat ≤ 57 := by
  obtain ⟨m, rfl⟩ := Int.eq_ofNat_of_zero_le h
  rw [itoa_nat]; exact dec_chars m
theorem itoa_short {n : Int} (h0 : 0 ≤ n) (h1 : n ≤ 99999) : 1 ≤ (Lib.itoa n).length ∧ (Lib.itoa n).length ≤ 5 := by
  obtain ⟨m, rfl⟩ := Int.eq_ofNat_of_zero_le h0
  rw [itoa_nat]; exact dec_len_le 4 m (by omega)
theorem number_itoa {n : Int} (h0 : 0 ≤ n) (h1 : n ≤ 99999) : number (Lib.itoa n) = some n.toNat := by
  have hl := itoa_short h0 h1
  obtain ⟨m, rfl⟩ := Int.eq_ofNat_of_zero_le h0
  unfold number
  rw [if_neg (by omega), itoa_nat, digitsGo_dec]
  simp [itoa_nat]
theorem itoa_no {n : Int} (h : 0 ≤ n) {c : UInt8} (hc : c.toNat < 48) : c ∉ Lib.itoa n := fun hm => by have := itoa_chars h c hm; omega
theorem number_some {s : List UInt8} {n : Nat} (h : number s = some n) : Lib.itoa (n : Int) = s ∧ n ≤ 999999 := by
  unfold number at h
  split at h
  · cases h
  · rename_i hl
    split at h
    · rename_i m hm
      split at h
      · rename_i he
        injection h with h; subst h
        refine ⟨he, ?_⟩
        rcases Nat.lt_or_ge m 1000000 with h' | h'
        · omega
        · exfalso
          have key : ∀ (k u : Nat), 10 ^ k ≤ u → k + 1 ≤ (Lib.decDigits u).length := by
            intro k
            induction k with
            | zero => intro u _; rw [Lib.decDigits]; split <;> simp
            | succ k ih =>
              intro u hu
              have hp : 10 ^ (k + 1) = 10 ^ k * 10 := Nat.pow_succ ..
              have hpos : 0 < 10 ^ k := Nat.pos_of_ne_zero (by simp)
              rw [Lib.decDigits, dif_neg (by omega)]
              have := ih (u / 10) (by rw [Nat.le_div_iff_mul_le (by decide)]; omega)
              simp; omega
          have := key 6 m (by omega)
          rw [← itoa_nat, he] at this
          omega
      · cases h
    · cases h

/-! ### Parts -/
def partsGo (by' : UInt8) : List UInt8 → List UInt8 → List (List UInt8)
  | cur, [] => [cur]
  | cur, c :: cs => if c = by' then cur :: partsGo by' [] cs else partsGo by' (cur ++ [c]) cs
def parts (s : List UInt8) (by' : UInt8) : List (List UInt8) := partsGo by' [] s
theorem partsGo_no {c : UInt8} : ∀ (a cur rest : List UInt8), c ∉ a → partsGo c cur (a ++ rest) = partsGo c (cur ++ a) rest
  | [], cur, rest, _ => by simp
  | x :: a, cur, rest, h => by
    simp only [List.mem_cons, not_or] at h
    simp only [List.cons_append, partsGo, if_neg (fun e : x = c => h.1 e.symm), partsGo_no a (cur ++ [x]) rest h.2, List.append_assoc, List.nil_append]
theorem parts_no {c : UInt8} {a : List UInt8} (h : c ∉ a) : parts a c = [a] := by
  have := partsGo_no a [] [] h
  simpa [parts, partsGo] using this
theorem parts_cons {c : UInt8} {a : List UInt8} (b : List UInt8) (h : c ∉ a) : parts (a ++ ([c] ++ b)) c = a :: parts b c := by
  unfold parts
  rw [partsGo_no a [] _ h]
  simp [partsGo]
theorem partsGo_len (c : UInt8) : ∀ (s cur : List UInt8), 1 ≤ (partsGo c cur s).length ∧ (partsGo c cur s).length ≤ s.length + 1
  | [], cur => by simp [partsGo]
  | x :: s, cur => by
    simp only [partsGo]
    split
    · have := partsGo_len c s []; simp; omega
    · have := partsGo_len c s (cur ++ [x]); simp; omega
theorem parts_len (s : List UInt8) (c : UInt8) : 1 ≤ (parts s c).length ∧ (parts s c).length ≤ s.length + 1 := partsGo_len c s []
theorem partsGo_mem (c : UInt8) : ∀ (s cur : List UInt8), ∀ x ∈ partsGo c cur s, x.length ≤ cur.length + s.length
  | [], cur, x, hx => by simp [partsGo] at hx; subst hx; simp
  | y :: s, cur, x, hx => by
    simp only [partsGo] at hx
    split at hx
    · rcases List.mem_cons.1 hx with rfl | hx
      · simp
      · have := partsGo_mem c s [] x hx; simp at this ⊢; omega
    · have := partsGo_mem c s (cur ++ [y]) x hx; simp at this ⊢; omega
theorem parts_mem {s : List UInt8} {c : UInt8} {x : List UInt8} (h : x ∈ parts s c) : x.length ≤ s.length := by
  have := partsGo_mem c s [] x h; simpa using this
theorem byte_eq {x c : UInt8} (h : (x.toNat : Int) = (c.toNat : Int)) : x = c := UInt8.toNat_inj.1 (by omega)
theorem parts_last {s : List UInt8} {c : UInt8} {out : List (List UInt8)} {fr i : Nat} (fr' : Nat) (h1 : fr ≤ i) (h : parts s c = out ++ partsGo c ((s.drop fr).take (i - fr)) (s.drop i)) (he : i = s.length) :
    (i + 1 ≤ s.length ∧ fr' ≤ i + 1 ∧ parts s c = (out ++ [(s.drop fr).take (i - fr)]) ++ partsGo c ((s.drop fr').take (i + 1 - fr')) (s.drop (i + 1))) ∨ (i + 1 = s.length + 1 ∧ parts s c = out ++ [(s.drop fr).take (i - fr)]) := by
  refine .inr ⟨by omega, ?_⟩
  rw [h, List.drop_eq_nil_of_le (show s.length ≤ i by omega)]
  rfl
theorem parts_hit {s : List UInt8} {c x : UInt8} {out : List (List UInt8)} {fr i : Nat} (h1 : fr ≤ i) (h : parts s c = out ++ partsGo c ((s.drop fr).take (i - fr)) (s.drop i)) (hx : s[i]? = some x) (he : (x.toNat : Int) = (c.toNat : Int)) :
    (i + 1 ≤ s.length ∧ i + 1 ≤ i + 1 ∧ parts s c = (out ++ [(s.drop fr).take (i - fr)]) ++ partsGo c ((s.drop (i + 1)).take (i + 1 - (i + 1))) (s.drop (i + 1))) ∨ (i + 1 = s.length + 1 ∧ parts s c = out ++ [(s.drop fr).take (i - fr)]) := by
  have hlt : i < s.length := (List.getElem?_eq_some_iff.1 hx).1
  have hxe : s[i] = x := (List.getElem?_eq_some_iff.1 hx).2
  refine .inl ⟨by omega, by omega, ?_⟩
  rw [h, List.drop_eq_getElem_cons hlt, hxe, byte_eq he]
  simp [partsGo]
theorem parts_step {s : List UInt8} {c x : UInt8} {out : List (List UInt8)} {fr i : Nat} (h1 : fr ≤ i) (h : parts s c = out ++ partsGo c ((s.drop fr).take (i - fr)) (s.drop i)) (hx : s[i]? = some x) (he : ¬ (x.toNat : Int) = (c.toNat : Int)) :
    (i + 1 ≤ s.length ∧ fr ≤ i + 1 ∧ parts s c = out ++ partsGo c ((s.drop fr).take (i + 1 - fr)) (s.drop (i + 1))) ∨ (i + 1 = s.length + 1 ∧ parts s c = out) := by
  have hlt : i < s.length := (List.getElem?_eq_some_iff.1 hx).1
  have hxe : s[i] = x := (List.getElem?_eq_some_iff.1 hx).2
  refine .inl ⟨by omega, by omega, ?_⟩
  have hcur : (s.drop fr).take (i + 1 - fr) = (s.drop fr).take (i - fr) ++ [x] := by
    rw [show i + 1 - fr = (i - fr) + 1 by omega, List.take_add_one, List.getElem?_drop, show fr + (i - fr) = i by omega, hx]
    rfl
  rw [h, List.drop_eq_getElem_cons hlt, hxe, hcur]
  simp only [partsGo]
  rw [if_neg (fun e => he (by rw [e]))]
theorem splitK_parts (c : UInt8) : ∀ (k : Nat) (s : List UInt8), s.count c = k → Lib.splitK [c] 0 k s = parts s c
  | 0, s, h => by
    rw [Lib.splitK, parts_no (List.count_eq_zero.1 h)]
  | k + 1, s, h => by
    rw [Lib.splitK, Lib.index_one]
    by_cases hm : Lib.indexByte s c = -1
    · exfalso
      have hin : c ∈ s := List.count_pos_iff.1 (by omega)
      obtain ⟨j, hj⟩ := List.getElem?_of_mem hin
      exact Lib.indexByte_none hm j hj
    · have hge := Lib.indexByte_ge s c
      obtain ⟨o, ho⟩ : ∃ o : Nat, Lib.indexByte s c = o := ⟨(Lib.indexByte s c).toNat, by omega⟩
      obtain ⟨h1, h2⟩ := Lib.indexByte_some ho
      have hlt : o < s.length := (List.getElem?_eq_some_iff.1 h1).1
      rw [ho, if_neg (by simp)]
      have hs : s = s.take o ++ ([c] ++ s.drop (o + 1)) := by
        have he : s[o] = c := (List.getElem?_eq_some_iff.1 h1).2
        conv => lhs; rw [← List.take_append_drop o s, List.drop_eq_getElem_cons hlt, he]
        rfl
      have hno : c ∉ s.take o := by
        intro hin
        obtain ⟨j, hj⟩ := List.getElem?_of_mem hin
        rw [List.getElem?_take] at hj
        split at hj
        · rename_i hjo; exact h2 j hjo hj
        · cases hj
      have hcount : (s.drop (o + 1)).count c = k := by
        have hc := congrArg (List.count c) hs
        rw [List.count_append, List.count_append, List.count_eq_zero.2 hno] at hc
        simp at hc
        omega
      have ih := splitK_parts c k (s.drop (o + 1)) hcount
      have hp := parts_cons (s.drop (o + 1)) hno
      rw [← hs] at hp
      rw [hp]
      simp only [Int.toNat_natCast, Nat.add_zero, List.length_singleton]
      rw [ih]
end SX
end Go.Proofs.YtgbfemglimebdaaGreatDoor
