/- Texts of this claim, put together by program. -/
import Derived.Test.YtcbpmjfjdjpalaaGreatMdlr
/- What the functions on snapshots come to, in plain Lean, and how long a snapshot is. It imports no program. -/
namespace Go.Proofs.YtcbpmjfjdjpalaaGreat
namespace SX
set_option linter.unusedVariables false
set_option linter.unusedSimpArgs false
open Go Go.RowKit
def numsRules (r : Rules) : List Int := if rulesOk r then [r.tiers, r.room, r.size, r.period, r.window, r.rest, r.tries, r.crew] ++ r.seats else []
def partyN (p : Party) : List Int := [p.id, p.cabin, wr (p.from' + 1), p.size, p.tier, p.since, p.turn, p.state, p.until', p.asked]
def freeN (c : Cabin) : List Int := [c.seats.free]
def jobN (j : Int) : List Int := [wr (j + 1)]
noncomputable def houseNums (h : House) : List Int :=
  if houseOk h then ((((((numsRules h.rules).length : Int) :: numsRules h.rules) ++ [h.now, h.turn, (h.parties.length : Int)]) ++ h.parties.flatMap partyN) ++ h.cabins.flatMap freeN) ++ [(h.todo.length : Int)] ++ h.todo ++ h.jobs.flatMap jobN else []
def snapWith (body : List UInt8) : List UInt8 := four (crc body) ++ body
noncomputable def snapText (h : House) (seq : Int) : List UInt8 := if houseOk h && inB seq 0 1000000 then snapWith (putNums (seq :: houseNums h)) else []
theorem houseNums_no {h : House} (hb : houseOk h = false) : houseNums h = [] := by simp [houseNums, hb]
theorem houseNums_yes {h : House} (hb : houseOk h = true) : houseNums h = ((((((numsRules h.rules).length : Int) :: numsRules h.rules) ++ [h.now, h.turn, (h.parties.length : Int)]) ++ h.parties.flatMap partyN) ++ h.cabins.flatMap freeN) ++ [(h.todo.length : Int)] ++ h.todo ++ h.jobs.flatMap jobN := by simp [houseNums, hb]
theorem snapText_no {h : House} {seq : Int} (hb : houseOk h = false) : snapText h seq = [] := by simp [snapText, hb]
theorem snapText_no2 {h : House} {seq : Int} (hb : inB seq 0 1000000 = false) : snapText h seq = [] := by simp [snapText, hb]
theorem snapText_yes {h : House} {seq : Int} (h1 : houseOk h = true) (h2 : inB seq 0 1000000 = true) : snapText h seq = snapWith (putNums (seq :: houseNums h)) := by simp [snapText, h1, h2]
theorem putNums_cons (x : Int) (l : List Int) : putNums (x :: l) = putNum x ++ putNums l := by simp [putNums]
theorem numsRules_len {r : Rules} (h : rulesOk r = true) : (numsRules r).length = 8 + r.seats.length := by simp [numsRules, h]; omega
theorem numsRules_le (r : Rules) : (numsRules r).length ≤ 12 := by
  unfold numsRules
  split
  · rename_i h
    have := rulesOk_len h
    simp only [List.length_append, List.length_cons, List.length_nil]; omega
  · simp
theorem flat_len {α : Type} {f : α → List Int} {n : Nat} (hf : ∀ x, (f x).length = n) : ∀ l : List α, (l.flatMap f).length = n * l.length
  | [] => by simp
  | x :: xs => by simp only [List.flatMap_cons, List.length_append, hf, flat_len hf xs, List.length_cons]; rw [Nat.mul_add, Nat.mul_one]; omega
theorem nodup_le {α : Type} [DecidableEq α] : ∀ {l m : List α}, l.Nodup → (∀ x ∈ l, x ∈ m) → l.length ≤ m.length
  | [], m, _, _ => Nat.zero_le _
  | x :: l, m, hd, hs => by
    have hd' := List.nodup_cons.1 hd
    have h1 := List.perm_cons_erase (hs x (by simp))
    have h2 := nodup_le (l := l) (m := m.erase x) hd'.2 fun y hy => (List.mem_erase_of_ne (by intro he; subst he; exact hd'.1 hy)).2 (hs y (by simp [hy]))
    rw [h1.length_eq, List.length_cons, List.length_cons]; omega
theorem todo_le {h : House} (hh : HouseP h) : h.todo.length ≤ h.cabins.length := by
  obtain ⟨hr, _, _, _, hc, _, hj, _⟩ := hh
  have hrl := rulesOk_len hr
  have h1 := hj.1
  have hw : wr ((h.cabins.length : Int) - 1) = (h.cabins.length : Int) - 1 := wr_of (by omega) (by omega)
  have hnd : (h.todo.map Int.toNat).Nodup := by
    rw [List.Nodup, List.pairwise_map, List.pairwise_iff_getElem]
    intro i j hi hj hij he
    have h2 := h1 j _ (List.getElem?_eq_getElem hj)
    have h3 := h1 i _ (List.getElem?_eq_getElem hi)
    have h4 := h2.2 i _ hij (List.getElem?_eq_getElem hi)
    have h5 := h2.1; have h6 := h3.1
    simp only [inB, Bool.and_eq_true, decide_eq_true_eq] at h5 h6
    omega
  have hsub : h.todo.map Int.toNat ⊆ List.range h.cabins.length := by
    intro x hx
    obtain ⟨y, hy, rfl⟩ := List.mem_map.1 hx
    obtain ⟨i, hi⟩ := List.mem_iff_getElem?.1 hy
    have h5 := (h1 i y hi).1
    rw [hw] at h5
    simp only [inB, Bool.and_eq_true, decide_eq_true_eq] at h5
    rw [List.mem_range]; omega
  have := nodup_le hnd hsub
  simpa using this
theorem houseNums_sz (h : House) : (houseNums h).length ≤ 500 := by
  unfold houseNums
  split
  · rename_i hb
    have hh := houseP_of hb
    have h1 := todo_le hh
    obtain ⟨hr, _, _, hp, hc, _, hj, _⟩ := hh
    have hrl := rulesOk_len hr
    have := numsRules_le h.rules
    have h2 := hj.2.2
    rw [List.length_append, List.length_append, List.length_append, List.length_append, List.length_append, List.length_append, List.length_cons, flat_len (f := partyN) (n := 10) (fun _ => rfl), flat_len (f := freeN) (n := 1) (fun _ => rfl), flat_len (f := jobN) (n := 1) (fun _ => rfl)]
    simp only [List.length_cons, List.length_nil]
    omega
  · simp
theorem snapText_sz (h : House) (seq : Int) : (snapText h seq).length ≤ 2600 := by
  unfold snapText
  split
  · have h1 := putNums_len (seq :: houseNums h)
    have h2 := houseNums_sz h
    simp only [snapWith, List.length_append, four_len, List.length_cons] at *
    omega
  · simp
theorem nums_none {h : House} {x : List Int} {a : Option Addr} (hx : x = houseNums h) (hs : 0 < x.length → a.isSome = true) (hn : a.isNone = true) : houseOk h = false := by
  cases hb : houseOk h with
  | false => rfl
  | true =>
    rw [hx, houseNums_yes hb] at hs
    have := hs (by simp)
    cases a <;> simp_all
theorem nums_some {h : House} {a : Option Addr} (hm : houseOk h = false → a = none) (hn : a.isNone = false) : houseOk h = true := by
  cases hb : houseOk h with
  | true => rfl
  | false => rw [hm hb] at hn; cases hn
/-! ### How long -/
theorem putNum_le {n : Int} (k : Nat) (h0 : 0 ≤ n) (h : n < ((128 ^ (k + 1) : Nat) : Int)) : (putNum n).length ≤ k + 1 := by
  unfold putNum
  split
  · exact putGo_len k n.toNat (by omega)
  · simp
theorem putNums_app (a b : List Int) : (putNums (a ++ b)).length = (putNums a).length + (putNums b).length := by simp [putNums]
theorem putNums_le1 : ∀ {l : List Int}, (∀ x ∈ l, 0 ≤ x ∧ x < 128) → (putNums l).length ≤ l.length
  | [], _ => by simp [putNums]
  | x :: xs, h => by
    have h1 := putNum_le 0 (h x (by simp)).1 (by have := (h x (by simp)).2; omega)
    have h2 := putNums_le1 (l := xs) fun y hy => h y (by simp [hy])
    rw [putNums_cons, List.length_append, List.length_cons]; omega
theorem putFlat_le {α : Type} {f : α → List Int} {n : Nat} : ∀ {l : List α}, (∀ x ∈ l, (putNums (f x)).length ≤ n) → (putNums (l.flatMap f)).length ≤ n * l.length
  | [], _ => by simp [putNums]
  | x :: xs, h => by
    have h1 := h x (by simp)
    have h2 := putFlat_le (f := f) (n := n) (l := xs) fun y hy => h y (by simp [hy])
    rw [List.flatMap_cons, putNums_app, List.length_cons, Nat.mul_add, Nat.mul_one]; omega
def cnt (l : List Party) (k : Int) : Nat := (l.filter fun p => p.cabin == k).length
theorem countGo_cnt (k : Int) : ∀ (l : List Party) (n : Int), 0 ≤ n → n + l.length ≤ 9223372036854775807 → countGo l k n = n + (cnt l k : Nat)
  | [], n, _, _ => by simp [countGo, cnt]
  | p :: ps, n, h0, h1 => by
    simp only [List.length_cons] at h1
    unfold countGo cnt
    rw [List.filter_cons]
    split
    · rw [countGo_cnt k ps _ (by rw [wr_of (by omega) (by omega)]; omega) (by rw [wr_of (by omega) (by omega)]; omega), wr_of (by omega) (by omega)]
      simp only [List.length_cons, cnt]; omega
    · rw [countGo_cnt k ps _ h0 (by omega)]; rfl
theorem cnt_all (m : Nat) : ∀ (s : Nat) (l : List Party), (∀ p ∈ l, 0 ≤ p.cabin ∧ p.cabin < (s : Int)) → (∀ k : Nat, k < s → cnt l k ≤ m) → l.length ≤ m * s
  | 0, l, h, _ => by
    cases l with
    | nil => simp
    | cons p l => have := h p (by simp); omega
  | s + 1, l, h, hk => by
    have h1 := hk s (by omega)
    have h2 := cnt_all m s (l.filter fun p => !(p.cabin == (s : Int))) (fun p hp => by
      have h3 := List.mem_filter.1 hp
      have h4 := h p h3.1
      have h5 := h3.2
      simp at h5
      omega) (fun k hks => by
      refine Nat.le_trans ?_ (hk k (by omega))
      unfold cnt
      exact (List.Sublist.filter _ List.filter_sublist).length_le)
    have h6 : ∀ q : List Party, q.length = (q.filter fun p => p.cabin == (s : Int)).length + (q.filter fun p => !(p.cabin == (s : Int))).length := by
      intro q
      induction q with
      | nil => rfl
      | cons a q ih =>
        rw [List.filter_cons, List.filter_cons]
        cases ha : (a.cabin == (s : Int)) with
        | true => simp only [if_true, Bool.not_true, Bool.false_eq_true, if_false, List.length_cons]; omega
        | false => simp only [Bool.not_false, if_true, Bool.false_eq_true, if_false, List.length_cons]; omega
    have h7 := h6 l
    unfold cnt at h1
    rw [Nat.mul_add, Nat.mul_one]
    omega
theorem partyN_len {r : Rules} {p : Party} {now : Int} (h : partyOk r p now = true) : (putNums (partyN p)).length ≤ 17 := by
  simp only [partyOk, Bool.and_eq_true, Bool.or_eq_true, inB, decide_eq_true_eq, beq_iff_eq] at h
  obtain ⟨⟨⟨⟨⟨⟨⟨⟨⟨⟨⟨hr, hn⟩, hi⟩, hc⟩, hf⟩, _⟩, hs⟩, ht⟩, hsi⟩, htu⟩, ha⟩, hst⟩ := h
  have hr2 := hr
  simp only [rulesOk, inB, Bool.and_eq_true, decide_eq_true_eq] at hr2
  obtain ⟨⟨⟨⟨⟨⟨⟨⟨⟨q1, q2⟩, q3⟩, q4⟩, q5⟩, q6⟩, q7⟩, q8⟩, q9⟩, _⟩ := hr2
  rw [wr_of (x := (r.seats.length : Int) - 1) (by omega) (by omega)] at hc hf
  rw [wr_of (x := r.tiers - 1) (by omega) (by omega)] at ht
  rw [wr_of (x := r.tries - 1) (by omega) (by omega)] at ha
  rw [wr_of (x := now + r.rest) (by omega) (by omega), wr_of (x := now + r.window) (by omega) (by omega)] at hst
  unfold partyN
  rw [wr_of (x := p.from' + 1) (by omega) (by omega)]
  simp only [putNums_cons, List.length_append]
  have a1 := putNum_le (n := p.id) 1 (by omega) (by omega)
  have a2 := putNum_le (n := p.cabin) 0 (by omega) (by omega)
  have a3 := putNum_le (n := p.from' + 1) 0 (by omega) (by omega)
  have a4 := putNum_le (n := p.size) 0 (by omega) (by omega)
  have a5 := putNum_le (n := p.tier) 0 (by omega) (by omega)
  have a6 := putNum_le (n := p.since) 2 (by omega) (by omega)
  have a7 := putNum_le (n := p.turn) 2 (by omega) (by omega)
  have a8 := putNum_le (n := p.state) 0 (by omega) (by omega)
  have a9 := putNum_le (n := p.until') 2 (by omega) (by omega)
  have a10 := putNum_le (n := p.asked) 0 (by omega) (by omega)
  simp only [putNums, List.flatMap_nil, List.length_nil]
  omega
theorem allSeats_mem : ∀ {l : List Int}, allSeats l = true → ∀ x ∈ l, 1 ≤ x ∧ x ≤ 60
  | [], _, x, hx => absurd hx List.not_mem_nil
  | z :: zs, h, x, hx => by
    simp only [allSeats, Bool.and_eq_true, inB, decide_eq_true_eq] at h
    rcases List.mem_cons.1 hx with rfl | hx
    · exact h.1
    · exact allSeats_mem h.2 x hx
theorem snapMost_of {r : Rules} (h : rulesOk r = true) : snapMost r = 24 + 3 * (r.seats.length : Int) + 17 * r.room * r.seats.length + r.crew := by
  have hr2 := h
  simp only [rulesOk, inB, Bool.and_eq_true, decide_eq_true_eq] at hr2
  obtain ⟨⟨⟨⟨⟨⟨⟨⟨⟨q1, q2⟩, q3⟩, q4⟩, q5⟩, q6⟩, q7⟩, q8⟩, q9⟩, _⟩ := hr2
  have hm0 : 0 ≤ 17 * r.room * (r.seats.length : Int) := Int.mul_nonneg (by omega) (by omega)
  have hm1 : 17 * r.room * (r.seats.length : Int) ≤ 17 * 10 * 4 := Int.mul_le_mul (by omega) (by omega) (by omega) (by omega)
  unfold snapMost
  rw [if_pos h, wr_of (x := 17 * r.room) (by omega) (by omega), wr_of (x := 3 * (r.seats.length : Int)) (by omega) (by omega), wr_of (x := 24 + 3 * (r.seats.length : Int)) (by omega) (by omega), wr_of (x := 17 * r.room * (r.seats.length : Int)) (by omega) (by omega),
    wr_of (x := 24 + 3 * (r.seats.length : Int) + 17 * r.room * (r.seats.length : Int)) (by omega) (by omega), wr_of (by omega) (by omega)]
theorem snapText_most {h : House} {seq : Int} (hb : houseOk h = true) : ((snapText h seq).length : Int) ≤ snapMost h.rules := by
  have hh := houseP_of hb
  have htd := todo_le hh
  obtain ⟨hr, hn, ht, hp, hc, hps, hj, hcb⟩ := hh
  have hr2 := hr
  simp only [rulesOk, inB, Bool.and_eq_true, decide_eq_true_eq] at hr2
  obtain ⟨⟨⟨⟨⟨⟨⟨⟨⟨q1, q2⟩, q3⟩, q4⟩, q5⟩, q6⟩, q7⟩, q8⟩, q9⟩, qs⟩ := hr2
  rw [snapMost_of hr]
  have hm0 : 0 ≤ 17 * h.rules.room * (h.rules.seats.length : Int) := Int.mul_nonneg (by omega) (by omega)
  unfold snapText
  split
  · rename_i hq
    simp only [Bool.and_eq_true, inB, decide_eq_true_eq] at hq hn ht
    have hw : wr ((h.cabins.length : Int) - 1) = (h.cabins.length : Int) - 1 := wr_of (by omega) (by omega)
    have e1 := putNum_le (n := seq) 2 (by omega) (by omega)
    have e2 := putNums_le1 (l := ((numsRules h.rules).length : Int) :: numsRules h.rules) (by
      intro x hx
      rcases List.mem_cons.1 hx with rfl | hx
      · have := numsRules_le h.rules; omega
      · rw [numsRules, if_pos hr] at hx
        rcases List.mem_append.1 hx with hx | hx
        · simp only [List.mem_cons, List.not_mem_nil, or_false] at hx
          rcases hx with rfl | rfl | rfl | rfl | rfl | rfl | rfl | rfl <;> omega
        · have := allSeats_mem qs x hx; omega)
    have e3 : (putNums [h.now, h.turn, (h.parties.length : Int)]).length ≤ 7 := by
      simp only [putNums_cons, List.length_append]
      have a1 := putNum_le (n := h.now) 2 (by omega) (by omega)
      have a2 := putNum_le (n := h.turn) 2 (by omega) (by omega)
      have a3 := putNum_le (n := (h.parties.length : Int)) 0 (by omega) (by omega)
      simp only [putNums, List.flatMap_nil, List.length_nil]
      omega
    have e4 := putFlat_le (f := partyN) (n := 17) (l := h.parties) (fun p hpm => by
      obtain ⟨i, hi⟩ := List.mem_iff_getElem?.1 hpm
      exact partyN_len (hps i p hi).1)
    have e5 := putFlat_le (f := freeN) (n := 1) (l := h.cabins) (fun c hcm => by
      obtain ⟨k, hk⟩ := List.mem_iff_getElem?.1 hcm
      have h9 := (hcb k c hk).2.1
      simp only [agrees, Bool.and_eq_true, cabinOk, ledgerOk, inB, decide_eq_true_eq] at h9
      obtain ⟨⟨⟨⟨⟨⟨⟨⟨⟨⟨⟨g1, g2⟩, _⟩, _⟩, _⟩, _⟩, _⟩, _⟩, _⟩, _⟩, _⟩, _⟩ := h9
      have := putNum_le (n := c.seats.free) 0 (by omega) (by omega)
      simp only [freeN, putNums_cons, List.length_append]
      simp only [putNums, List.flatMap_nil, List.length_nil]
      omega)
    have e6 := putNums_le1 (l := [(h.todo.length : Int)]) (by
      intro x hx
      rw [List.mem_singleton] at hx; subst hx; omega)
    have e7 := putNums_le1 (l := h.todo) (by
      intro x hx
      obtain ⟨i, hi⟩ := List.mem_iff_getElem?.1 hx
      have := (hj.1 i x hi).1
      rw [hw] at this
      simp only [inB, Bool.and_eq_true, decide_eq_true_eq] at this
      omega)
    have e8 := putFlat_le (f := jobN) (n := 1) (l := h.jobs) (fun x hx => by
      have := hj.2.1 x hx
      rw [hw] at this
      simp only [inB, Bool.and_eq_true, decide_eq_true_eq] at this
      have h2 := putNum_le (n := wr (x + 1)) 0 (by rw [wr_of (by omega) (by omega)]; omega) (by rw [wr_of (by omega) (by omega)]; omega)
      simp only [jobN, putNums_cons, List.length_append]
      simp only [putNums, List.flatMap_nil, List.length_nil]
      omega)
    have hlen : (h.parties.length : Int) ≤ h.rules.room * h.rules.seats.length := by
      have := cnt_all h.rules.room.toNat h.rules.seats.length h.parties (fun p hpm => by
        obtain ⟨i, hi⟩ := List.mem_iff_getElem?.1 hpm
        have h9 := (hps i p hi).1
        simp only [partyOk, Bool.and_eq_true, inB, decide_eq_true_eq] at h9
        obtain ⟨⟨⟨⟨⟨⟨⟨⟨⟨⟨⟨_, _⟩, _⟩, g⟩, _⟩, _⟩, _⟩, _⟩, _⟩, _⟩, _⟩, _⟩ := h9
        rw [wr_of (by omega) (by omega)] at g; omega) (fun k hk => by
        obtain ⟨c, hck⟩ : ∃ c, h.cabins[k]? = some c := ⟨_, List.getElem?_eq_getElem (by omega)⟩
        have h9 := (hcb k c hck).2.2
        rw [countGo_cnt k h.parties 0 (by omega) (by omega)] at h9
        omega)
      have h2 : ((h.rules.room.toNat * h.rules.seats.length : Nat) : Int) = h.rules.room * h.rules.seats.length := by
        rw [Int.natCast_mul, Int.toNat_of_nonneg (by omega)]
      omega
    have hn1 := numsRules_len hr
    have hj3 := hj.2.2
    rw [snapWith, List.length_append, four_len, putNums_cons, List.length_append, houseNums_yes hb]
    simp only [putNums_app, List.length_cons, List.length_nil] at *
    have hmul : 17 * h.rules.room * (h.rules.seats.length : Int) = 17 * (h.rules.room * h.rules.seats.length) := by rw [Int.mul_assoc]
    omega
  · simp only [List.length_nil]; omega
end SX
end Go.Proofs.YtcbpmjfjdjpalaaGreat
/- Whom the next offer goes to, and that nobody is passed over then; in plain Lean. It imports no program. -/
namespace Go.Proofs.YtcbpmjfjdjpalaaGreat
namespace SX
set_option linter.unusedVariables false
set_option linter.unusedSimpArgs false
open Go Go.RowKit
end SX
end Go.Proofs.YtcbpmjfjdjpalaaGreat
/- What a right house's rows, wheels and ledgers say of its parties, in plain Lean. It imports no program. -/
namespace Go.Proofs.YtcbpmjfjdjpalaaGreat
namespace SX
set_option linter.unusedVariables false
set_option linter.unusedSimpArgs false
open Go Go.RowKit
/-! ### Strictly sorted lists -/
section
variable {α : Type} {lt : α → α → Bool}
abbrev SS (lt : α → α → Bool) (l : List α) : Prop := l.Pairwise fun a b => lt a b = true
end
/-! ### Rows -/
def rowM (r : Rules) (now : Int) (l : List Party) (k : Int) (e : Entry) : Prop := ∃ p ∈ l, entryOk r p now = true ∧ p.cabin = k ∧ e = entryOf r p now
/-! ### Pins -/
def pinM (l : List Party) (k : Int) (x : Pin) : Prop := ∃ p ∈ l, p.state = 2 ∧ p.cabin = k ∧ x = ⟨p.until', p.id⟩
/-! ### Sums -/
def heldW (k : Int) (p : Party) : Int := if p.state = 2 ∧ p.cabin = k then p.size else 0
def tiedW (k : Int) (p : Party) : Int := if p.from' = k then p.size else 0
/-! ### Right parties -/
structure PR (r : Rules) (now : Int) (p : Party) : Prop where
  id0 : 1 ≤ p.id
  id1 : p.id ≤ 999
  cab : 0 ≤ p.cabin ∧ p.cabin < (r.seats.length : Int)
  frm : -1 ≤ p.from' ∧ p.from' < (r.seats.length : Int)
  ne : p.from' ≠ p.cabin
  size : 1 ≤ p.size ∧ p.size ≤ r.size ∧ p.size ≤ 6
  tier : 0 ≤ p.tier ∧ p.tier < r.tiers
  since : 0 ≤ p.since ∧ p.since ≤ now
  turn : 1 ≤ p.turn ∧ p.turn ≤ 1000000
  asked : 0 ≤ p.asked ∧ p.asked < r.tries
  st : (p.state = 1 ∧ 0 ≤ p.until' ∧ p.until' ≤ now + r.rest) ∨ (p.state = 2 ∧ 1 ≤ p.until' ∧ p.until' ≤ now + r.window)
structure RR (r : Rules) : Prop where
  seats : 1 ≤ r.seats.length ∧ r.seats.length ≤ 4
  tiers : 1 ≤ r.tiers ∧ r.tiers ≤ 5
  room : 1 ≤ r.room ∧ r.room ≤ 10
  size : 1 ≤ r.size ∧ r.size ≤ 6
  period : 1 ≤ r.period ∧ r.period ≤ 12
  window : 1 ≤ r.window ∧ r.window ≤ 8
  rest : 0 ≤ r.rest ∧ r.rest ≤ 8
  tries : 1 ≤ r.tries ∧ r.tries ≤ 4
  crew : 1 ≤ r.crew ∧ r.crew ≤ 3
structure Good (r : Rules) (now : Int) (l : List Party) : Prop where
  rules : rulesOk r = true
  nw : 0 ≤ now ∧ now ≤ 1000000
  ok : ∀ p ∈ l, PR r now p
  ids : (l.map (·.id)).Nodup
  turns : (l.map (·.turn)).Nodup
  len : l.length ≤ 40
theorem nodup_one {β : Type} {f : Party → β} : ∀ {l : List Party}, (l.map f).Nodup → ∀ {x y : Party}, x ∈ l → y ∈ l → f x = f y → x = y
  | [], _, x, y, hx, _, _ => absurd hx List.not_mem_nil
  | p :: l, hd, x, y, hx, hy, he => by
    rw [List.map_cons, List.nodup_cons] at hd
    rcases List.mem_cons.1 hx with h1 | h1 <;> rcases List.mem_cons.1 hy with h2 | h2
    · rw [h1, h2]
    · exact absurd (List.mem_map.2 ⟨y, h2, by rw [← he, h1]⟩) hd.1
    · exact absurd (List.mem_map.2 ⟨x, h1, by rw [he, h2]⟩) hd.1
    · exact nodup_one hd.2 h1 h2 he
theorem Good.one {r : Rules} {now : Int} {l : List Party} (g : Good r now l) {x y : Party} (hx : x ∈ l) (hy : y ∈ l) (h : x.id = y.id) : x = y := nodup_one g.ids hx hy h
/-- what a cabin says of the parties -/
structure Rep (r : Rules) (now : Int) (l : List Party) (k : Int) (c : Cabin) : Prop where
  led : ledgerOk c.seats = true
  ss : SS entryLess c.row
  row : ∀ e, e ∈ c.row ↔ rowM r now l k e
  wh : WheelP c.wheel
  pin : ∀ x, x ∈ c.wheel.spoke.flatten ↔ pinM l k x
  held : c.seats.held = (l.map (heldW k)).sum
  tied : c.seats.tied = (l.map (tiedW k)).sum
/-! ### Parties, pair by pair -/
def KK (q p : Party) : Prop := q.turn ≠ p.turn ∧ ¬ (q.turn < p.turn ∧ p.since < q.since) ∧ ¬ (p.turn < q.turn ∧ q.since < p.since)
theorem KK.symm {q p : Party} (h : KK q p) : KK p q := ⟨h.1.symm, h.2.2, h.2.1⟩
structure PPs (h : House) : Prop where
  ok : ∀ p ∈ h.parties, partyOk h.rules p h.now = true ∧ p.turn < h.turn
  ids : h.parties.Pairwise fun a b => a.id < b.id
  kk : h.parties.Pairwise KK
/-- a right house, said by its parties -/
structure HRep (h : House) : Prop where
  rules : rulesOk h.rules = true
  now : 0 ≤ h.now ∧ h.now ≤ 1000000
  turn : 1 ≤ h.turn ∧ h.turn ≤ 1000001
  len : h.parties.length ≤ 40
  cabs : h.cabins.length = h.rules.seats.length
  pps : PPs h
  jobs : JobsP h
  cab : ∀ (k : Nat) (c : Cabin), h.cabins[k]? = some c → h.rules.seats[k]? = some c.seats.total ∧ Rep h.rules h.now h.parties k c ∧ (cnt h.parties k : Int) ≤ h.rules.room
end SX
end Go.Proofs.YtcbpmjfjdjpalaaGreat
