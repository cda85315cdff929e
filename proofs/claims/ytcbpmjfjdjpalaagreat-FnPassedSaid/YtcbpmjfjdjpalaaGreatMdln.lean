/- Whom the next offer goes to, and that nobody is passed over then; in plain Lean. It imports no program. -/
import Derived.Test.YtcbpmjfjdjpalaaGreatMdlp
namespace Go.Proofs.YtcbpmjfjdjpalaaGreat
namespace SX
set_option linter.unusedVariables false
set_option linter.unusedSimpArgs false
open Go Go.RowKit
theorem insL_memR {α : Type} {lt : α → α → Bool} {e x : α} : ∀ {l : List α}, x = e ∨ x ∈ l → x ∈ insL lt l e
  | [], h => by simpa [insL] using h
  | y :: l, h => by
    unfold insL
    split
    · rcases h with h | h
      · exact List.mem_cons_of_mem _ (insL_memR (.inl h))
      · rcases List.mem_cons.1 h with rfl | h
        · simp
        · exact List.mem_cons_of_mem _ (insL_memR (.inr h))
    · rcases h with rfl | h <;> simp [*]
theorem queueOf_in {r : Rules} {cabin now : Int} {p : Party} : ∀ {list : List Party}, p ∈ list → entryOk r p now = true → p.cabin = cabin → entryOf r p now ∈ queueOf r list cabin now
  | [], h, _, _ => absurd h List.not_mem_nil
  | q :: ps, h, ho, hc => by
    unfold queueOf
    rcases List.mem_cons.1 h with rfl | h
    · simp only [ho, hc, beq_self_eq_true, Bool.and_self, if_true, qIns_eq]
      exact insL_memR (.inl rfl)
    · split
      · rw [qIns_eq]; exact insL_memR (.inr (queueOf_in h ho hc))
      · exact queueOf_in h ho hc
theorem insL_memL {α : Type} {lt : α → α → Bool} {e x : α} : ∀ {l : List α}, x ∈ insL lt l e → x = e ∨ x ∈ l
  | [], h => by simpa [insL] using h
  | y :: l, h => by
    unfold insL at h
    split at h
    · rcases List.mem_cons.1 h with rfl | h
      · simp
      · rcases insL_memL h with h | h <;> simp [h]
    · rcases List.mem_cons.1 h with rfl | h
      · simp
      · exact .inr h
theorem queueOf_out {r : Rules} {cabin now : Int} {e : Entry} : ∀ {list : List Party}, e ∈ queueOf r list cabin now → ∃ p ∈ list, entryOk r p now = true ∧ p.cabin = cabin ∧ e = entryOf r p now
  | [], h => by simp [queueOf] at h
  | p :: ps, h => by
    unfold queueOf at h
    split at h
    · rename_i hc
      simp only [Bool.and_eq_true, beq_iff_eq] at hc
      rw [qIns_eq] at h
      rcases insL_memL h with rfl | h
      · exact ⟨p, by simp, hc.1, hc.2, rfl⟩
      · obtain ⟨q, hq, h2⟩ := queueOf_out h
        exact ⟨q, by simp [hq], h2⟩
    · obtain ⟨q, hq, h2⟩ := queueOf_out h
      exact ⟨q, by simp [hq], h2⟩
theorem idxF_at {α : Type} {q : α → Bool} : ∀ (l : List α) (n : Nat), 0 ≤ idxF q l n → ∃ (i : Nat) (e : α), idxF q l n = ((n + i : Nat) : Int) ∧ l[i]? = some e ∧ q e = true ∧ ∀ (j : Nat) (y : α), j < i → l[j]? = some y → q y = false
  | [], n, h => by simp [idxF] at h
  | e :: es, n, h => by
    unfold idxF at h ⊢
    cases hq : q e with
    | true => exact ⟨0, e, by simp, rfl, hq, fun j y hj => absurd hj (Nat.not_lt_zero _)⟩
    | false =>
      simp only [hq, Bool.false_eq_true, if_false] at h ⊢
      obtain ⟨i, x, h1, h2, h3, h4⟩ := idxF_at es (n + 1) h
      refine ⟨i + 1, x, by rw [h1]; omega, by simpa using h2, h3, fun j y hj hy => ?_⟩
      cases j with
      | zero => simp at hy; subst hy; exact hq
      | succ j => exact h4 j y (by omega) (by simpa using hy)
/-- rows that are right bear their entries in order -/
theorem row_lt {l : List Entry} (hq : QueueP l) : ∀ (d i : Nat) (x y : Entry), l[i]? = some x → l[i + d + 1]? = some y → entryLess x y = true
  | 0, i, x, y, hx, hy => (hq.2 (i + 0 + 1) y hy).2.1 (by omega) x (by simpa using hx)
  | d + 1, i, x, y, hx, hy => by
    have hl : i + d + 1 < l.length := by have := (List.getElem?_eq_some_iff.1 hy).1; omega
    have hz : l[i + d + 1]? = some l[i + d + 1] := List.getElem?_eq_getElem hl
    exact entryOrd.tr (row_lt hq d i x _ hx hz) ((hq.2 (i + (d + 1) + 1) y hy).2.1 (by omega) _ (by rw [show i + (d + 1) + 1 - 1 = i + d + 1 by omega]; exact hz))
theorem ids_lt {h : House} (hp : PartiesP h) : ∀ (d i : Nat) (x y : Party), h.parties[i]? = some x → h.parties[i + d + 1]? = some y → x.id < y.id
  | 0, i, x, y, hx, hy => (hp (i + 0 + 1) y hy).2.2.1 (by omega) x (by simpa using hx)
  | d + 1, i, x, y, hx, hy => by
    have hl : i + d + 1 < h.parties.length := by have := (List.getElem?_eq_some_iff.1 hy).1; omega
    have hz : h.parties[i + d + 1]? = some h.parties[i + d + 1] := List.getElem?_eq_getElem hl
    have h1 := ids_lt hp d i x _ hx hz
    have h2 := (hp (i + (d + 1) + 1) y hy).2.2.1 (by omega) h.parties[i + d + 1] (by rw [show i + (d + 1) + 1 - 1 = i + d + 1 by omega]; exact hz)
    omega
theorem ids_one {h : House} (hp : PartiesP h) {x y : Party} (hx : x ∈ h.parties) (hy : y ∈ h.parties) (he : x.id = y.id) : x = y := by
  obtain ⟨i, hi⟩ := List.mem_iff_getElem?.1 hx
  obtain ⟨j, hj⟩ := List.mem_iff_getElem?.1 hy
  rcases Nat.lt_trichotomy i j with h1 | h1 | h1
  · have := ids_lt hp (j - i - 1) i x y hi (by rw [show i + (j - i - 1) + 1 = j by omega]; exact hj)
    omega
  · subst h1; rw [hi] at hj; injection hj
  · have := ids_lt hp (i - j - 1) j y x hj (by rw [show j + (i - j - 1) + 1 = i by omega]; exact hi)
    omega
def skipGo (now : Int) : List Party → List Int
  | [] => []
  | p :: ps => if restingB p now then p.id :: skipGo now ps else skipGo now ps
theorem skipGo_mem {now x : Int} : ∀ {l : List Party}, x ∈ skipGo now l → ∃ p ∈ l, restingB p now = true ∧ p.id = x
  | [], h => by simp [skipGo] at h
  | p :: ps, h => by
    unfold skipGo at h
    split at h
    · rcases List.mem_cons.1 h with rfl | h
      · exact ⟨p, by simp, by assumption, rfl⟩
      · obtain ⟨q, hq, h2⟩ := skipGo_mem h; exact ⟨q, by simp [hq], h2⟩
    · obtain ⟨q, hq, h2⟩ := skipGo_mem h; exact ⟨q, by simp [hq], h2⟩
/-- an entry that fits and is not to be skipped -/
def fitE (free : Int) (skip : List Int) (e : Entry) : Bool := decide (e.size ≤ free) && !(skip.any fun y => y == e.id)
theorem fitE_of {free : Int} {skip : List Int} {e : Entry} (h : e.size ≤ free) : fitE free skip e = !(skip.any fun y => e.id == y) := by
  have h2 : skip.any (fun y => e.id == y) = skip.any (fun y => y == e.id) := by congr 1; funext y; rw [Bool.eq_iff_iff, beq_iff_eq, beq_iff_eq]; exact eq_comm
  rw [h2]; simp only [fitE, h, decide_true, Bool.true_and]
theorem fitE_no {free : Int} {skip : List Int} {e : Entry} (h : ¬ e.size ≤ free) : fitE free skip e = false := by simp only [fitE, h, decide_false, Bool.false_and]
def firstFit (row : List Entry) (free : Int) (skip : List Int) : Int := idxF (fitE free skip) row 0
theorem firstFit_lt (row : List Entry) (free : Int) (skip : List Int) : firstFit row free skip < (row.length : Int) ∧ -1 ≤ firstFit row free skip := by
  have h1 := idxF_lt (q := fitE free skip) row 0
  have h2 := (idxF_none (q := fitE free skip) row 0).2
  unfold firstFit
  omega
noncomputable def nextOffer (h : House) (cabin : Int) : Int :=
  if hasCab h cabin then match h.cabins[cabin.toNat]? with
    | some c => if firstFit c.row c.seats.free (skipGo h.now h.parties) < 0 then 0 else match c.row[(firstFit c.row c.seats.free (skipGo h.now h.parties)).toNat]? with
      | some e => e.id
      | none => 0
    | none => 0
  else 0
theorem nextOffer_no {h : House} {cabin : Int} (hb : hasCab h cabin = false) : nextOffer h cabin = 0 := by simp [nextOffer, hb]
theorem nextOffer_neg {h : House} {cabin : Int} {c : Cabin} (hb : hasCab h cabin = true) (hc : h.cabins[cabin.toNat]? = some c) (hk : firstFit c.row c.seats.free (skipGo h.now h.parties) < 0) : nextOffer h cabin = 0 := by
  simp [nextOffer, hb, hc, hk]
theorem nextOffer_at {h : House} {cabin : Int} {c : Cabin} {e : Entry} (hb : hasCab h cabin = true) (hc : h.cabins[cabin.toNat]? = some c) (hk : ¬ firstFit c.row c.seats.free (skipGo h.now h.parties) < 0)
    (he : c.row[(firstFit c.row c.seats.free (skipGo h.now h.parties)).toNat]? = some e) : nextOffer h cabin = e.id := by
  simp [nextOffer, hb, hc, hk, he]
theorem atId_at {l : List Party} {id : Int} (h : ¬ atId l id < 0) : ∃ p, l[(atId l id).toNat]? = some p ∧ p.id = id := by
  obtain ⟨i, e, h1, h2, h3, _⟩ := idxF_at (q := fun e : Party => e.id == id) l 0 (by unfold atId at h; omega)
  refine ⟨e, ?_, by simpa using h3⟩
  unfold atId
  rw [h1]; simpa using h2
theorem before_irr (r : Rules) (p : Party) (now : Int) : beforeB r p p now = false := by
  simp [beforeB]
theorem passGo_mem {h : House} {cabin x : Int} {q : Party} : ∀ {l : List Party}, x ∈ passGo h cabin q l → ∃ p ∈ l, p.id = x ∧ fitsB h cabin p = true ∧ beforeB h.rules p q h.now = true
  | [], hx => by simp [passGo] at hx
  | p :: ps, hx => by
    unfold passGo at hx
    split at hx
    · rename_i hc
      simp only [Bool.and_eq_true] at hc
      rcases List.mem_cons.1 hx with rfl | hx
      · exact ⟨p, by simp, rfl, hc⟩
      · obtain ⟨z, hz, h2⟩ := passGo_mem hx; exact ⟨z, by simp [hz], h2⟩
    · obtain ⟨z, hz, h2⟩ := passGo_mem hx; exact ⟨z, by simp [hz], h2⟩
theorem passGo_eq (h : House) (cabin : Int) (q : Party) : ∀ l : List Party, passGo h cabin q l = (l.filter fun p => fitsB h cabin p && beforeB h.rules p q h.now).map (·.id)
  | [] => rfl
  | p :: ps => by
    unfold passGo
    rw [List.filter_cons, passGo_eq h cabin q ps]
    split <;> simp
theorem agrees_row {h : House} {k : Nat} {c : Cabin} (hh : HouseP h) (hc : h.cabins[k]? = some c) : QueueP c.row ∧ c.row = queueOf h.rules h.parties k h.now := by
  obtain ⟨_, _, _, _, _, _, _, h8⟩ := hh
  have ha := (h8 k c hc).2.1
  simp only [agrees, Bool.and_eq_true, cabinOk] at ha
  obtain ⟨⟨⟨⟨⟨⟨_, hq⟩, _⟩, hr⟩, _⟩, _⟩, _⟩ := ha
  exact ⟨queueP_of hq, (sameRow_iff _ _).1 hr⟩
theorem passed_of_mem {h : House} {cabin id x : Int} (hx : x ∈ passed h cabin id) : ∃ q, hasCab h cabin = true ∧ q ∈ h.parties ∧ q.id = id ∧ q.cabin = cabin ∧ passed h cabin id = passGo h cabin q h.parties := by
  cases hb : hasCab h cabin with
  | false => rw [passed_no hb] at hx; exact absurd hx List.not_mem_nil
  | true =>
    by_cases hn : atId h.parties id < 0
    · rw [passed_neg hn] at hx; exact absurd hx List.not_mem_nil
    · obtain ⟨q, hq, hi⟩ := atId_at hn
      by_cases hc : q.cabin = cabin
      · exact ⟨q, rfl, List.mem_of_getElem? hq, hi, hc, passed_of hb hn hq hc⟩
      · rw [passed_ne hq hc] at hx; exact absurd hx List.not_mem_nil
theorem hasCab_P {h : House} {cabin : Int} (hb : hasCab h cabin = true) : HouseP h := by
  simp only [hasCab, Bool.and_eq_true] at hb; exact houseP_of hb.1
theorem passed_id {h : House} {cabin id x : Int} (hx : x ∈ passed h cabin id) : x ≠ id := by
  obtain ⟨q, hb, hq, hi, hc, he⟩ := passed_of_mem hx
  have hp := (hasCab_P hb).2.2.2.2.2.1
  rw [he] at hx
  obtain ⟨p, hpm, h1, h2, h3⟩ := passGo_mem hx
  intro h9
  have := ids_one hp hpm hq (by omega)
  subst this
  rw [before_irr] at h3; cases h3
theorem passed_lt {h : House} {cabin id x y : Int} {i : Nat} (h0 : 0 < i) (hx : (passed h cabin id)[i - 1]? = some x) (hy : (passed h cabin id)[i]? = some y) : x < y := by
  obtain ⟨q, hb, hq, hi, hc, he⟩ := passed_of_mem (List.mem_of_getElem? hx)
  have hp := (hasCab_P hb).2.2.2.2.2.1
  have hs : h.parties.Pairwise fun a b => a.id < b.id := by
    rw [List.pairwise_iff_getElem]
    intro i j hi hj hij
    exact ids_lt hp (j - i - 1) i _ _ (List.getElem?_eq_getElem hi) (by rw [show i + (j - i - 1) + 1 = j by omega]; exact List.getElem?_eq_getElem hj)
  have hs2 : (passed h cabin id).Pairwise (· < ·) := by
    rw [he, passGo_eq, List.pairwise_map]
    exact hs.filter _
  rw [List.pairwise_iff_getElem] at hs2
  obtain ⟨g1, e1⟩ := List.getElem?_eq_some_iff.1 hx
  obtain ⟨g2, e2⟩ := List.getElem?_eq_some_iff.1 hy
  have := hs2 (i - 1) i g1 g2 (by omega)
  rw [e1, e2] at this; exact this
theorem nextOffer_passed {h : House} {cabin : Int} (h0 : nextOffer h cabin ≠ 0) : passed h cabin (nextOffer h cabin) = [] := by
  rcases List.eq_nil_or_concat (passed h cabin (nextOffer h cabin)) with h1 | ⟨l, x, h1⟩
  · exact h1
  · exfalso
    have hx : x ∈ passed h cabin (nextOffer h cabin) := by rw [h1]; simp
    obtain ⟨p, hb, hp, hi, hc, he⟩ := passed_of_mem hx
    have hh := hasCab_P hb
    have hps := hh.2.2.2.2.2.1
    rw [he] at hx
    obtain ⟨q, hq, _, hf, hbf⟩ := passGo_mem hx
    have hcb := hasCab_in hb
    obtain ⟨c, hc1⟩ : ∃ c, h.cabins[cabin.toNat]? = some c := ⟨_, List.getElem?_eq_getElem (by omega)⟩
    have hcn : ((cabin.toNat : Nat) : Int) = cabin := by omega
    obtain ⟨hqp, hrow⟩ := agrees_row hh hc1
    rw [hcn] at hrow
    by_cases hk : firstFit c.row c.seats.free (skipGo h.now h.parties) < 0
    · exact h0 (nextOffer_neg hb hc1 hk)
    · obtain ⟨k, e, hk1, hk2, hk3, hk4⟩ := idxF_at c.row 0 (by unfold firstFit at hk; exact Int.not_lt.1 hk)
      have hk5 : firstFit c.row c.seats.free (skipGo h.now h.parties) = (k : Int) := by unfold firstFit; rw [hk1]; simp
      have hid : nextOffer h cabin = e.id := nextOffer_at hb hc1 hk (by rw [hk5]; simpa using hk2)
      obtain ⟨p2, hp2, ho2, hc2, he2⟩ := queueOf_out (hrow ▸ List.mem_of_getElem? hk2 : e ∈ queueOf h.rules h.parties cabin h.now)
      have hpe : e.id = p2.id := by rw [he2]; simp [entryOf, ho2]
      have hpp : p2 = p := ids_one hps hp2 hp (by omega)
      subst hpp
      simp only [fitsB, Bool.and_eq_true, beq_iff_eq, Bool.not_eq_true', decide_eq_true_eq] at hf
      obtain ⟨⟨⟨f1, f2⟩, f3⟩, f4⟩ := hf
      obtain ⟨qi, hqi⟩ := List.mem_iff_getElem?.1 hq
      have hqok := (hps qi q hqi).1
      have hqe : entryOk h.rules q h.now = true := by rw [entryOk_iff, hqok, f2]; rfl
      have hm := queueOf_in (cabin := cabin) hq hqe f1
      rw [← hrow] at hm
      obtain ⟨j, hj⟩ := List.mem_iff_getElem?.1 hm
      have hfr := freeAt_of hc1
      have hqfit : fitE c.seats.free (skipGo h.now h.parties) (entryOf h.rules q h.now) = true := by
        unfold fitE
        have e1 : (entryOf h.rules q h.now).size = q.size := by simp [entryOf, hqe]
        have e2 : (entryOf h.rules q h.now).id = q.id := by simp [entryOf, hqe]
        rw [e1, e2, ← hfr]
        simp only [f4, decide_true, Bool.true_and, Bool.not_eq_true']
        rw [List.any_eq_false]
        intro y hy hyq
        obtain ⟨z, hz, hz1, hz2⟩ := skipGo_mem hy
        have := ids_one hps hz hq (by simp at hyq; omega)
        subst this
        rw [hz1] at f3; cases f3
      rcases Nat.lt_trichotomy j k with h2 | h2 | h2
      · have := hk4 j _ h2 hj
        rw [hqfit] at this; cases this
      · subst h2
        rw [hj] at hk2
        injection hk2 with hk2
        have hqp : q = p2 := ids_one hps hq hp (by rw [← hpe, ← hk2]; simp [entryOf, hqe])
        subst hqp
        rw [before_irr] at hbf; cases hbf
      · have hl := row_lt hqp (j - k - 1) k _ _ hk2 (by rw [show k + (j - k - 1) + 1 = j by omega]; exact hj)
        rw [he2] at hl
        simp only [entryLess, entryOf, ho2, hqe, if_true, beforeB, Bool.and_eq_true, Bool.or_eq_true, decide_eq_true_eq, beq_iff_eq] at hl hbf
        omega
end SX
end Go.Proofs.YtcbpmjfjdjpalaaGreat
