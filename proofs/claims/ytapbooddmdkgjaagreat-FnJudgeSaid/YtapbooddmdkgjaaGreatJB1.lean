/- Texts of this claim, put together by program. -/
import Derived.Test.YtapbooddmdkgjaaGreatMdlm
import Derived.Test.YtapbooddmdkgjaaGreatMdln
import Derived.Test.YtapbooddmdkgjaaGreatSx9
import Derived.Test.YtapbooddmdkgjaaGreatAZ
import Derived.Test.YtapbooddmdkgjaaGreatMdb1
namespace Go.Proofs.YtapbooddmdkgjaaGreat
namespace SX
set_option linter.unusedVariables false
set_option linter.unusedSimpArgs false
open Go Go.RowKit
theorem levelOf_neg (r : Rules) (p : Party) (now : Int) : decide (levelOf r p now < 0) = !partyOk r p now := by
  unfold levelOf
  have := levelAt_nn r p.tier (wr (now - p.since))
  cases h : partyOk r p now with
  | true => simp only [if_true, Bool.not_true, decide_eq_false_iff_not]; omega
  | false => simp
theorem entryOk_iff (r : Rules) (p : Party) (now : Int) : entryOk r p now = (partyOk r p now && p.state == 1) := by simp [entryOk, levelOf_neg]
theorem freeAt_of {h : House} {cabin : Int} {c : Cabin} (hc : h.cabins[cabin.toNat]? = some c) : freeAt h cabin = c.seats.free := by simp [freeAt, hc]
theorem passed_no {h : House} {cabin id : Int} (hb : hasCab h cabin = false) : passed h cabin id = [] := by simp [passed, hb]
theorem passed_neg {h : House} {cabin id : Int} (hb : atId h.parties id < 0) : passed h cabin id = [] := by simp [passed, hb]
theorem passed_ne {h : House} {cabin id : Int} {q : Party} (hq : h.parties[(atId h.parties id).toNat]? = some q) (hc : q.cabin ≠ cabin) : passed h cabin id = [] := by simp [passed, hq, hc]
theorem passed_of {h : House} {cabin id : Int} {q : Party} (hb : hasCab h cabin = true) (hn : ¬ atId h.parties id < 0) (hq : h.parties[(atId h.parties id).toNat]? = some q) (hc : q.cabin = cabin) : passed h cabin id = passGo h cabin q h.parties := by
  simp [passed, hb, hn, hq, hc]
/-- rows that are right bear their entries in order -/
theorem row_lt {l : List Entry} (hq : QueueP l) : ∀ (d i : Nat) (x y : Entry), l[i]? = some x → l[i + d + 1]? = some y → entryLess x y = true
  | 0, i, x, y, hx, hy => (hq.2 (i + 0 + 1) y hy).2.1 (by omega) x (by simpa using hx)
  | d + 1, i, x, y, hx, hy => by
    have hl : i + d + 1 < l.length := by have := (List.getElem?_eq_some_iff.1 hy).1; omega
    have hz : l[i + d + 1]? = some l[i + d + 1] := List.getElem?_eq_getElem hl
    exact entryOrd.tr (row_lt hq d i x _ hx hz) ((hq.2 (i + (d + 1) + 1) y hy).2.1 (by omega) _ (by rw [show i + (d + 1) + 1 - 1 = i + d + 1 by omega]; exact hz))
theorem ids_one {h : House} (hp : PartiesP h) {x y : Party} (hx : x ∈ h.parties) (hy : y ∈ h.parties) (he : x.id = y.id) : x = y := by
  obtain ⟨i, hi⟩ := List.mem_iff_getElem?.1 hx
  obtain ⟨j, hj⟩ := List.mem_iff_getElem?.1 hy
  rcases Nat.lt_trichotomy i j with h1 | h1 | h1
  · have := ids_lt hp (j - i - 1) i x y hi (by rw [show i + (j - i - 1) + 1 = j by omega]; exact hj)
    omega
  · subst h1; rw [hi] at hj; injection hj
  · have := ids_lt hp (i - j - 1) j y x hj (by rw [show j + (i - j - 1) + 1 = i by omega]; exact hi)
    omega
theorem skipGo_mem {now x : Int} : ∀ {l : List Party}, x ∈ skipGo now l → ∃ p ∈ l, restingB p now = true ∧ p.id = x
  | [], h => by simp [skipGo] at h
  | p :: ps, h => by
    unfold skipGo at h
    split at h
    · rcases List.mem_cons.1 h with rfl | h
      · exact ⟨p, by simp, by assumption, rfl⟩
      · obtain ⟨q, hq, h2⟩ := skipGo_mem h; exact ⟨q, by simp [hq], h2⟩
    · obtain ⟨q, hq, h2⟩ := skipGo_mem h; exact ⟨q, by simp [hq], h2⟩
theorem before_irr (r : Rules) (p : Party) (now : Int) : beforeB r p p now = false := by
  simp [beforeB]
theorem passGo_mem {h : House} {cabin x : Int} {q : Party} : ∀ {l : List Party}, x ∈ passGo h cabin q l → ∃ p ∈ l, p.id = x ∧ fitsB h cabin p = true ∧ beforeB h.rules p q h.now = true
  | [], hx => by simp [passGo] at hx
  | p :: ps, hx => by
    unfold passGo at hx
    split at hx
    · rename_i hc
      simp only [Bool.and_eq_true] at hc
      rcases List.mem_cons.1 hx with rfl | hx
      · exact ⟨p, by simp, rfl, hc⟩
      · obtain ⟨z, hz, h2⟩ := passGo_mem hx; exact ⟨z, by simp [hz], h2⟩
    · obtain ⟨z, hz, h2⟩ := passGo_mem hx; exact ⟨z, by simp [hz], h2⟩
theorem passGo_eq (h : House) (cabin : Int) (q : Party) : ∀ l : List Party, passGo h cabin q l = (l.filter fun p => fitsB h cabin p && beforeB h.rules p q h.now).map (·.id)
  | [] => rfl
  | p :: ps => by
    unfold passGo
    rw [List.filter_cons, passGo_eq h cabin q ps]
    split <;> simp
theorem passed_of_mem {h : House} {cabin id x : Int} (hx : x ∈ passed h cabin id) : ∃ q, hasCab h cabin = true ∧ q ∈ h.parties ∧ q.id = id ∧ q.cabin = cabin ∧ passed h cabin id = passGo h cabin q h.parties := by
  cases hb : hasCab h cabin with
  | false => rw [passed_no hb] at hx; exact absurd hx List.not_mem_nil
  | true =>
    by_cases hn : atId h.parties id < 0
    · rw [passed_neg hn] at hx; exact absurd hx List.not_mem_nil
    · obtain ⟨q, hq, hi⟩ := atId_at hn
      by_cases hc : q.cabin = cabin
      · exact ⟨q, rfl, List.mem_of_getElem? hq, hi, hc, passed_of hb hn hq hc⟩
      · rw [passed_ne hq hc] at hx; exact absurd hx List.not_mem_nil
theorem nextOffer_passed {h : House} {cabin : Int} (h0 : nextOffer h cabin ≠ 0) : passed h cabin (nextOffer h cabin) = [] := by
  rcases List.eq_nil_or_concat (passed h cabin (nextOffer h cabin)) with h1 | ⟨l, x, h1⟩
  · exact h1
  · exfalso
    have hx : x ∈ passed h cabin (nextOffer h cabin) := by rw [h1]; simp
    obtain ⟨p, hb, hp, hi, hc, he⟩ := passed_of_mem hx
    have hh := hasCab_P hb
    have hps := hh.2.2.2.2.2.1
    rw [he] at hx
    obtain ⟨q, hq, _, hf, hbf⟩ := passGo_mem hx
    have hcb := hasCab_in hb
    obtain ⟨c, hc1⟩ : ∃ c, h.cabins[cabin.toNat]? = some c := ⟨_, List.getElem?_eq_getElem (by omega)⟩
    have hcn : ((cabin.toNat : Nat) : Int) = cabin := by omega
    obtain ⟨hqp, hrow⟩ := agrees_row hh hc1
    rw [hcn] at hrow
    by_cases hk : firstFit c.row c.seats.free (skipGo h.now h.parties) < 0
    · exact h0 (nextOffer_neg hb hc1 hk)
    · obtain ⟨k, e, hk1, hk2, hk3, hk4⟩ := idxF_at c.row 0 (by unfold firstFit at hk; exact Int.not_lt.1 hk)
      have hk5 : firstFit c.row c.seats.free (skipGo h.now h.parties) = (k : Int) := by unfold firstFit; rw [hk1]; simp
      have hid : nextOffer h cabin = e.id := nextOffer_at hb hc1 hk (by rw [hk5]; simpa using hk2)
      obtain ⟨p2, hp2, ho2, hc2, he2⟩ := queueOf_out (hrow ▸ List.mem_of_getElem? hk2 : e ∈ queueOf h.rules h.parties cabin h.now)
      have hpe : e.id = p2.id := by rw [he2]; simp [entryOf, ho2]
      have hpp : p2 = p := ids_one hps hp2 hp (by omega)
      subst hpp
      simp only [fitsB, Bool.and_eq_true, beq_iff_eq, Bool.not_eq_true', decide_eq_true_eq] at hf
      obtain ⟨⟨⟨f1, f2⟩, f3⟩, f4⟩ := hf
      obtain ⟨qi, hqi⟩ := List.mem_iff_getElem?.1 hq
      have hqok := (hps qi q hqi).1
      have hqe : entryOk h.rules q h.now = true := by rw [entryOk_iff, hqok, f2]; rfl
      have hm := queueOf_in (cabin := cabin) hq hqe f1
      rw [← hrow] at hm
      obtain ⟨j, hj⟩ := List.mem_iff_getElem?.1 hm
      have hfr := freeAt_of hc1
      have hqfit : fitE c.seats.free (skipGo h.now h.parties) (entryOf h.rules q h.now) = true := by
        unfold fitE
        have e1 : (entryOf h.rules q h.now).size = q.size := by simp [entryOf, hqe]
        have e2 : (entryOf h.rules q h.now).id = q.id := by simp [entryOf, hqe]
        rw [e1, e2, ← hfr]
        simp only [f4, decide_true, Bool.true_and, Bool.not_eq_true']
        rw [List.any_eq_false]
        intro y hy hyq
        obtain ⟨z, hz, hz1, hz2⟩ := skipGo_mem hy
        have := ids_one hps hz hq (by simp at hyq; omega)
        subst this
        rw [hz1] at f3; cases f3
      rcases Nat.lt_trichotomy j k with h2 | h2 | h2
      · have := hk4 j _ h2 hj
        rw [hqfit] at this; cases this
      · subst h2
        rw [hj] at hk2
        injection hk2 with hk2
        have hqp : q = p2 := ids_one hps hq hp (by rw [← hpe, ← hk2]; simp [entryOf, hqe])
        subst hqp
        rw [before_irr] at hbf; cases hbf
      · have hl := row_lt hqp (j - k - 1) k _ _ hk2 (by rw [show k + (j - k - 1) + 1 = j by omega]; exact hj)
        rw [he2] at hl
        simp only [entryLess, entryOf, ho2, hqe, if_true, beforeB, Bool.and_eq_true, Bool.or_eq_true, decide_eq_true_eq, beq_iff_eq] at hl hbf
        omega
noncomputable def jsGo (k : Int) : List Int → House → Option House
  | [], x => some x
  | id :: ids, x => if atId x.parties id < 0 ∨ fitsB x k (partyOf x.parties id) = false ∨ 0 < (passed x k id).length then none else jsGo k ids (offer x k)
noncomputable def judgeScan (h : House) (k : Int) (ids : List Int) : Bool :=
  if hasCab h k then (match jsGo k ids (expireM h k) with
    | none => false
    | some x => !(x.parties.any (fitsB x k))) else false
theorem jsGo_no {k id : Int} {ids : List Int} {x : House} (h : atId x.parties id < 0 ∨ fitsB x k (partyOf x.parties id) = false ∨ 0 < (passed x k id).length) : jsGo k (id :: ids) x = none := by
  simp only [jsGo]; rw [if_pos h]
theorem jsGo_go {k id : Int} {ids : List Int} {x : House} (h1 : ¬ atId x.parties id < 0) (h2 : fitsB x k (partyOf x.parties id) = true) (h3 : ¬ 0 < (passed x k id).length) : jsGo k (id :: ids) x = jsGo k ids (offer x k) := by
  simp only [jsGo]; rw [if_neg]
  rintro (h | h | h)
  · exact h1 h
  · rw [h2] at h; cases h
  · exact h3 h
theorem judgeScan_no {h : House} {k : Int} {ids : List Int} (hc : hasCab h k = false ∨ jsGo k ids (expireM h k) = none) : judgeScan h k ids = false := by
  unfold judgeScan
  rcases hc with hc | hc
  · rw [if_neg (by rw [hc]; decide)]
  · split
    · rw [hc]
    · rfl
theorem judgeScan_yes {h x : House} {k : Int} {ids : List Int} (hc : hasCab h k = true) (hx : jsGo k ids (expireM h k) = some x) : judgeScan h k ids = !(x.parties.any (fitsB x k)) := by
  unfold judgeScan
  rw [if_pos hc, hx]
theorem offer_ok {h : House} {cabin : Int} (hb : hasCab h cabin = true) : HRep (offer h cabin) ∧ hasCab (offer h cabin) cabin = true := by
  unfold offer
  by_cases hz : nextOffer h cabin = 0
  · rw [if_pos hz]; exact ⟨(hasCab_rep hb).1, hb⟩
  · rw [if_neg hz]; exact ⟨(offered_hp hz).1, (offered_hp hz).2⟩
theorem skipGo_in {now : Int} {p : Party} : ∀ {l : List Party}, p ∈ l → restingB p now = true → p.id ∈ skipGo now l
  | q :: ps, h, hr => by
    unfold skipGo
    rcases List.mem_cons.1 h with rfl | h
    · rw [if_pos hr]; simp
    · split
      · exact List.mem_cons_of_mem _ (skipGo_in h hr)
      · exact skipGo_in h hr
theorem fit_party {h : House} {cabin : Int} {c : Cabin} {p : Party} (hp : HRep h) (hc : h.cabins[cabin.toNat]? = some c) (hm : p ∈ h.parties) (ho : entryOk h.rules p h.now = true) (hk : p.cabin = cabin) :
    fitE c.seats.free (skipGo h.now h.parties) (entryOf h.rules p h.now) = fitsB h cabin p := by
  have hs : p.state = 1 := (entryOk_st (hp.good.pok hm)).1 ho
  have e1 : (entryOf h.rules p h.now).size = p.size := by simp [entryOf, ho]
  have e2 : (entryOf h.rules p h.now).id = p.id := by simp [entryOf, ho]
  have e3 : (skipGo h.now h.parties).any (fun y => y == p.id) = restingB p h.now := by
    cases hr : restingB p h.now with
    | true => exact List.any_eq_true.2 ⟨p.id, skipGo_in hm hr, by simp⟩
    | false =>
      rw [List.any_eq_false]
      intro y hy hyq
      obtain ⟨z, hz, hz1, hz2⟩ := skipGo_mem hy
      have := hp.good.one hz hm (by simp at hyq; omega)
      subst this
      rw [hr] at hz1; cases hz1
  unfold fitE fitsB
  rw [e1, e2, e3, freeAt_of hc, hk, hs]
  simp [Bool.and_comm]
theorem row_of {h : House} {cabin : Int} {c : Cabin} (hp : HRep h) (h0 : 0 ≤ cabin) (hc : h.cabins[cabin.toNat]? = some c) (e : Entry) : e ∈ c.row ↔ rowM h.rules h.now h.parties cabin e := by
  have := (hp.cab _ c hc).2.1.row e
  rwa [show ((cabin.toNat : Nat) : Int) = cabin by omega] at this
/-- the next offer's party is the first that fits -/
theorem next_fits {h : House} {cabin : Int} (hb : hasCab h cabin = true) (h0 : nextOffer h cabin ≠ 0) : fitsB h cabin (partyOf h.parties (nextOffer h cabin)) = true := by
  obtain ⟨hp, c0, c1⟩ := hasCab_rep hb
  obtain ⟨c, hc⟩ : ∃ c, h.cabins[cabin.toNat]? = some c := ⟨_, List.getElem?_eq_getElem (by omega)⟩
  by_cases hk : firstFit c.row c.seats.free (skipGo h.now h.parties) < 0
  · exact absurd (nextOffer_neg hb hc hk) h0
  · obtain ⟨k, e, hk1, hk2, hk3, hk4⟩ := idxF_at c.row 0 (by unfold firstFit at hk; exact Int.not_lt.1 hk)
    have hk5 : firstFit c.row c.seats.free (skipGo h.now h.parties) = (k : Int) := by unfold firstFit; rw [hk1]; simp
    have hid : nextOffer h cabin = e.id := nextOffer_at hb hc hk (by rw [hk5]; simpa using hk2)
    obtain ⟨p, hm, ho, hcb, he⟩ := (row_of hp c0 hc e).1 (List.mem_of_getElem? hk2)
    have hpe : e.id = p.id := by rw [he]; simp [entryOf, ho]
    rw [hid, hpe, partyOf_mem hp.ids hm, ← fit_party hp hc hm ho hcb, ← he]
    exact hk3
theorem fit_next {h : House} {cabin : Int} {p : Party} (hb : hasCab h cabin = true) (hm : p ∈ h.parties) (hf : fitsB h cabin p = true) : nextOffer h cabin ≠ 0 ∧ (passed h cabin p.id = [] → nextOffer h cabin = p.id) := by
  obtain ⟨hp, c0, c1⟩ := hasCab_rep hb
  obtain ⟨c, hc⟩ : ∃ c, h.cabins[cabin.toNat]? = some c := ⟨_, List.getElem?_eq_getElem (by omega)⟩
  have hf' := hf
  simp only [fitsB, Bool.and_eq_true, beq_iff_eq] at hf'
  obtain ⟨⟨⟨f1, f2⟩, f3⟩, f4⟩ := hf'
  have ho : entryOk h.rules p h.now = true := (entryOk_st (hp.good.pok hm)).2 f2
  have hrow := (row_of hp c0 hc (entryOf h.rules p h.now)).2 ⟨p, hm, ho, f1, rfl⟩
  have hfit := (fit_party hp hc hm ho f1).trans hf
  obtain ⟨j, hj⟩ := List.mem_iff_getElem?.1 hrow
  have hk : ¬ firstFit c.row c.seats.free (skipGo h.now h.parties) < 0 := by
    intro hk
    obtain ⟨n1, n2⟩ := idxF_none (q := fitE c.seats.free (skipGo h.now h.parties)) c.row 0
    have hn := n1.1 (n2.resolve_right (by unfold firstFit at hk; omega))
    have := hn _ (List.mem_of_getElem? hj)
    rw [hfit] at this; cases this
  obtain ⟨k, e, hk1, hk2, hk3, hk4⟩ := idxF_at c.row 0 (by unfold firstFit at hk; exact Int.not_lt.1 hk)
  have hk5 : firstFit c.row c.seats.free (skipGo h.now h.parties) = (k : Int) := by unfold firstFit; rw [hk1]; simp
  have hid : nextOffer h cabin = e.id := nextOffer_at hb hc hk (by rw [hk5]; simpa using hk2)
  obtain ⟨p2, hm2, ho2, hcb2, he2⟩ := (row_of hp c0 hc e).1 (List.mem_of_getElem? hk2)
  have hpe : e.id = p2.id := by rw [he2]; simp [entryOf, ho2]
  have hp2 := hp.good.ok p2 hm2
  refine ⟨by rw [hid, hpe]; have := hp2.id0; omega, fun hpa => ?_⟩
  by_cases he : p2 = p
  · rw [hid, hpe, he]
  · exfalso
    have hf2 : fitsB h cabin p2 = true := by rw [← fit_party hp hc hm2 ho2 hcb2, ← he2]; exact hk3
    have hqp := (agrees_row (houseP_iff.2 hp) hc).1
    have hbf : beforeB h.rules p2 p h.now = true := by
      rcases Nat.lt_trichotomy j k with h2 | h2 | h2
      · have := hk4 j _ h2 hj
        rw [hfit] at this; cases this
      · subst h2
        rw [hj] at hk2
        injection hk2 with hk2
        exact absurd (hp.good.one hm2 hm (by rw [← hpe, ← hk2]; simp [entryOf, ho])) he
      · have hl := row_lt hqp (j - k - 1) k _ _ hk2 (by rw [show k + (j - k - 1) + 1 = j by omega]; exact hj)
        have l1 := level_rng (hp.good.pok hm); have l2 := level_rng (hp.good.pok hm2)
        rw [he2] at hl
        simp only [entryLess, entryOf, ho2, ho, if_true, beforeB, Bool.and_eq_true, Bool.or_eq_true, decide_eq_true_eq, beq_iff_eq] at hl ⊢
        omega
    have hnn := atId_mem hm
    obtain ⟨q, hq1, hq2⟩ := atId_at hnn
    have hqe : q = p := hp.good.one (List.mem_of_getElem? hq1) hm hq2
    subst hqe
    rw [passed_of hb hnn hq1 f1, passGo_eq] at hpa
    have hmem : p2.id ∈ (h.parties.filter fun p => fitsB h cabin p && beforeB h.rules p q h.now).map (·.id) := List.mem_map_of_mem (List.mem_filter.2 ⟨hm2, by rw [hf2, hbf]; rfl⟩)
    rw [hpa] at hmem
    exact absurd hmem List.not_mem_nil
theorem next_none {h : House} {cabin : Int} (hb : hasCab h cabin = true) : (h.parties.any (fitsB h cabin)) = !decide (nextOffer h cabin = 0) := by
  cases ha : h.parties.any (fitsB h cabin) with
  | true =>
    obtain ⟨p, hm, hf⟩ := List.any_eq_true.1 ha
    have := (fit_next hb hm hf).1
    simp [this]
  | false =>
    rw [List.any_eq_false] at ha
    by_cases h0 : nextOffer h cabin = 0
    · simp [h0]
    · exact absurd (next_fits hb h0) (by have := ha _ (next_party h0).1; simpa using this)
theorem judge_go {k : Int} : ∀ (ids : List Int) (x : House), hasCab x k = true → (match jsGo k ids x with
    | none => false
    | some y => !(y.parties.any (fitsB y k))) = decide (ids = (scanM x k).2)
  | [], x, hb => by
    simp only [jsGo]
    rw [next_none hb]
    by_cases h0 : nextOffer x k = 0
    · rw [scanM_end h0]; simp [h0]
    · rw [scanM_step h0]; simp [h0]
  | id :: ids, x, hb => by
    by_cases hc : atId x.parties id < 0 ∨ fitsB x k (partyOf x.parties id) = false ∨ 0 < (passed x k id).length
    · rw [jsGo_no hc]
      symm
      rw [decide_eq_false_iff_not]
      intro he
      by_cases h0 : nextOffer x k = 0
      · rw [scanM_end h0] at he; cases he
      · rw [scanM_step h0] at he
        injection he with he _
        subst he
        rcases hc with hc | hc | hc
        · exact absurd hc (by have h9 := next_party h0; have := atId_mem h9.1; rwa [h9.2.1] at this)
        · rw [next_fits hb h0] at hc; cases hc
        · rw [nextOffer_passed h0] at hc; exact absurd hc (by simp)
    · have h1 : ¬ atId x.parties id < 0 := fun h => hc (.inl h)
      have h2 : fitsB x k (partyOf x.parties id) = true := by
        cases hq : fitsB x k (partyOf x.parties id) with
        | true => rfl
        | false => exact absurd (.inr (.inl hq)) hc
      have h3 : ¬ 0 < (passed x k id).length := fun h => hc (.inr (.inr h))
      obtain ⟨g1, g2⟩ := partyOf_in h1
      have hf := fit_next hb g1 h2
      rw [g2] at hf
      have hid := hf.2 (List.eq_nil_of_length_eq_zero (by omega))
      have h0 := hf.1
      rw [jsGo_go h1 h2 h3, offer, if_neg h0, judge_go ids _ (offered_hp h0).2, scanM_step h0]
      subst hid
      simp
theorem judge_scan {h : House} {k : Int} {ids : List Int} (hb : hasCab h k = true) : judgeScan h k ids = decide (ids = (scan h k).2) := by
  have hx := (expire_hp hb).2
  have h1 := judge_go (k := k) ids (expireM h k) hx
  unfold judgeScan scan
  rw [if_pos hb, if_pos hb]
  exact h1
end SX
end Go.Proofs.YtapbooddmdkgjaaGreat
