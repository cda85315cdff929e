/- Rounds: behind one all is idle, and nobody is late; a house that settles; in plain Lean. It imports no program. -/
import Derived.Test.YtapbooddmdkgjaaGreatMdb1
namespace Go.Proofs.YtapbooddmdkgjaaGreat
namespace SX
set_option linter.unusedVariables false
set_option linter.unusedSimpArgs false
open Go Go.RowKit
def prodB (h : House) (who : Int) : Prop := ¬ (jobAt h who < 0 ∧ h.todo.length = 0)
theorem verd7 {h : House} {who : Int} (hp : HRep h) (h0 : 0 ≤ who) (h1 : who < h.rules.crew) : verdict h ⟨7, who, 0, 0, 0, 0⟩ = if jobAt h who < 0 ∧ h.todo.length = 0 then 17 else 0 := by
  have hc := (rr_of hp.rules).crew
  have hr : reqOk ⟨7, who, 0, 0, 0, 0⟩ = true := by simp [reqOk, usedB, inB, reqEq]; omega
  unfold verdict
  rw [if_neg (by rw [hp.eq]; decide), if_neg (by show ¬ inB 7 1 7 = false; decide), if_neg (by rw [hr]; decide)]
  simp only [vKind]
  unfold vPick
  simp only [show ¬ ((7 : Int) = 1) by decide, show ¬ ((7 : Int) = 2) by decide, show ¬ ((7 : Int) = 3) by decide, show ¬ ((7 : Int) = 4 ∨ (7 : Int) = 5) by decide, show ¬ ((7 : Int) = 6) by decide, if_false, ge_iff_le, Int.not_le.2 h1]
theorem do7_no {h : House} {who : Int} (hp : HRep h) (h0 : 0 ≤ who) (h1 : who < h.rules.crew) (hn : jobAt h who < 0 ∧ h.todo.length = 0) : doM h ⟨7, who, 0, 0, 0, 0⟩ = h := by
  unfold doM
  rw [verd7 hp h0 h1, if_pos hn]; rfl
theorem do7 {h : House} {who : Int} (hp : HRep h) (h0 : 0 ≤ who) (h1 : who < h.rules.crew) (hn : prodB h who) : doM h ⟨7, who, 0, 0, 0, 0⟩ = (pickM h who).1 := by
  have hv : verdict h ⟨7, who, 0, 0, 0, 0⟩ = 0 := by rw [verd7 hp h0 h1, if_neg hn]
  unfold doM
  rw [if_pos hv]
  simp [doneM]
def muN (h : House) : Nat := 2 * h.todo.length + (h.jobs.filter fun j => decide (0 ≤ j)).length
theorem set_cnt {p : Int → Bool} {v : Int} : ∀ {l : List Int} {k : Nat} {j : Int}, l[k]? = some j → ((l.set k v).filter p).length + (if p j then 1 else 0) = (l.filter p).length + (if p v then 1 else 0)
  | x :: l, 0, j, h => by
    simp only [List.getElem?_cons_zero, Option.some.injEq] at h
    subst h
    simp only [List.set_cons_zero, List.filter_cons]
    split <;> split <;> (try simp only [List.length_cons]) <;> omega
  | x :: l, k + 1, j, h => by
    have := set_cnt (p := p) (v := v) (l := l) (k := k) (j := j) (by simpa using h)
    simp only [List.set_cons_succ, List.filter_cons]
    split <;> (try simp only [List.length_cons]) <;> omega
theorem pick_same {h : House} {who : Int} (hp : HRep h) (h0 : 0 ≤ who) (h1 : who < h.rules.crew) : (pickM h who).1.rules = h.rules ∧ (pickM h who).1.now = h.now := by
  obtain ⟨j1, j2, j3⟩ := job_rng hp h0 h1
  unfold pickM
  split
  · exact ⟨rfl, rfl⟩
  · obtain ⟨a1, a2, a3, a4, a5, a6⟩ := scan_hp hp (show 0 ≤ jobAt h who by omega) j3
    exact ⟨a3, a4⟩
theorem pick_mu {h : House} {who : Int} (hp : HRep h) (h0 : 0 ≤ who) (h1 : who < h.rules.crew) (hn : prodB h who) : muN (pickM h who).1 < muN h := by
  obtain ⟨j1, j2, j3⟩ := job_rng hp h0 h1
  unfold pickM
  split
  · rename_i hneg
    cases ht : h.todo with
    | nil => exact absurd ⟨hneg, by rw [ht]; rfl⟩ hn
    | cons t ts =>
      have h2 := set_cnt (p := fun j => decide (0 ≤ j)) (v := t) j1
      have h3 := hp.todoRng (x := t) (by rw [ht]; simp)
      simp only [muN, withJobs, ht, List.tail_cons, List.headD_cons, List.length_cons]
      rw [if_neg (by simp; omega), if_pos (by simp; omega)] at h2
      omega
  · rename_i hneg
    obtain ⟨a1, a2, a3, a4, a5, a6⟩ := scan_hp hp (show 0 ≤ jobAt h who by omega) j3
    have h2 := set_cnt (p := fun j => decide (0 ≤ j)) (v := -1) j1
    rw [if_pos (by simp; omega), if_neg (by decide)] at h2
    simp only [muN, withJobs, a5, a6]
    omega
theorem not_idle {h : House} (hp : HRep h) (hi : idleB h = false) : ∃ j, 0 ≤ j ∧ j < h.rules.crew ∧ prodB h j := by
  have hc := (rr_of hp.rules).crew
  have hl := (JobsP.iff.1 hp.jobs).2.2.2
  by_cases ht : h.todo.length = 0
  · have ha : h.jobs.all (fun j => decide (j < 0)) = false := by
      unfold idleB at hi
      rw [ht] at hi
      simpa using hi
    obtain ⟨x, hx, hx2⟩ := List.all_eq_false.1 ha
    obtain ⟨k, hk, rfl⟩ := List.mem_iff_getElem.1 hx
    refine ⟨k, by omega, by omega, fun hn => ?_⟩
    have : jobAt h k = h.jobs[k] := by simp [jobAt, List.getElem?_eq_getElem hk]
    rw [this] at hn
    exact hx2 (by simpa using hn.1)
  · exact ⟨0, by omega, by omega, fun hn => ht hn.2⟩
theorem prod_mu {h : House} {who : Int} (hp : HRep h) (h0 : 0 ≤ who) (h1 : who < h.rules.crew) (hn : prodB h who) : 1 ≤ muN h := by
  have := pick_mu hp h0 h1 hn
  omega
theorem drain_idle : ∀ (n : Nat) (i : Int) (h : House) (t : Int), 0 ≤ i → HRep h → 0 ≤ t → t < h.rules.crew → (idleB h = true ∨ prodB h ((i + t) % h.rules.crew)) → 3 * (muN h : Int) + t ≤ n + 2 → idleB (drainGo n i h) = true
  | 0, i, h, t, hi, hp, h0, h1, hd, hm => by
    rcases hd with hd | hd
    · exact hd
    · have hc := (rr_of hp.rules).crew
      have := prod_mu hp (Int.emod_nonneg _ (by omega)) (Int.emod_lt_of_pos _ (by omega)) hd
      omega
  | n + 1, i, h, t, hi, hp, h0, h1, hd, hm => by
    have hc := (rr_of hp.rules).crew
    unfold drainGo
    split
    · assumption
    · rename_i hid
      have hd2 : prodB h ((i + t) % h.rules.crew) := hd.resolve_left hid
      have e1 : Int.tmod i h.rules.crew = i % h.rules.crew := Int.tmod_eq_emod_of_nonneg hi
      rw [e1]
      have w0 := Int.emod_nonneg i (b := h.rules.crew) (by omega)
      have w1 := Int.emod_lt_of_pos i (b := h.rules.crew) (by omega)
      by_cases hpr : prodB h (i % h.rules.crew)
      · rw [do7 hp w0 w1 hpr]
        have hp2 := pick_hp hp w0 w1 hpr
        have hmu := pick_mu hp w0 w1 hpr
        have hru := (pick_same hp w0 w1).1
        cases hid2 : idleB (pickM h (i % h.rules.crew)).1 with
        | true => exact drain_idle n (i + 1) _ 0 (by omega) hp2 (by omega) (by rw [hru]; omega) (.inl hid2) (by omega)
        | false =>
          obtain ⟨j, j0, j1, j2⟩ := not_idle hp2 hid2
          rw [hru] at j1
          refine drain_idle n (i + 1) _ ((j - (i + 1)) % h.rules.crew) (by omega) hp2 (Int.emod_nonneg _ (by omega)) (by rw [hru]; exact Int.emod_lt_of_pos _ (by omega)) (.inr ?_) (by have := Int.emod_lt_of_pos (j - (i + 1)) (b := h.rules.crew) (by omega); omega)
          rw [hru, Int.add_emod_emod]
          rw [show i + 1 + (j - (i + 1)) = j by omega, Int.emod_eq_of_lt j0 j1]
          exact j2
      · have hno : jobAt h (i % h.rules.crew) < 0 ∧ h.todo.length = 0 := Classical.not_not.1 hpr
        rw [do7_no hp w0 w1 hno]
        have ht0 : t ≠ 0 := by rintro rfl; rw [Int.add_zero] at hd2; exact hpr hd2
        exact drain_idle n (i + 1) h (t - 1) (by omega) hp (by omega) (by omega) (.inr (by rw [show i + 1 + (t - 1) = i + t by omega]; exact hd2)) (by omega)
theorem todo_ln {h : House} (hp : HRep h) : h.todo.length ≤ h.cabins.length ∧ h.cabins.length ≤ 4 := by
  have hj := JobsP.iff.1 hp.jobs
  have hs := (rr_of hp.rules).seats; have hcb := hp.cabs
  have h1 := nodup_le (m := (List.range h.cabins.length).map (fun i : Nat => (i : Int))) hj.2.1 (fun x hx => by
    have := hp.todoRng hx
    exact List.mem_map.2 ⟨x.toNat, List.mem_range.2 (by omega), by omega⟩)
  rw [List.length_map, List.length_range] at h1
  exact ⟨h1, by omega⟩
theorem drained_idle {h : House} (hp : HRep h) : idleB (drained h) = true := by
  have hc := (rr_of hp.rules).crew
  have hl := (JobsP.iff.1 hp.jobs).2.2.2
  have ht := todo_ln hp
  have hm : muN h ≤ 11 := by
    have := List.length_filter_le (fun j => decide (0 ≤ j)) h.jobs
    unfold muN; omega
  unfold drained
  rw [if_pos hp.eq]
  cases hid : idleB h with
  | true => exact drain_idle 60 0 h 0 (by omega) hp (by omega) (by omega) (.inl hid) (by omega)
  | false =>
    obtain ⟨j, j0, j1, j2⟩ := not_idle hp hid
    exact drain_idle 60 0 h j (by omega) hp j0 j1 (.inr (by rw [Int.zero_add, Int.emod_eq_of_lt j0 j1]; exact j2)) (by omega)
theorem drained_at {h : House} (hi : idleB h = true) : drained h = h := by
  unfold drained
  split
  · unfold drainGo; rw [if_pos hi]
  · rfl
/-! ### Nobody is late -/
theorem due_st {p : Party} {now : Int} : dueB p now = true ↔ p.state = 2 ∧ p.until' ≤ now := by simp [dueB]
theorem put_out {l : List Party} {p q x : Party} (hd : (l.map (·.id)).Nodup) (hp : p ∈ l) (he : q.id = p.id) (hx : x ∈ partyPut l q) : x = q ∨ (x ∈ l ∧ x.id ≠ p.id) := by
  rcases List.mem_cons.1 ((partyPut_perm hd hp he).mem_iff.1 hx) with h | h
  · exact .inl h
  · exact .inr (cut_out hd hp h)
theorem fails_out {h : House} {p x : Party} (hp : HRep h) (hm : p ∈ h.parties) (hx : x ∈ (failsM h p).parties) (hs : x.state = 2) : x ∈ h.parties ∧ x.id ≠ p.id := by
  rw [fails_parties] at hx
  split at hx
  · rcases put_out hp.ids hm (q := failedP h.rules p h.now) rfl hx with h1 | h1
    · rw [h1] at hs; exact absurd hs (by simp [failedP])
    · exact h1
  · exact cut_out hp.ids hm hx
theorem expire_out : ∀ {ids : List Int} {h : House}, HRep h → DueP h.parties ids → ∀ q ∈ (expireGo ids h).parties, q.state = 2 → q ∈ h.parties ∧ q.id ∉ ids
  | [], h, hp, hd, q, hq, hs => ⟨hq, List.not_mem_nil⟩
  | id :: ids, h, hp, hd, q, hq, hs => by
    obtain ⟨h1, h2, h3, h4, h5⟩ := due_step hp hd
    obtain ⟨a1, a2⟩ := expire_out h4 h5 q hq hs
    obtain ⟨b1, b2⟩ := fails_out hp h1 a1 hs
    refine ⟨b1, fun hm => ?_⟩
    rcases List.mem_cons.1 hm with h9 | h9
    · exact b2 (by rw [h9, h2])
    · exact a2 h9
theorem scanGo_out : ∀ (n : Nat) (x : House) (k : Int), HRep x → ∀ q ∈ (scanGo n x k).1.parties, dueB q x.now = true → q ∈ x.parties
  | 0, x, k, hp, q, hq, hd => hq
  | n + 1, x, k, hp, q, hq, hd => by
    unfold scanGo at hq
    split at hq
    · exact hq
    · rename_i h0
      obtain ⟨e1, e2⟩ := offered_hp h0
      obtain ⟨g1, g2, g3, g4, g5⟩ := next_party h0
      have hn : (offeredM x k).now = x.now := rfl
      have h1 := scanGo_out n (offeredM x k) k e1 q hq (by rw [hn]; exact hd)
      have hw := (rr_of hp.rules).window; have hnw := hp.now
      rcases put_out hp.ids g1 (q := offeredP x.rules (partyOf x.parties (nextOffer x k)) x.now) rfl h1 with h2 | h2
      · have h3 := (due_st.1 hd).2
        rw [h2] at h3
        simp only [offeredP] at h3
        rw [wr_of (by omega) (by omega)] at h3
        omega
      · exact h2.1
theorem due_cover {h : House} {k : Int} {q : Party} (hp : HRep h) (h0 : 0 ≤ k) (h1 : k < (h.cabins.length : Int)) (hq : q ∈ h.parties) (hd : dueB q h.now = true) (hk : q.cabin = k) : q.id ∈ dueIds h k := by
  obtain ⟨c, hc⟩ : ∃ c, h.cabins[k.toNat]? = some c := ⟨_, List.getElem?_eq_getElem (by omega)⟩
  obtain ⟨d1, d2⟩ := due_st.1 hd
  have hr := (hp.cab _ c hc).2.1
  have hpin := (hr.pin ⟨q.until', q.id⟩).2 ⟨q, hq, d1, by omega, rfl⟩
  rw [dueIds_of hc]
  refine List.mem_map.2 ⟨⟨q.until', q.id⟩, ?_, rfl⟩
  unfold dueGo
  rw [pinsOf_of hr.wh]
  exact List.mem_filter.2 ⟨pinsSort_iff.2 hpin, by simpa using d2⟩
theorem scan_out {h : House} {k : Int} (hp : HRep h) (h0 : 0 ≤ k) (h1 : k < (h.cabins.length : Int)) : ∀ q ∈ (scan h k).1.parties, dueB q h.now = true → q ∈ h.parties ∧ q.cabin ≠ k := by
  intro q hq hd
  have hb := hasCab_mk hp h0 h1
  unfold scan at hq
  rw [if_pos hb] at hq
  have hx := (expire_hp hb).1
  obtain ⟨b1, b2, b3, b4, b5, b6⟩ := expireGo_same (dueIds h k) h
  have a1 := scanGo_out (waits (expireM h k).parties) (expireM h k) k hx q hq (by show dueB q (expireGo (dueIds h k) h).now = true; rw [b2]; exact hd)
  obtain ⟨c1, c2⟩ := expire_out hp (due_start hp h0) q a1 (due_st.1 hd).1
  exact ⟨c1, fun hk => c2 (due_cover hp h0 h1 c1 hd hk)⟩
def LInv (h : House) : Prop := ∀ p ∈ h.parties, dueB p h.now = true → p.cabin ∈ h.todo ∨ p.cabin ∈ h.jobs
theorem mem_set_ne {l : List Int} {k : Nat} {x j v : Int} (hj : l[k]? = some j) (hx : x ∈ l) (hne : x ≠ j) : x ∈ l.set k v := by
  obtain ⟨i, hi⟩ := List.mem_iff_getElem?.1 hx
  have hik : k ≠ i := by rintro rfl; rw [hj] at hi; injection hi with hi; exact hne hi.symm
  refine List.mem_iff_getElem?.2 ⟨i, ?_⟩
  rw [List.getElem?_set_ne hik]; exact hi
theorem pick_inv {h : House} {who : Int} (hp : HRep h) (h0 : 0 ≤ who) (h1 : who < h.rules.crew) (hn : prodB h who) (hd : LInv h) : LInv (pickM h who).1 := by
  obtain ⟨j1, j2, j3⟩ := job_rng hp h0 h1
  have hcab : ∀ p ∈ h.parties, 0 ≤ p.cabin := fun p hm => (hp.good.ok p hm).cab.1
  unfold pickM
  split
  · rename_i hneg
    cases ht : h.todo with
    | nil => exact absurd ⟨hneg, by rw [ht]; rfl⟩ hn
    | cons t ts =>
      intro p hm hpd
      have hm' : p ∈ h.parties := hm
      rcases hd p hm hpd with h9 | h9
      · rw [ht] at h9
        rcases List.mem_cons.1 h9 with h8 | h8
        · refine .inr ?_
          show p.cabin ∈ h.jobs.set who.toNat t
          rw [h8]
          exact List.mem_set (List.getElem?_eq_some_iff.1 j1).1 _
        · exact .inl h8
      · refine .inr (mem_set_ne j1 h9 ?_)
        have := hcab p hm'
        omega
  · rename_i hneg
    have hk0 : 0 ≤ jobAt h who := by omega
    obtain ⟨a1, a2, a3, a4, a5, a6⟩ := scan_hp hp hk0 j3
    intro p hm hpd
    obtain ⟨b1, b2⟩ := scan_out hp hk0 j3 p hm (by rw [← a4]; exact hpd)
    rcases hd p b1 (by rw [← a4]; exact hpd) with h9 | h9
    · exact .inl (by show p.cabin ∈ (scan h (jobAt h who)).1.todo; rw [a5]; exact h9)
    · refine .inr ?_
      show p.cabin ∈ (scan h (jobAt h who)).1.jobs.set who.toNat (-1)
      rw [a6]
      exact mem_set_ne j1 h9 b2
theorem drain_inv : ∀ (n : Nat) (i : Int) (h : House), 0 ≤ i → HRep h → LInv h → LInv (drainGo n i h) ∧ (drainGo n i h).now = h.now ∧ (drainGo n i h).rules = h.rules
  | 0, i, h, hi, hp, hd => ⟨hd, rfl, rfl⟩
  | n + 1, i, h, hi, hp, hd => by
    have hc := (rr_of hp.rules).crew
    unfold drainGo
    split
    · exact ⟨hd, rfl, rfl⟩
    · rw [Int.tmod_eq_emod_of_nonneg hi]
      have w0 := Int.emod_nonneg i (b := h.rules.crew) (by omega)
      have w1 := Int.emod_lt_of_pos i (b := h.rules.crew) (by omega)
      by_cases hpr : prodB h (i % h.rules.crew)
      · rw [do7 hp w0 w1 hpr]
        obtain ⟨a1, a2, a3⟩ := drain_inv n (i + 1) _ (by omega) (pick_hp hp w0 w1 hpr) (pick_inv hp w0 w1 hpr hd)
        obtain ⟨b1, b2⟩ := pick_same hp w0 w1
        exact ⟨a1, a2.trans b2, a3.trans b1⟩
      · have hno : jobAt h (i % h.rules.crew) < 0 ∧ h.todo.length = 0 := Classical.not_not.1 hpr
        rw [do7_no hp w0 w1 hno]
        exact drain_inv n (i + 1) h (by omega) hp hd
theorem idle_late {h : House} (hp : HRep h) (hi : idleB h = true) (hd : LInv h) : ∀ p ∈ h.parties, dueB p h.now = false := by
  intro p hm
  cases hc : dueB p h.now with
  | false => rfl
  | true =>
    exfalso
    have h0 := (hp.good.ok p hm).cab.1
    simp only [idleB, Bool.and_eq_true, List.all_eq_true, decide_eq_true_eq] at hi
    rcases hd p hm hc with h1 | h1
    · rw [List.eq_nil_of_length_eq_zero hi.2] at h1; exact absurd h1 List.not_mem_nil
    · have := hi.1 _ h1; omega
theorem todoPut_mem {l : List Int} {x y : Int} (h : y = x ∨ y ∈ l) : y ∈ todoPut l x := by
  unfold todoPut
  split
  · rename_i ha
    rcases h with rfl | h
    · obtain ⟨z, hz, hz2⟩ := List.any_eq_true.1 ha
      simp at hz2; subst hz2; exact hz
    · exact h
  · rcases h with rfl | h <;> simp [*]
theorem tickT_mem {ps : List Party} : ∀ (k : Nat) {l : List Int} {i : Nat}, i < k → countGo ps i 0 > 0 → (i : Int) ∈ tickT ps k l
  | k + 1, l, i, hi, hc => by
    unfold tickT
    by_cases he : i = k
    · subst he
      rw [if_pos hc]; exact todoPut_mem (.inl rfl)
    · have h1 := tickT_mem (ps := ps) k (l := l) (i := i) (by omega) hc
      split
      · exact todoPut_mem (.inr h1)
      · exact h1
theorem tick_inv {h : House} (hp : HRep h) : LInv (tickM h) := by
  intro p hm hd
  have hm' : p ∈ h.parties := hm
  have hg := hp.good.ok p hm'
  have hcb := hp.cabs
  refine .inl ?_
  show p.cabin ∈ tickT h.parties h.cabins.length h.todo
  have h1 := tickT_mem (ps := h.parties) h.cabins.length (l := h.todo) (i := p.cabin.toNat) (by have := hg.cab; omega) (by
    rw [show ((p.cabin.toNat : Nat) : Int) = p.cabin by have := hg.cab; omega, count_cnt hp p.cabin]
    have h2 : 0 < (h.parties.filter fun q => q.cabin == p.cabin).length := List.length_pos_of_mem (List.mem_filter.2 ⟨hm', by simp⟩)
    unfold cnt; omega)
  rwa [show ((p.cabin.toNat : Nat) : Int) = p.cabin by have := hg.cab; omega] at h1
theorem verd6 {h : House} (hv : verdict h ⟨6, 0, 0, 0, 0, 0⟩ = 0) : HRep h ∧ h.now < 1000000 ∧ doM h ⟨6, 0, 0, 0, 0, 0⟩ = tickM h := by
  have v := verdict_ok hv
  have g := v.v
  refine ⟨v.hp, ?_, ?_⟩
  · have g2 : (if h.now ≥ 1000000 then (15 : Int) else 0) = 0 := by simpa [vKind] using g
    split at g2 <;> omega
  · rw [doM, if_pos hv]; rfl
theorem round_out {h : House} (hv : verdict h ⟨6, 0, 0, 0, 0, 0⟩ = 0) : HRep (roundM h) ∧ idleB (roundM h) = true ∧ (∀ p ∈ (roundM h).parties, dueB p (roundM h).now = false) ∧ (roundM h).now = h.now + 1 := by
  obtain ⟨hp, hn, hd⟩ := verd6 hv
  have hr : roundM h = drained (tickM h) := by rw [roundM, if_pos hv, hd]
  have hp2 : HRep (tickM h) := tick_hp hp hn
  rw [hr]
  have hi := drained_idle hp2
  have hdr : drained (tickM h) = drainGo 60 0 (tickM h) := by rw [drained, if_pos hp2.eq]
  have hinv := drain_inv 60 0 (tickM h) (by omega) hp2 (tick_inv hp)
  rw [← hdr] at hinv
  refine ⟨drained_hp hp2, hi, idle_late (drained_hp hp2) hi hinv.1, ?_⟩
  rw [hinv.2.1]
  show wr (h.now + 1) = h.now + 1
  have := hp.now
  exact wr_of (by omega) (by omega)
/-! ### A house that settles -/
theorem acc_none {now : Int} : ∀ {ps : List Party} {x : House}, accIds now ps = [] → accGo now ps x = x
  | [], x, _ => rfl
  | p :: ps, x, h => by
    have e1 : accGo now (p :: ps) x = accGo now ps (accStep now x p) := rfl
    by_cases hc : (p.state == 2 && !dueB p now) = true
    · simp only [accIds, List.filter_cons, hc, if_true, List.map_cons] at h
      cases h
    · have e3 : accIds now (p :: ps) = accIds now ps := by simp only [accIds, List.filter_cons, hc]; rfl
      rw [e3] at h
      rw [e1, accStep, if_neg hc]
      exact acc_none h
theorem accAll_none {h : House} (hi : (accAll h).2 = []) : (accAll h).1 = h := by
  unfold accAll at hi ⊢
  split
  · rename_i hok
    rw [if_pos hok] at hi
    exact acc_none hi
  · rfl
theorem settle_out : ∀ (n : Nat) (h : House) (l : List Int), HRep h → (settleGo n h l).2.length < l.length + n → HRep (settleGo n h l).1 ∧ idleB (settleGo n h l).1 = true ∧ (accAll (settleGo n h l).1).2 = []
  | 0, h, l, hp, hl => by simp [settleGo] at hl
  | n + 1, h, l, hp, hl => by
    have hd := drained_hp hp
    by_cases hi : (accAll (drained h)).2 = []
    · have e : settleGo (n + 1) h l = ((accAll (drained h)).1, l) := by simp only [settleGo]; rw [if_pos hi]
      rw [e]
      dsimp only
      rw [accAll_none hi]
      exact ⟨hd, drained_idle hp, hi⟩
    · have e : settleGo (n + 1) h l = settleGo n (accAll (drained h)).1 (l ++ (accAll (drained h)).2) := by
        have e : settleGo (n + 1) h l = if (accAll (drained h)).2 = [] then ((accAll (drained h)).1, l) else settleGo n (accAll (drained h)).1 (l ++ (accAll (drained h)).2) := by simp only [settleGo]
        rw [e, if_neg hi]
      have h1 : 0 < (accAll (drained h)).2.length := List.length_pos_iff.2 hi
      rw [e] at hl ⊢
      exact settle_out n _ _ (accAll_hp hd) (by rw [List.length_append]; omega)
theorem settle_again {h : House} {n : Nat} (hi : idleB h = true) (ha : (accAll h).2 = []) : settleGo (n + 1) h [] = (h, []) := by
  have hd := drained_at hi
  have e : settleGo (n + 1) h [] = ((accAll (drained h)).1, []) := by simp only [settleGo]; rw [hd, if_pos ha]
  rw [e, hd, accAll_none ha]
end SX
end Go.Proofs.YtapbooddmdkgjaaGreat
