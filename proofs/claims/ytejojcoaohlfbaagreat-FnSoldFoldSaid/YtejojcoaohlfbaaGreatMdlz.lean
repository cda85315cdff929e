/- Texts of this claim, put together by program. -/
import Derived.Test.YtejojcoaohlfbaaGreatMdlm
/- Who was passed over; what freed seats link; in plain Lean. It imports no program. -/
namespace Go.Proofs.YtejojcoaohlfbaaGreat
namespace SX
set_option linter.unusedVariables false
set_option linter.unusedSimpArgs false
open Go Go.RowKit
theorem hasCab_in {h : House} {cabin : Int} (hb : hasCab h cabin = true) : 0 ≤ cabin ∧ cabin < (h.cabins.length : Int) := by
  simp only [hasCab, Bool.and_eq_true, inB, decide_eq_true_eq] at hb
  have hp := houseP_of hb.1
  obtain ⟨h1, _, _, _, h5, _⟩ := hp
  have h9 := h1
  simp [rulesOk, inB] at h9
  have h2 := hb.2
  rw [wr_of (by omega) (by omega)] at h2
  omega
def restingB (p : Party) (now : Int) : Bool := p.state == 1 && decide (p.until' > now)
def freeAt (h : House) (cabin : Int) : Int := match h.cabins[cabin.toNat]? with
  | some c => c.seats.free
  | none => 0
theorem freeAt_of {h : House} {cabin : Int} {c : Cabin} (hc : h.cabins[cabin.toNat]? = some c) : freeAt h cabin = c.seats.free := by simp [freeAt, hc]
def fitsB (h : House) (cabin : Int) (p : Party) : Bool := p.cabin == cabin && p.state == 1 && !restingB p h.now && decide (p.size ≤ freeAt h cabin)
def beforeB (r : Rules) (a b : Party) (now : Int) : Bool := decide (levelOf r a now ≥ 0) && decide (levelOf r b now ≥ 0) && (decide (levelOf r a now < levelOf r b now) || (levelOf r a now == levelOf r b now && decide (a.turn < b.turn)))
def atId (l : List Party) (id : Int) : Int := idxF (fun e : Party => e.id == id) l 0
theorem atId_lt (l : List Party) (id : Int) : atId l id < (l.length : Int) ∧ -1 ≤ atId l id := by
  have h1 := idxF_lt (q := fun e : Party => e.id == id) l 0
  have h2 := (idxF_none (q := fun e : Party => e.id == id) l 0).2
  unfold atId
  omega
def passGo (h : House) (cabin : Int) (q : Party) : List Party → List Int
  | [] => []
  | p :: ps => if fitsB h cabin p && beforeB h.rules p q h.now then p.id :: passGo h cabin q ps else passGo h cabin q ps
noncomputable def passed (h : House) (cabin id : Int) : List Int :=
  if hasCab h cabin && !decide (atId h.parties id < 0) then match h.parties[(atId h.parties id).toNat]? with
    | some q => if q.cabin == cabin then passGo h cabin q h.parties else []
    | none => []
  else []
theorem passed_no {h : House} {cabin id : Int} (hb : hasCab h cabin = false) : passed h cabin id = [] := by simp [passed, hb]
theorem passed_neg {h : House} {cabin id : Int} (hb : atId h.parties id < 0) : passed h cabin id = [] := by simp [passed, hb]
theorem passed_ne {h : House} {cabin id : Int} {q : Party} (hq : h.parties[(atId h.parties id).toNat]? = some q) (hc : q.cabin ≠ cabin) : passed h cabin id = [] := by simp [passed, hq, hc]
theorem passed_of {h : House} {cabin id : Int} {q : Party} (hb : hasCab h cabin = true) (hn : ¬ atId h.parties id < 0) (hq : h.parties[(atId h.parties id).toNat]? = some q) (hc : q.cabin = cabin) : passed h cabin id = passGo h cabin q h.parties := by
  simp [passed, hb, hn, hq, hc]
end SX
end Go.Proofs.YtejojcoaohlfbaaGreat
/- What the functions that change rows, wheels, parties and ledgers come to, in plain Lean: the exact models. It imports no program. -/
namespace Go.Proofs.YtejojcoaohlfbaaGreat
namespace SX
set_option linter.unusedVariables false
set_option linter.unusedSimpArgs false
open Go Go.RowKit
/-- a wheel with a pin put into its spoke -/
def wheelIns (w : Wheel) (p : Pin) : Wheel := ⟨match w.spoke[(Int.tmod p.at' 9).toNat]? with
  | some l => w.spoke.set (Int.tmod p.at' 9).toNat (pIns l p)
  | none => w.spoke⟩
noncomputable def wheelPut (w : Wheel) (p : Pin) : Wheel := if wheelOk w && !decide (p.at' < 1) && wheelOk (wheelIns w p) then wheelIns w p else w
noncomputable def wheelPutB (w : Wheel) (p : Pin) : Bool := wheelOk w && !decide (p.at' < 1) && wheelOk (wheelIns w p)
theorem wheelIns_of {w : Wheel} {p : Pin} {l : List Pin} (h : w.spoke[(Int.tmod p.at' 9).toNat]? = some l) : wheelIns w p = ⟨w.spoke.set (Int.tmod p.at' 9).toNat (pIns l p)⟩ := by simp [wheelIns, h]
theorem flat_set_len {xss : List (List Pin)} {k : Nat} {x : List Pin} (y : List Pin) (h : xss[k]? = some x) : (xss.set k y).flatten.length + x.length = xss.flatten.length + y.length := by
  induction xss generalizing k with
  | nil => simp at h
  | cons z xss ih =>
    cases k with
    | zero => simp at h; subst h; simp; omega
    | succ k =>
      simp only [List.getElem?_cons_succ] at h
      have := ih h
      simp only [List.set_cons_succ, List.flatten_cons, List.length_append]
      omega
theorem flat_set_le : ∀ (xss : List (List Pin)) (k : Nat) (y : List Pin), (xss.set k y).flatten.length ≤ xss.flatten.length + y.length
  | [], k, y => by simp
  | z :: xss, 0, y => by simp only [List.set_cons_zero, List.flatten_cons, List.length_append]; omega
  | z :: xss, k + 1, y => by
    have := flat_set_le xss k y
    simp only [List.set_cons_succ, List.flatten_cons, List.length_append]; omega
theorem wheelIns_len (w : Wheel) (p : Pin) : (wheelIns w p).spoke.length = w.spoke.length ∧ (wheelIns w p).spoke.flatten.length ≤ w.spoke.flatten.length + 1 := by
  unfold wheelIns
  split
  · rename_i l hl
    have := flat_set_len (pIns l p) hl
    rw [pIns_len] at this
    dsimp only
    rw [List.length_set]
    omega
  · simp
theorem wheelPut_len (w : Wheel) (p : Pin) : (wheelPut w p).spoke.length = w.spoke.length ∧ (wheelPut w p).spoke.flatten.length ≤ w.spoke.flatten.length + 1 := by
  unfold wheelPut
  split
  · exact wheelIns_len w p
  · omega
theorem wheelPut_len2 (s : List (List Pin)) (p : Pin) : (wheelPut ⟨s⟩ p).spoke.length = s.length ∧ (wheelPut ⟨s⟩ p).spoke.flatten.length ≤ s.flatten.length + 1 := wheelPut_len ⟨s⟩ p
theorem wheelPut_t {w : Wheel} {p : Pin} (h1 : wheelOk w = true) (h2 : ¬ p.at' < 1) (h3 : wheelOk (wheelIns w p) = true) : wheelPut w p = wheelIns w p ∧ wheelPutB w p = true := by simp [wheelPut, wheelPutB, h1, h2, h3]
theorem wheelPut_f {w : Wheel} {p : Pin} (h : wheelOk w = false ∨ p.at' < 1 ∨ wheelOk (wheelIns w p) = false) : wheelPut w p = w ∧ wheelPutB w p = false := by
  rcases h with h | h | h <;> simp [wheelPut, wheelPutB, h]
/-- a row with an entry put into it -/
noncomputable def queuePutB (l : List Entry) (e : Entry) : Bool := queueOk l && queueOk (qIns l e)
noncomputable def queuePut (l : List Entry) (e : Entry) : List Entry := if queuePutB l e then qIns l e else l
theorem queuePut_t {l : List Entry} {e : Entry} (h1 : queueOk l = true) (h2 : queueOk (qIns l e) = true) : queuePut l e = qIns l e ∧ queuePutB l e = true := by simp [queuePut, queuePutB, h1, h2]
theorem queuePut_f {l : List Entry} {e : Entry} (h : queueOk l = false ∨ queueOk (qIns l e) = false) : queuePut l e = l ∧ queuePutB l e = false := by
  rcases h with h | h <;> simp [queuePut, queuePutB, h]
/-- parties with one put among them -/
def idLess (a b : Party) : Bool := decide (a.id < b.id)
def partyPut (l : List Party) (p : Party) : List Party := if atId l p.id ≥ 0 then l.set (atId l p.id).toNat p else insL idLess l p
theorem partyPut_len (l : List Party) (p : Party) : (partyPut l p).length ≤ l.length + 1 := by
  unfold partyPut
  split
  · simp
  · rw [insL_len]; omega
theorem partyPut_set {l : List Party} {p : Party} (h : atId l p.id ≥ 0) : partyPut l p = l.set (atId l p.id).toNat p := by simp [partyPut, h]
theorem partyPut_ins {l : List Party} {p : Party} (h : ¬ atId l p.id ≥ 0) : partyPut l p = insL idLess l p := by simp only [partyPut, if_neg h]
theorem queueOf_len (r : Rules) (cabin now : Int) : ∀ l : List Party, (queueOf r l cabin now).length ≤ l.length
  | [] => by simp [queueOf]
  | p :: ps => by
    have := queueOf_len r cabin now ps
    unfold queueOf
    split
    · rw [qIns_len]; simp only [List.length_cons]; omega
    · simp only [List.length_cons]; omega
theorem pinsGo_len (cabin : Int) : ∀ (l : List Party) (out : List Pin), (pinsGo l cabin out).length ≤ out.length + l.length
  | [], out => by simp [pinsGo]
  | p :: ps, out => by
    unfold pinsGo
    have := pinsGo_len cabin ps (if p.state == 2 && p.cabin == cabin then pIns out ⟨p.until', p.id⟩ else out)
    split at this
    · rename_i h; rw [if_pos h]; rw [pIns_len] at this; simp only [List.length_cons]; omega
    · rename_i h; rw [if_neg h]; simp only [List.length_cons]; omega
theorem pinsGo_len0 (cabin : Int) (l : List Party) : (pinsGo l cabin []).length ≤ l.length := by
  have := pinsGo_len cabin l []; simpa using this
theorem rulesOk_len {r : Rules} (h : rulesOk r = true) : 1 ≤ r.seats.length ∧ r.seats.length ≤ 4 ∧ r.crew ≤ 3 ∧ 1 ≤ r.crew := by
  simp [rulesOk, inB] at h; omega
theorem mem_set_of {α : Type} {P : α → Prop} {l : List α} {k : Nat} {x : α} (h : ∀ c ∈ l, P c) (hx : P x) : ∀ c ∈ l.set k x, P c :=
  fun c hc => (List.mem_or_eq_of_mem_set hc).elim (h c) (fun e => e ▸ hx)
end SX
end Go.Proofs.YtejojcoaohlfbaaGreat
/- What the functions on snapshots come to, in plain Lean, and how long a snapshot is. It imports no program. -/
namespace Go.Proofs.YtejojcoaohlfbaaGreat
namespace SX
set_option linter.unusedVariables false
set_option linter.unusedSimpArgs false
open Go Go.RowKit
theorem nodup_le {α : Type} [DecidableEq α] : ∀ {l m : List α}, l.Nodup → (∀ x ∈ l, x ∈ m) → l.length ≤ m.length
  | [], m, _, _ => Nat.zero_le _
  | x :: l, m, hd, hs => by
    have hd' := List.nodup_cons.1 hd
    have h1 := List.perm_cons_erase (hs x (by simp))
    have h2 := nodup_le (l := l) (m := m.erase x) hd'.2 fun y hy => (List.mem_erase_of_ne (by intro he; subst he; exact hd'.1 hy)).2 (hs y (by simp [hy]))
    rw [h1.length_eq, List.length_cons, List.length_cons]; omega
theorem todo_le {h : House} (hh : HouseP h) : h.todo.length ≤ h.cabins.length := by
  obtain ⟨hr, _, _, _, hc, _, hj, _⟩ := hh
  have hrl := rulesOk_len hr
  have h1 := hj.1
  have hw : wr ((h.cabins.length : Int) - 1) = (h.cabins.length : Int) - 1 := wr_of (by omega) (by omega)
  have hnd : (h.todo.map Int.toNat).Nodup := by
    rw [List.Nodup, List.pairwise_map, List.pairwise_iff_getElem]
    intro i j hi hj hij he
    have h2 := h1 j _ (List.getElem?_eq_getElem hj)
    have h3 := h1 i _ (List.getElem?_eq_getElem hi)
    have h4 := h2.2 i _ hij (List.getElem?_eq_getElem hi)
    have h5 := h2.1; have h6 := h3.1
    simp only [inB, Bool.and_eq_true, decide_eq_true_eq] at h5 h6
    omega
  have hsub : h.todo.map Int.toNat ⊆ List.range h.cabins.length := by
    intro x hx
    obtain ⟨y, hy, rfl⟩ := List.mem_map.1 hx
    obtain ⟨i, hi⟩ := List.mem_iff_getElem?.1 hy
    have h5 := (h1 i y hi).1
    rw [hw] at h5
    simp only [inB, Bool.and_eq_true, decide_eq_true_eq] at h5
    rw [List.mem_range]; omega
  have := nodup_le hnd hsub
  simpa using this
/-! ### How long -/
def cnt (l : List Party) (k : Int) : Nat := (l.filter fun p => p.cabin == k).length
theorem countGo_cnt (k : Int) : ∀ (l : List Party) (n : Int), 0 ≤ n → n + l.length ≤ 9223372036854775807 → countGo l k n = n + (cnt l k : Nat)
  | [], n, _, _ => by simp [countGo, cnt]
  | p :: ps, n, h0, h1 => by
    simp only [List.length_cons] at h1
    unfold countGo cnt
    rw [List.filter_cons]
    split
    · rw [countGo_cnt k ps _ (by rw [wr_of (by omega) (by omega)]; omega) (by rw [wr_of (by omega) (by omega)]; omega), wr_of (by omega) (by omega)]
      simp only [List.length_cons, cnt]; omega
    · rw [countGo_cnt k ps _ h0 (by omega)]; rfl
theorem cnt_all (m : Nat) : ∀ (s : Nat) (l : List Party), (∀ p ∈ l, 0 ≤ p.cabin ∧ p.cabin < (s : Int)) → (∀ k : Nat, k < s → cnt l k ≤ m) → l.length ≤ m * s
  | 0, l, h, _ => by
    cases l with
    | nil => simp
    | cons p l => have := h p (by simp); omega
  | s + 1, l, h, hk => by
    have h1 := hk s (by omega)
    have h2 := cnt_all m s (l.filter fun p => !(p.cabin == (s : Int))) (fun p hp => by
      have h3 := List.mem_filter.1 hp
      have h4 := h p h3.1
      have h5 := h3.2
      simp at h5
      omega) (fun k hks => by
      refine Nat.le_trans ?_ (hk k (by omega))
      unfold cnt
      exact (List.Sublist.filter _ List.filter_sublist).length_le)
    have h6 : ∀ q : List Party, q.length = (q.filter fun p => p.cabin == (s : Int)).length + (q.filter fun p => !(p.cabin == (s : Int))).length := by
      intro q
      induction q with
      | nil => rfl
      | cons a q ih =>
        rw [List.filter_cons, List.filter_cons]
        cases ha : (a.cabin == (s : Int)) with
        | true => simp only [if_true, Bool.not_true, Bool.false_eq_true, if_false, List.length_cons]; omega
        | false => simp only [Bool.not_false, if_true, Bool.false_eq_true, if_false, List.length_cons]; omega
    have h7 := h6 l
    unfold cnt at h1
    rw [Nat.mul_add, Nat.mul_one]
    omega
end SX
end Go.Proofs.YtejojcoaohlfbaaGreat
/- Whom the next offer goes to, and that nobody is passed over then; in plain Lean. It imports no program. -/
namespace Go.Proofs.YtejojcoaohlfbaaGreat
namespace SX
set_option linter.unusedVariables false
set_option linter.unusedSimpArgs false
open Go Go.RowKit
theorem insL_memR {α : Type} {lt : α → α → Bool} {e x : α} : ∀ {l : List α}, x = e ∨ x ∈ l → x ∈ insL lt l e
  | [], h => by simpa [insL] using h
  | y :: l, h => by
    unfold insL
    split
    · rcases h with h | h
      · exact List.mem_cons_of_mem _ (insL_memR (.inl h))
      · rcases List.mem_cons.1 h with rfl | h
        · simp
        · exact List.mem_cons_of_mem _ (insL_memR (.inr h))
    · rcases h with rfl | h <;> simp [*]
theorem queueOf_in {r : Rules} {cabin now : Int} {p : Party} : ∀ {list : List Party}, p ∈ list → entryOk r p now = true → p.cabin = cabin → entryOf r p now ∈ queueOf r list cabin now
  | [], h, _, _ => absurd h List.not_mem_nil
  | q :: ps, h, ho, hc => by
    unfold queueOf
    rcases List.mem_cons.1 h with rfl | h
    · simp only [ho, hc, beq_self_eq_true, Bool.and_self, if_true, qIns_eq]
      exact insL_memR (.inl rfl)
    · split
      · rw [qIns_eq]; exact insL_memR (.inr (queueOf_in h ho hc))
      · exact queueOf_in h ho hc
theorem insL_memL {α : Type} {lt : α → α → Bool} {e x : α} : ∀ {l : List α}, x ∈ insL lt l e → x = e ∨ x ∈ l
  | [], h => by simpa [insL] using h
  | y :: l, h => by
    unfold insL at h
    split at h
    · rcases List.mem_cons.1 h with rfl | h
      · simp
      · rcases insL_memL h with h | h <;> simp [h]
    · rcases List.mem_cons.1 h with rfl | h
      · simp
      · exact .inr h
theorem queueOf_out {r : Rules} {cabin now : Int} {e : Entry} : ∀ {list : List Party}, e ∈ queueOf r list cabin now → ∃ p ∈ list, entryOk r p now = true ∧ p.cabin = cabin ∧ e = entryOf r p now
  | [], h => by simp [queueOf] at h
  | p :: ps, h => by
    unfold queueOf at h
    split at h
    · rename_i hc
      simp only [Bool.and_eq_true, beq_iff_eq] at hc
      rw [qIns_eq] at h
      rcases insL_memL h with rfl | h
      · exact ⟨p, by simp, hc.1, hc.2, rfl⟩
      · obtain ⟨q, hq, h2⟩ := queueOf_out h
        exact ⟨q, by simp [hq], h2⟩
    · obtain ⟨q, hq, h2⟩ := queueOf_out h
      exact ⟨q, by simp [hq], h2⟩
theorem idxF_at {α : Type} {q : α → Bool} : ∀ (l : List α) (n : Nat), 0 ≤ idxF q l n → ∃ (i : Nat) (e : α), idxF q l n = ((n + i : Nat) : Int) ∧ l[i]? = some e ∧ q e = true ∧ ∀ (j : Nat) (y : α), j < i → l[j]? = some y → q y = false
  | [], n, h => by simp [idxF] at h
  | e :: es, n, h => by
    unfold idxF at h ⊢
    cases hq : q e with
    | true => exact ⟨0, e, by simp, rfl, hq, fun j y hj => absurd hj (Nat.not_lt_zero _)⟩
    | false =>
      simp only [hq, Bool.false_eq_true, if_false] at h ⊢
      obtain ⟨i, x, h1, h2, h3, h4⟩ := idxF_at es (n + 1) h
      refine ⟨i + 1, x, by rw [h1]; omega, by simpa using h2, h3, fun j y hj hy => ?_⟩
      cases j with
      | zero => simp at hy; subst hy; exact hq
      | succ j => exact h4 j y (by omega) (by simpa using hy)
/-- rows that are right bear their entries in order -/
theorem row_lt {l : List Entry} (hq : QueueP l) : ∀ (d i : Nat) (x y : Entry), l[i]? = some x → l[i + d + 1]? = some y → entryLess x y = true
  | 0, i, x, y, hx, hy => (hq.2 (i + 0 + 1) y hy).2.1 (by omega) x (by simpa using hx)
  | d + 1, i, x, y, hx, hy => by
    have hl : i + d + 1 < l.length := by have := (List.getElem?_eq_some_iff.1 hy).1; omega
    have hz : l[i + d + 1]? = some l[i + d + 1] := List.getElem?_eq_getElem hl
    exact entryOrd.tr (row_lt hq d i x _ hx hz) ((hq.2 (i + (d + 1) + 1) y hy).2.1 (by omega) _ (by rw [show i + (d + 1) + 1 - 1 = i + d + 1 by omega]; exact hz))
theorem ids_lt {h : House} (hp : PartiesP h) : ∀ (d i : Nat) (x y : Party), h.parties[i]? = some x → h.parties[i + d + 1]? = some y → x.id < y.id
  | 0, i, x, y, hx, hy => (hp (i + 0 + 1) y hy).2.2.1 (by omega) x (by simpa using hx)
  | d + 1, i, x, y, hx, hy => by
    have hl : i + d + 1 < h.parties.length := by have := (List.getElem?_eq_some_iff.1 hy).1; omega
    have hz : h.parties[i + d + 1]? = some h.parties[i + d + 1] := List.getElem?_eq_getElem hl
    have h1 := ids_lt hp d i x _ hx hz
    have h2 := (hp (i + (d + 1) + 1) y hy).2.2.1 (by omega) h.parties[i + d + 1] (by rw [show i + (d + 1) + 1 - 1 = i + d + 1 by omega]; exact hz)
    omega
theorem ids_one {h : House} (hp : PartiesP h) {x y : Party} (hx : x ∈ h.parties) (hy : y ∈ h.parties) (he : x.id = y.id) : x = y := by
  obtain ⟨i, hi⟩ := List.mem_iff_getElem?.1 hx
  obtain ⟨j, hj⟩ := List.mem_iff_getElem?.1 hy
  rcases Nat.lt_trichotomy i j with h1 | h1 | h1
  · have := ids_lt hp (j - i - 1) i x y hi (by rw [show i + (j - i - 1) + 1 = j by omega]; exact hj)
    omega
  · subst h1; rw [hi] at hj; injection hj
  · have := ids_lt hp (i - j - 1) j y x hj (by rw [show j + (i - j - 1) + 1 = i by omega]; exact hi)
    omega
def skipGo (now : Int) : List Party → List Int
  | [] => []
  | p :: ps => if restingB p now then p.id :: skipGo now ps else skipGo now ps
theorem skipGo_mem {now x : Int} : ∀ {l : List Party}, x ∈ skipGo now l → ∃ p ∈ l, restingB p now = true ∧ p.id = x
  | [], h => by simp [skipGo] at h
  | p :: ps, h => by
    unfold skipGo at h
    split at h
    · rcases List.mem_cons.1 h with rfl | h
      · exact ⟨p, by simp, by assumption, rfl⟩
      · obtain ⟨q, hq, h2⟩ := skipGo_mem h; exact ⟨q, by simp [hq], h2⟩
    · obtain ⟨q, hq, h2⟩ := skipGo_mem h; exact ⟨q, by simp [hq], h2⟩
/-- an entry that fits and is not to be skipped -/
def fitE (free : Int) (skip : List Int) (e : Entry) : Bool := decide (e.size ≤ free) && !(skip.any fun y => y == e.id)
def firstFit (row : List Entry) (free : Int) (skip : List Int) : Int := idxF (fitE free skip) row 0
theorem firstFit_lt (row : List Entry) (free : Int) (skip : List Int) : firstFit row free skip < (row.length : Int) ∧ -1 ≤ firstFit row free skip := by
  have h1 := idxF_lt (q := fitE free skip) row 0
  have h2 := (idxF_none (q := fitE free skip) row 0).2
  unfold firstFit
  omega
noncomputable def nextOffer (h : House) (cabin : Int) : Int :=
  if hasCab h cabin then match h.cabins[cabin.toNat]? with
    | some c => if firstFit c.row c.seats.free (skipGo h.now h.parties) < 0 then 0 else match c.row[(firstFit c.row c.seats.free (skipGo h.now h.parties)).toNat]? with
      | some e => e.id
      | none => 0
    | none => 0
  else 0
theorem nextOffer_no {h : House} {cabin : Int} (hb : hasCab h cabin = false) : nextOffer h cabin = 0 := by simp [nextOffer, hb]
theorem nextOffer_neg {h : House} {cabin : Int} {c : Cabin} (hb : hasCab h cabin = true) (hc : h.cabins[cabin.toNat]? = some c) (hk : firstFit c.row c.seats.free (skipGo h.now h.parties) < 0) : nextOffer h cabin = 0 := by
  simp [nextOffer, hb, hc, hk]
theorem nextOffer_at {h : House} {cabin : Int} {c : Cabin} {e : Entry} (hb : hasCab h cabin = true) (hc : h.cabins[cabin.toNat]? = some c) (hk : ¬ firstFit c.row c.seats.free (skipGo h.now h.parties) < 0)
    (he : c.row[(firstFit c.row c.seats.free (skipGo h.now h.parties)).toNat]? = some e) : nextOffer h cabin = e.id := by
  simp [nextOffer, hb, hc, hk, he]
theorem atId_at {l : List Party} {id : Int} (h : ¬ atId l id < 0) : ∃ p, l[(atId l id).toNat]? = some p ∧ p.id = id := by
  obtain ⟨i, e, h1, h2, h3, _⟩ := idxF_at (q := fun e : Party => e.id == id) l 0 (by unfold atId at h; omega)
  refine ⟨e, ?_, by simpa using h3⟩
  unfold atId
  rw [h1]; simpa using h2
theorem before_irr (r : Rules) (p : Party) (now : Int) : beforeB r p p now = false := by
  simp [beforeB]
theorem passGo_mem {h : House} {cabin x : Int} {q : Party} : ∀ {l : List Party}, x ∈ passGo h cabin q l → ∃ p ∈ l, p.id = x ∧ fitsB h cabin p = true ∧ beforeB h.rules p q h.now = true
  | [], hx => by simp [passGo] at hx
  | p :: ps, hx => by
    unfold passGo at hx
    split at hx
    · rename_i hc
      simp only [Bool.and_eq_true] at hc
      rcases List.mem_cons.1 hx with rfl | hx
      · exact ⟨p, by simp, rfl, hc⟩
      · obtain ⟨z, hz, h2⟩ := passGo_mem hx; exact ⟨z, by simp [hz], h2⟩
    · obtain ⟨z, hz, h2⟩ := passGo_mem hx; exact ⟨z, by simp [hz], h2⟩
theorem passGo_eq (h : House) (cabin : Int) (q : Party) : ∀ l : List Party, passGo h cabin q l = (l.filter fun p => fitsB h cabin p && beforeB h.rules p q h.now).map (·.id)
  | [] => rfl
  | p :: ps => by
    unfold passGo
    rw [List.filter_cons, passGo_eq h cabin q ps]
    split <;> simp
theorem agrees_row {h : House} {k : Nat} {c : Cabin} (hh : HouseP h) (hc : h.cabins[k]? = some c) : QueueP c.row ∧ c.row = queueOf h.rules h.parties k h.now := by
  obtain ⟨_, _, _, _, _, _, _, h8⟩ := hh
  have ha := (h8 k c hc).2.1
  simp only [agrees, Bool.and_eq_true, cabinOk] at ha
  obtain ⟨⟨⟨⟨⟨⟨_, hq⟩, _⟩, hr⟩, _⟩, _⟩, _⟩ := ha
  exact ⟨queueP_of hq, (sameRow_iff _ _).1 hr⟩
theorem passed_of_mem {h : House} {cabin id x : Int} (hx : x ∈ passed h cabin id) : ∃ q, hasCab h cabin = true ∧ q ∈ h.parties ∧ q.id = id ∧ q.cabin = cabin ∧ passed h cabin id = passGo h cabin q h.parties := by
  cases hb : hasCab h cabin with
  | false => rw [passed_no hb] at hx; exact absurd hx List.not_mem_nil
  | true =>
    by_cases hn : atId h.parties id < 0
    · rw [passed_neg hn] at hx; exact absurd hx List.not_mem_nil
    · obtain ⟨q, hq, hi⟩ := atId_at hn
      by_cases hc : q.cabin = cabin
      · exact ⟨q, rfl, List.mem_of_getElem? hq, hi, hc, passed_of hb hn hq hc⟩
      · rw [passed_ne hq hc] at hx; exact absurd hx List.not_mem_nil
theorem hasCab_P {h : House} {cabin : Int} (hb : hasCab h cabin = true) : HouseP h := by
  simp only [hasCab, Bool.and_eq_true] at hb; exact houseP_of hb.1
theorem nextOffer_passed {h : House} {cabin : Int} (h0 : nextOffer h cabin ≠ 0) : passed h cabin (nextOffer h cabin) = [] := by
  rcases List.eq_nil_or_concat (passed h cabin (nextOffer h cabin)) with h1 | ⟨l, x, h1⟩
  · exact h1
  · exfalso
    have hx : x ∈ passed h cabin (nextOffer h cabin) := by rw [h1]; simp
    obtain ⟨p, hb, hp, hi, hc, he⟩ := passed_of_mem hx
    have hh := hasCab_P hb
    have hps := hh.2.2.2.2.2.1
    rw [he] at hx
    obtain ⟨q, hq, _, hf, hbf⟩ := passGo_mem hx
    have hcb := hasCab_in hb
    obtain ⟨c, hc1⟩ : ∃ c, h.cabins[cabin.toNat]? = some c := ⟨_, List.getElem?_eq_getElem (by omega)⟩
    have hcn : ((cabin.toNat : Nat) : Int) = cabin := by omega
    obtain ⟨hqp, hrow⟩ := agrees_row hh hc1
    rw [hcn] at hrow
    by_cases hk : firstFit c.row c.seats.free (skipGo h.now h.parties) < 0
    · exact h0 (nextOffer_neg hb hc1 hk)
    · obtain ⟨k, e, hk1, hk2, hk3, hk4⟩ := idxF_at c.row 0 (by unfold firstFit at hk; exact Int.not_lt.1 hk)
      have hk5 : firstFit c.row c.seats.free (skipGo h.now h.parties) = (k : Int) := by unfold firstFit; rw [hk1]; simp
      have hid : nextOffer h cabin = e.id := nextOffer_at hb hc1 hk (by rw [hk5]; simpa using hk2)
      obtain ⟨p2, hp2, ho2, hc2, he2⟩ := queueOf_out (hrow ▸ List.mem_of_getElem? hk2 : e ∈ queueOf h.rules h.parties cabin h.now)
      have hpe : e.id = p2.id := by rw [he2]; simp [entryOf, ho2]
      have hpp : p2 = p := ids_one hps hp2 hp (by omega)
      subst hpp
      simp only [fitsB, Bool.and_eq_true, beq_iff_eq, Bool.not_eq_true', decide_eq_true_eq] at hf
      obtain ⟨⟨⟨f1, f2⟩, f3⟩, f4⟩ := hf
      obtain ⟨qi, hqi⟩ := List.mem_iff_getElem?.1 hq
      have hqok := (hps qi q hqi).1
      have hqe : entryOk h.rules q h.now = true := by rw [entryOk_iff, hqok, f2]; rfl
      have hm := queueOf_in (cabin := cabin) hq hqe f1
      rw [← hrow] at hm
      obtain ⟨j, hj⟩ := List.mem_iff_getElem?.1 hm
      have hfr := freeAt_of hc1
      have hqfit : fitE c.seats.free (skipGo h.now h.parties) (entryOf h.rules q h.now) = true := by
        unfold fitE
        have e1 : (entryOf h.rules q h.now).size = q.size := by simp [entryOf, hqe]
        have e2 : (entryOf h.rules q h.now).id = q.id := by simp [entryOf, hqe]
        rw [e1, e2, ← hfr]
        simp only [f4, decide_true, Bool.true_and, Bool.not_eq_true']
        rw [List.any_eq_false]
        intro y hy hyq
        obtain ⟨z, hz, hz1, hz2⟩ := skipGo_mem hy
        have := ids_one hps hz hq (by simp at hyq; omega)
        subst this
        rw [hz1] at f3; cases f3
      rcases Nat.lt_trichotomy j k with h2 | h2 | h2
      · have := hk4 j _ h2 hj
        rw [hqfit] at this; cases this
      · subst h2
        rw [hj] at hk2
        injection hk2 with hk2
        have hqp : q = p2 := ids_one hps hq hp (by rw [← hpe, ← hk2]; simp [entryOf, hqe])
        subst hqp
        rw [before_irr] at hbf; cases hbf
      · have hl := row_lt hqp (j - k - 1) k _ _ hk2 (by rw [show k + (j - k - 1) + 1 = j by omega]; exact hj)
        rw [he2] at hl
        simp only [entryLess, entryOf, ho2, hqe, if_true, beforeB, Bool.and_eq_true, Bool.or_eq_true, decide_eq_true_eq, beq_iff_eq] at hl hbf
        omega
end SX
end Go.Proofs.YtejojcoaohlfbaaGreat
/- What a right house's rows, wheels and ledgers say of its parties, in plain Lean. It imports no program. -/
namespace Go.Proofs.YtejojcoaohlfbaaGreat
namespace SX
set_option linter.unusedVariables false
set_option linter.unusedSimpArgs false
open Go Go.RowKit
/-! ### Strictly sorted lists -/
section
variable {α : Type} {lt : α → α → Bool}
abbrev SS (lt : α → α → Bool) (l : List α) : Prop := l.Pairwise fun a b => lt a b = true
theorem Ord.ir (h : Ord lt) (z : α) : lt z z = false := by
  cases hz : lt z z with
  | false => rfl
  | true => have := h.as z z hz; rw [hz] at this; cases this
theorem ss_eq (h : Ord lt) : ∀ {a b : List α}, SS lt a → SS lt b → (∀ x, x ∈ a ↔ x ∈ b) → a = b
  | [], [], _, _, _ => rfl
  | [], y :: b, _, _, hm => absurd ((hm y).2 (by simp)) List.not_mem_nil
  | x :: a, [], _, _, hm => absurd ((hm x).1 (by simp)) List.not_mem_nil
  | x :: a, y :: b, ha, hb, hm => by
    have ha' := List.pairwise_cons.1 ha
    have hb' := List.pairwise_cons.1 hb
    have hxy : x = y := by
      rcases List.mem_cons.1 ((hm x).1 (by simp)) with h1 | h1
      · exact h1
      · rcases List.mem_cons.1 ((hm y).2 (by simp)) with h2 | h2
        · exact h2.symm
        · have h3 := hb'.1 x h1
          have h4 := ha'.1 y h2
          rw [h.as _ _ h3] at h4; cases h4
    subst hxy
    congr 1
    refine ss_eq h ha'.2 hb'.2 fun z => ⟨fun hz => ?_, fun hz => ?_⟩
    · rcases List.mem_cons.1 ((hm z).1 (by simp [hz])) with h1 | h1
      · subst h1; have := ha'.1 z hz; rw [h.ir] at this; cases this
      · exact h1
    · rcases List.mem_cons.1 ((hm z).2 (by simp [hz])) with h1 | h1
      · subst h1; have := hb'.1 z hz; rw [h.ir] at this; cases this
      · exact h1
theorem ss_ins (h : Ord lt) : ∀ {l : List α} {e : α}, SS lt l → (∀ y ∈ l, lt y e = true ∨ lt e y = true) → SS lt (insL lt l e)
  | [], e, _, _ => by simp [insL]
  | y :: ys, e, hs, hc => by
    have hs' := List.pairwise_cons.1 hs
    unfold insL
    split
    · rename_i h1
      refine List.pairwise_cons.2 ⟨fun z hz => ?_, ss_ins h hs'.2 fun z hz => hc z (by simp [hz])⟩
      rcases insL_memL hz with rfl | hz
      · exact h1
      · exact hs'.1 z hz
    · rename_i h1
      have h2 : lt e y = true := (hc y (by simp)).resolve_left h1
      refine List.pairwise_cons.2 ⟨fun z hz => ?_, hs⟩
      rcases List.mem_cons.1 hz with rfl | hz
      · exact h2
      · exact h.tr h2 (hs'.1 z hz)
theorem insL_iff {l : List α} {e x : α} : x ∈ insL lt l e ↔ x = e ∨ x ∈ l := ⟨insL_memL, insL_memR⟩
theorem insL_perm (e : α) : ∀ l : List α, (insL lt l e).Perm (e :: l)
  | [] => List.Perm.refl _
  | y :: ys => by
    unfold insL
    split
    · exact ((insL_perm e ys).cons y).trans (List.Perm.swap e y ys)
    · exact List.Perm.refl _
theorem foldr_iff {x : α} : ∀ {l : List α}, x ∈ l.foldr (fun e l => insL lt l e) [] ↔ x ∈ l
  | [] => by simp
  | y :: l => by rw [List.foldr_cons, insL_iff, foldr_iff, List.mem_cons]
theorem foldr_ss (h : Ord lt) : ∀ {l : List α}, l.Pairwise (fun a b => lt a b = true ∨ lt b a = true) → SS lt (l.foldr (fun e l => insL lt l e) [])
  | [], _ => by simp
  | y :: l, hp => by
    have hp' := List.pairwise_cons.1 hp
    refine ss_ins h (foldr_ss h hp'.2) fun z hz => ?_
    exact (hp'.1 z (foldr_iff.1 hz)).symm
theorem foldr_perm : ∀ l : List α, (l.foldr (fun e l => insL lt l e) []).Perm l
  | [] => List.Perm.refl _
  | y :: l => (insL_perm y _).trans ((foldr_perm l).cons y)
end
/-! ### Rows -/
def rowM (r : Rules) (now : Int) (l : List Party) (k : Int) (e : Entry) : Prop := ∃ p ∈ l, entryOk r p now = true ∧ p.cabin = k ∧ e = entryOf r p now
theorem queueOf_iff {r : Rules} {now k : Int} {l : List Party} {e : Entry} : e ∈ queueOf r l k now ↔ rowM r now l k e := by
  constructor
  · intro h; exact queueOf_out h
  · rintro ⟨p, hp, h1, h2, rfl⟩; exact queueOf_in hp h1 h2
theorem entryOf_ok {r : Rules} {p : Party} {now : Int} (h : entryOk r p now = true) : entryOf r p now = ⟨levelOf r p now, p.turn, p.id, p.size⟩ := by simp [entryOf, h]
theorem entry_cmp {r : Rules} {p q : Party} {now : Int} (hp : entryOk r p now = true) (hq : entryOk r q now = true) (h : p.turn ≠ q.turn) : entryLess (entryOf r p now) (entryOf r q now) = true ∨ entryLess (entryOf r q now) (entryOf r p now) = true := by
  rw [entryOf_ok hp, entryOf_ok hq]
  simp only [entryLess, Bool.or_eq_true, Bool.and_eq_true, decide_eq_true_eq, beq_iff_eq]
  omega
theorem queueOf_ss {r : Rules} {now k : Int} : ∀ {l : List Party}, (l.map (·.turn)).Nodup → SS entryLess (queueOf r l k now)
  | [], _ => by simp [queueOf]
  | p :: l, hd => by
    rw [List.map_cons, List.nodup_cons] at hd
    unfold queueOf
    split
    · rename_i hc
      simp only [Bool.and_eq_true] at hc
      rw [qIns_eq]
      refine ss_ins entryOrd (queueOf_ss hd.2) fun y hy => ?_
      obtain ⟨q, hq, h1, h2, rfl⟩ := queueOf_out hy
      refine entry_cmp h1 hc.1 fun he => hd.1 ?_
      rw [← he]; exact List.mem_map.2 ⟨q, hq, rfl⟩
    · exact queueOf_ss hd.2
/-! ### Pins -/
def pinM (l : List Party) (k : Int) (x : Pin) : Prop := ∃ p ∈ l, p.state = 2 ∧ p.cabin = k ∧ x = ⟨p.until', p.id⟩
theorem pinsRaw_iff {k : Int} {x : Pin} : ∀ {l : List Party}, x ∈ pinsRaw l k ↔ pinM l k x
  | [] => by simp [pinsRaw, pinM]
  | p :: l => by
    unfold pinsRaw
    split
    · rename_i hc
      simp only [Bool.and_eq_true, beq_iff_eq] at hc
      rw [List.mem_cons, pinsRaw_iff]
      constructor
      · rintro (rfl | ⟨q, hq, h⟩)
        · exact ⟨p, by simp, hc.1, hc.2, rfl⟩
        · exact ⟨q, by simp [hq], h⟩
      · rintro ⟨q, hq, h1, h2, h3⟩
        rcases List.mem_cons.1 hq with rfl | hq
        · exact .inl h3
        · exact .inr ⟨q, hq, h1, h2, h3⟩
    · rename_i hc
      simp only [Bool.and_eq_true, beq_iff_eq] at hc
      rw [pinsRaw_iff]
      constructor
      · rintro ⟨q, hq, h⟩; exact ⟨q, by simp [hq], h⟩
      · rintro ⟨q, hq, h1, h2, h3⟩
        rcases List.mem_cons.1 hq with rfl | hq
        · exact absurd ⟨h1, h2⟩ hc
        · exact ⟨q, hq, h1, h2, h3⟩
theorem pinsGo_foldr (l : List Party) (k : Int) : pinsGo l k [] = (pinsRaw l k).foldr (fun e l => insL pinLess l e) [] := by
  rw [pinsGo_raw, foldl_insL pinOrd pinTot]
theorem pinsGo_iff {l : List Party} {k : Int} {x : Pin} : x ∈ pinsGo l k [] ↔ pinM l k x := by
  rw [pinsGo_foldr, foldr_iff, pinsRaw_iff]
theorem pin_cmp {a b : Pin} (h : a ≠ b) : pinLess a b = true ∨ pinLess b a = true := by
  cases h1 : pinLess a b with
  | true => exact .inl rfl
  | false => cases h2 : pinLess b a with
    | true => exact .inr rfl
    | false => exact absurd (pinTot a b h1 h2) h
theorem pinsRaw_pw {k : Int} : ∀ {l : List Party}, (l.map (·.id)).Nodup → (pinsRaw l k).Pairwise fun a b => a ≠ b
  | [], _ => by simp [pinsRaw]
  | p :: l, hd => by
    rw [List.map_cons, List.nodup_cons] at hd
    unfold pinsRaw
    split
    · refine List.pairwise_cons.2 ⟨fun x hx => ?_, pinsRaw_pw hd.2⟩
      obtain ⟨q, hq, _, _, rfl⟩ := pinsRaw_iff.1 hx
      intro he
      injection he with h1 h2
      exact hd.1 (by rw [h2]; exact List.mem_map.2 ⟨q, hq, rfl⟩)
    · exact pinsRaw_pw hd.2
theorem pinsGo_ss {l : List Party} {k : Int} (hd : (l.map (·.id)).Nodup) : SS pinLess (pinsGo l k []) := by
  rw [pinsGo_foldr]
  exact foldr_ss pinOrd ((pinsRaw_pw hd).imp pin_cmp)
theorem pinsSort_foldr (l : List Pin) : pinsSort l = l.foldr (fun e l => insL pinLess l e) [] := by
  rw [pinsSort, pIns_eq', foldl_insL pinOrd pinTot]
theorem pinsSort_iff {l : List Pin} {x : Pin} : x ∈ pinsSort l ↔ x ∈ l := by rw [pinsSort_foldr, foldr_iff]
theorem pinsSort_ss {l : List Pin} (hd : (l.map (·.id)).Nodup) : SS pinLess (pinsSort l) := by
  rw [pinsSort_foldr]
  refine foldr_ss pinOrd ?_
  have h1 : l.Pairwise fun a b => a.id ≠ b.id := by
    have := hd
    rw [List.Nodup, List.pairwise_map] at this; exact this
  exact h1.imp fun hne => pin_cmp fun he => hne (by rw [he])
theorem pinsOf_of {wh : Wheel} (h : WheelP wh) : pinsOf wh = pinsSort wh.spoke.flatten := by simp [pinsOf, wheelOk_t h]
theorem pins_agree {wh : Wheel} {l : List Party} {k : Int} (hw : WheelP wh) (hd : (l.map (·.id)).Nodup) : samePins (pinsOf wh) (pinsGo l k []) = true ↔ ∀ x, x ∈ wh.spoke.flatten ↔ pinM l k x := by
  rw [samePins_iff, pinsOf_of hw]
  constructor
  · intro he x
    rw [← pinsSort_iff, he, pinsGo_iff]
  · intro hm
    refine ss_eq pinOrd (pinsSort_ss hw.2.2.2.1) (pinsGo_ss hd) fun x => ?_
    rw [pinsSort_iff, pinsGo_iff]; exact hm x
/-! ### Sums -/
def heldW (k : Int) (p : Party) : Int := if p.state = 2 ∧ p.cabin = k then p.size else 0
def tiedW (k : Int) (p : Party) : Int := if p.from' = k then p.size else 0
theorem isum_perm {a b : List Int} (h : a.Perm b) : a.sum = b.sum := by
  induction h with
  | nil => rfl
  | cons x _ ih => simp [ih]
  | swap x y l => simp only [List.sum_cons]; omega
  | trans _ _ h1 h2 => exact h1.trans h2
theorem sum_perm {f : Party → Int} {a b : List Party} (h : a.Perm b) : (a.map f).sum = (b.map f).sum := isum_perm (h.map f)
theorem heldGo_sum (k : Int) : ∀ (l : List Party) (n : Int), (∀ p ∈ l, 1 ≤ p.size ∧ p.size ≤ 6) → 0 ≤ n → n + 6 * l.length ≤ 9223372036854775807 → heldGo l k n = n + (l.map (heldW k)).sum
  | [], n, _, _, _ => by simp [heldGo]
  | p :: l, n, hs, h0, hn => by
    have hp := hs p (by simp)
    have hs' : ∀ q ∈ l, 1 ≤ q.size ∧ q.size ≤ 6 := fun q hq => hs q (by simp [hq])
    simp only [List.length_cons] at hn
    unfold heldGo
    have hin : inB p.size 1 6 = true := by simp only [inB, Bool.and_eq_true, decide_eq_true_eq]; exact hp
    rw [List.map_cons, List.sum_cons]
    by_cases hc : p.state = 2 ∧ p.cabin = k
    · rw [if_pos (by simp [hc.1, hc.2, hin]), wr_of (by omega) (by omega), heldGo_sum k l _ hs' (by omega) (by omega), heldW, if_pos hc]; omega
    · rw [if_neg (by simp only [Bool.and_eq_true, beq_iff_eq]; exact fun h => hc h.1), heldGo_sum k l _ hs' h0 (by omega), heldW, if_neg hc]; omega
theorem tiedGo_sum (k : Int) : ∀ (l : List Party) (n : Int), (∀ p ∈ l, 1 ≤ p.size ∧ p.size ≤ 6) → 0 ≤ n → n + 6 * l.length ≤ 9223372036854775807 → tiedGo l k n = n + (l.map (tiedW k)).sum
  | [], n, _, _, _ => by simp [tiedGo]
  | p :: l, n, hs, h0, hn => by
    have hp := hs p (by simp)
    have hs' : ∀ q ∈ l, 1 ≤ q.size ∧ q.size ≤ 6 := fun q hq => hs q (by simp [hq])
    simp only [List.length_cons] at hn
    unfold tiedGo
    have hin : inB p.size 1 6 = true := by simp only [inB, Bool.and_eq_true, decide_eq_true_eq]; exact hp
    rw [List.map_cons, List.sum_cons]
    by_cases hc : p.from' = k
    · rw [if_pos (by simp [hc, hin]), wr_of (by omega) (by omega), tiedGo_sum k l _ hs' (by omega) (by omega), tiedW, if_pos hc]; omega
    · rw [if_neg (by simp only [Bool.and_eq_true, beq_iff_eq]; exact fun h => hc h.1), tiedGo_sum k l _ hs' h0 (by omega), tiedW, if_neg hc]; omega
theorem sum_nn {f : Party → Int} : ∀ {l : List Party}, (∀ p ∈ l, 0 ≤ f p) → 0 ≤ (l.map f).sum
  | [], _ => by simp
  | p :: l, h => by
    have h1 := h p (by simp)
    have h2 := sum_nn (f := f) (l := l) fun q hq => h q (by simp [hq])
    rw [List.map_cons, List.sum_cons]; omega
theorem cnt_perm {a b : List Party} (h : a.Perm b) (k : Int) : cnt a k = cnt b k := (h.filter _).length_eq
theorem cnt_cons (p : Party) (l : List Party) (k : Int) : cnt (p :: l) k = (if p.cabin = k then 1 else 0) + cnt l k := by
  unfold cnt
  rw [List.filter_cons]
  by_cases h : p.cabin = k
  · rw [if_pos (by simpa using h), if_pos h, List.length_cons]; omega
  · rw [if_neg (by simpa using h), if_neg h]; omega
/-! ### Right parties -/
structure PR (r : Rules) (now : Int) (p : Party) : Prop where
  id0 : 1 ≤ p.id
  id1 : p.id ≤ 999
  cab : 0 ≤ p.cabin ∧ p.cabin < (r.seats.length : Int)
  frm : -1 ≤ p.from' ∧ p.from' < (r.seats.length : Int)
  ne : p.from' ≠ p.cabin
  size : 1 ≤ p.size ∧ p.size ≤ r.size ∧ p.size ≤ 6
  tier : 0 ≤ p.tier ∧ p.tier < r.tiers
  since : 0 ≤ p.since ∧ p.since ≤ now
  turn : 1 ≤ p.turn ∧ p.turn ≤ 1000000
  asked : 0 ≤ p.asked ∧ p.asked < r.tries
  st : (p.state = 1 ∧ 0 ≤ p.until' ∧ p.until' ≤ now + r.rest) ∨ (p.state = 2 ∧ 1 ≤ p.until' ∧ p.until' ≤ now + r.window)
structure RR (r : Rules) : Prop where
  seats : 1 ≤ r.seats.length ∧ r.seats.length ≤ 4
  tiers : 1 ≤ r.tiers ∧ r.tiers ≤ 5
  room : 1 ≤ r.room ∧ r.room ≤ 10
  size : 1 ≤ r.size ∧ r.size ≤ 6
  period : 1 ≤ r.period ∧ r.period ≤ 12
  window : 1 ≤ r.window ∧ r.window ≤ 8
  rest : 0 ≤ r.rest ∧ r.rest ≤ 8
  tries : 1 ≤ r.tries ∧ r.tries ≤ 4
  crew : 1 ≤ r.crew ∧ r.crew ≤ 3
theorem rr_of {r : Rules} (h : rulesOk r = true) : RR r := by
  simp only [rulesOk, inB, Bool.and_eq_true, decide_eq_true_eq] at h
  obtain ⟨⟨⟨⟨⟨⟨⟨⟨⟨q1, q2⟩, q3⟩, q4⟩, q5⟩, q6⟩, q7⟩, q8⟩, q9⟩, _⟩ := h
  exact ⟨by omega, q2, q3, q4, q5, q6, q7, q8, q9⟩
theorem partyOk_iff {r : Rules} {p : Party} {now : Int} : partyOk r p now = true ↔ rulesOk r = true ∧ (0 ≤ now ∧ now ≤ 1000000) ∧ PR r now p := by
  unfold partyOk
  cases hr : rulesOk r with
  | false => simp
  | true =>
    have rr := rr_of hr
    have h1 := rr.seats; have h2 := rr.tiers; have h3 := rr.tries; have h4 := rr.rest; have h5 := rr.window; have h6 := rr.size
    rw [wr_of (x := (r.seats.length : Int) - 1) (by omega) (by omega), wr_of (x := r.tiers - 1) (by omega) (by omega), wr_of (x := r.tries - 1) (by omega) (by omega)]
    by_cases hn : 0 ≤ now ∧ now ≤ 1000000
    · rw [wr_of (x := now + r.rest) (by omega) (by omega), wr_of (x := now + r.window) (by omega) (by omega)]
      simp only [Bool.true_and, inB, Bool.and_eq_true, Bool.or_eq_true, decide_eq_true_eq, beq_iff_eq, Bool.not_eq_true', beq_eq_false_iff_ne, ne_eq, true_and]
      constructor
      · rintro ⟨⟨⟨⟨⟨⟨⟨⟨⟨⟨_, a1⟩, a2⟩, a3⟩, a4⟩, a5⟩, a6⟩, a7⟩, a8⟩, a9⟩, a10⟩
        exact ⟨hn, ⟨a1.1, a1.2, ⟨a2.1, by omega⟩, ⟨a3.1, by omega⟩, a4, ⟨a5.1, a5.2, by omega⟩, ⟨a6.1, by omega⟩, a7, a8, ⟨a9.1, by omega⟩, a10⟩⟩
      · rintro ⟨_, g⟩
        have b2 := g.cab; have b3 := g.frm; have b5 := g.size; have b6 := g.tier; have b9 := g.asked
        exact ⟨⟨⟨⟨⟨⟨⟨⟨⟨⟨hn, g.id0, g.id1⟩, b2.1, by omega⟩, b3.1, by omega⟩, g.ne⟩, b5.1, b5.2.1⟩, b6.1, by omega⟩, g.since⟩, g.turn⟩, b9.1, by omega⟩, g.st⟩
    · constructor
      · intro h
        simp only [Bool.and_eq_true, inB, decide_eq_true_eq] at h
        exact absurd h.1.1.1.1.1.1.1.1.1.1.2 hn
      · rintro ⟨_, h, _⟩; exact absurd h hn
structure Good (r : Rules) (now : Int) (l : List Party) : Prop where
  rules : rulesOk r = true
  nw : 0 ≤ now ∧ now ≤ 1000000
  ok : ∀ p ∈ l, PR r now p
  ids : (l.map (·.id)).Nodup
  turns : (l.map (·.turn)).Nodup
  len : l.length ≤ 40
theorem Good.pok {r : Rules} {now : Int} {l : List Party} (g : Good r now l) {p : Party} (hp : p ∈ l) : partyOk r p now = true := partyOk_iff.2 ⟨g.rules, g.nw, g.ok p hp⟩
theorem nodup_one {β : Type} {f : Party → β} : ∀ {l : List Party}, (l.map f).Nodup → ∀ {x y : Party}, x ∈ l → y ∈ l → f x = f y → x = y
  | [], _, x, y, hx, _, _ => absurd hx List.not_mem_nil
  | p :: l, hd, x, y, hx, hy, he => by
    rw [List.map_cons, List.nodup_cons] at hd
    rcases List.mem_cons.1 hx with h1 | h1 <;> rcases List.mem_cons.1 hy with h2 | h2
    · rw [h1, h2]
    · exact absurd (List.mem_map.2 ⟨y, h2, by rw [← he, h1]⟩) hd.1
    · exact absurd (List.mem_map.2 ⟨x, h1, by rw [he, h2]⟩) hd.1
    · exact nodup_one hd.2 h1 h2 he
theorem Good.one {r : Rules} {now : Int} {l : List Party} (g : Good r now l) {x y : Party} (hx : x ∈ l) (hy : y ∈ l) (h : x.id = y.id) : x = y := nodup_one g.ids hx hy h
theorem Good.perm {r : Rules} {now : Int} {l m : List Party} (g : Good r now l) (h : l.Perm m) : Good r now m :=
  ⟨g.rules, g.nw, fun p hp => g.ok p (h.mem_iff.2 hp), (h.map _).nodup_iff.1 g.ids, (h.map _).nodup_iff.1 g.turns, by rw [← h.length_eq]; exact g.len⟩
theorem Good.tail {r : Rules} {now : Int} {p : Party} {l : List Party} (g : Good r now (p :: l)) : Good r now l :=
  ⟨g.rules, g.nw, fun q hq => g.ok q (by simp [hq]), (List.nodup_cons.1 (by simpa using g.ids)).2, (List.nodup_cons.1 (by simpa using g.turns)).2, by have := g.len; simp only [List.length_cons] at this; omega⟩
theorem level_rng {r : Rules} {p : Party} {now : Int} (h : partyOk r p now = true) : 0 ≤ levelOf r p now ∧ levelOf r p now ≤ 4 := by
  obtain ⟨hr, hn, g⟩ := partyOk_iff.1 h
  have rr := rr_of hr
  have h1 := rr.tiers; have h2 := rr.period; have h3 := g.tier; have h4 := g.since
  simp only [levelOf, h, if_true]
  rw [wr_of (x := now - p.since) (by omega) (by omega)]
  refine ⟨levelAt_nn _ _ _, ?_⟩
  unfold levelAt
  have h5 : 0 ≤ Int.tdiv (now - p.since) r.period := Int.tdiv_nonneg (by omega) (by omega)
  have h6 : Int.tdiv (now - p.since) r.period ≤ now - p.since := by
    rw [Int.tdiv_eq_ediv_of_nonneg (by omega)]
    exact Int.ediv_le_self _ (by omega)
  rw [wr_of (x := Int.tdiv (now - p.since) r.period) (by omega) (by omega), wr_of (x := p.tier - _) (by omega) (by omega)]
  split <;> omega
/-- what a cabin says of the parties -/
structure Rep (r : Rules) (now : Int) (l : List Party) (k : Int) (c : Cabin) : Prop where
  led : ledgerOk c.seats = true
  ss : SS entryLess c.row
  row : ∀ e, e ∈ c.row ↔ rowM r now l k e
  wh : WheelP c.wheel
  pin : ∀ x, x ∈ c.wheel.spoke.flatten ↔ pinM l k x
  held : c.seats.held = (l.map (heldW k)).sum
  tied : c.seats.tied = (l.map (tiedW k)).sum
theorem ss_ids {r : Rules} {now k : Int} {l : List Party} {row : List Entry} (g : Good r now l) (hs : SS entryLess row) (hm : ∀ e ∈ row, rowM r now l k e) : (row.map (·.id)).Nodup := by
  rw [List.Nodup, List.pairwise_map]
  refine List.Pairwise.imp_of_mem (fun {a b} ha hb hl he => ?_) hs
  obtain ⟨p, hp, h1, h2, rfl⟩ := hm a ha
  obtain ⟨q, hq, h3, h4, rfl⟩ := hm b hb
  rw [entryOf_ok h1, entryOf_ok h3] at he
  have := g.one hp hq he
  subst this
  rw [entryOrd.ir] at hl; cases hl
theorem queueP_row {r : Rules} {now k : Int} {l : List Party} {row : List Entry} (g : Good r now l) (hc : row.length ≤ 10) (hs : SS entryLess row) (hm : ∀ e ∈ row, rowM r now l k e) : QueueP row := by
  refine ⟨hc, fun i e he => ⟨?_, fun h0 y hy => ?_, fun j y hj hy => ?_⟩⟩
  · obtain ⟨p, hp, h1, h2, rfl⟩ := hm e (List.mem_of_getElem? he)
    have hl := level_rng (g.pok hp)
    have gp := g.ok p hp
    have a1 := gp.turn; have a2 := gp.id0; have a3 := gp.id1; have a4 := gp.size
    rw [entryOf_ok h1]
    unfold EntryR
    simp only [inB, Bool.and_eq_true, decide_eq_true_eq]
    omega
  · obtain ⟨g1, e1⟩ := List.getElem?_eq_some_iff.1 hy
    obtain ⟨g2, e2⟩ := List.getElem?_eq_some_iff.1 he
    have := (List.pairwise_iff_getElem.1 hs) (i - 1) i g1 g2 (by omega)
    rw [e1, e2] at this; exact this
  · obtain ⟨g1, e1⟩ := List.getElem?_eq_some_iff.1 hy
    obtain ⟨g2, e2⟩ := List.getElem?_eq_some_iff.1 he
    have h9 := ss_ids g hs hm
    rw [List.Nodup, List.pairwise_map, List.pairwise_iff_getElem] at h9
    have := h9 j i g1 g2 hj
    rw [e1, e2] at this; exact this
theorem agrees_iff {r : Rules} {now k : Int} {l : List Party} {c : Cabin} (g : Good r now l) (hc : cnt l k ≤ 10) : agrees r c l k now = true ↔ Rep r now l k c := by
  have hsz : ∀ p ∈ l, 1 ≤ p.size ∧ p.size ≤ 6 := fun p hp => ⟨(g.ok p hp).size.1, (g.ok p hp).size.2.2⟩
  have hlen := g.len
  have hh := heldGo_sum k l 0 hsz (by omega) (by omega)
  have ht := tiedGo_sum k l 0 hsz (by omega) (by omega)
  rw [Int.zero_add] at hh ht
  unfold agrees
  simp only [Bool.and_eq_true, beq_iff_eq, cabinOk, sameRow_iff, hh, ht]
  constructor
  · rintro ⟨⟨⟨⟨⟨⟨h1, h2⟩, h3⟩, h4⟩, h5⟩, h6⟩, h7⟩
    have hw := wheelP_of h3
    exact ⟨h1, h4 ▸ queueOf_ss g.turns, fun e => by rw [h4]; exact queueOf_iff, hw, (pins_agree hw g.ids).1 h5, h6, h7⟩
  · rintro ⟨h1, h2, h3, h4, h5, h6, h7⟩
    have hq : c.row = queueOf r l k now := ss_eq entryOrd h2 (queueOf_ss g.turns) fun e => by rw [queueOf_iff]; exact h3 e
    refine ⟨⟨⟨⟨⟨⟨h1, queueOk_t (queueP_row g ?_ h2 fun e he => (h3 e).1 he)⟩, wheelOk_t h4⟩, hq⟩, (pins_agree h4 g.ids).2 h5⟩, h6⟩, h7⟩
    rw [hq, queueOf_raw, (foldr_perm _).length_eq]
    have h8 := queueRaw_len r k now l 0 (by omega) (by omega)
    rw [countGo_cnt k l 0 (by omega) (by omega)] at h8
    omega
/-! ### Parties, pair by pair -/
def KK (q p : Party) : Prop := q.turn ≠ p.turn ∧ ¬ (q.turn < p.turn ∧ p.since < q.since) ∧ ¬ (p.turn < q.turn ∧ q.since < p.since)
theorem KK.symm {q p : Party} (h : KK q p) : KK p q := ⟨h.1.symm, h.2.2, h.2.1⟩
structure PPs (h : House) : Prop where
  ok : ∀ p ∈ h.parties, partyOk h.rules p h.now = true ∧ p.turn < h.turn
  ids : h.parties.Pairwise fun a b => a.id < b.id
  kk : h.parties.Pairwise KK
theorem partiesP_pw {h : House} : PartiesP h ↔ PPs h := by
  constructor
  · intro hp
    refine ⟨fun p hm => ?_, ?_, ?_⟩
    · obtain ⟨i, hi⟩ := List.mem_iff_getElem?.1 hm
      exact ⟨(hp i p hi).1, (hp i p hi).2.1⟩
    · rw [List.pairwise_iff_getElem]
      intro i j hi hj hij
      exact ids_lt hp (j - i - 1) i _ _ (List.getElem?_eq_getElem hi) (by rw [show i + (j - i - 1) + 1 = j by omega]; exact List.getElem?_eq_getElem hj)
    · rw [List.pairwise_iff_getElem]
      intro i j hi hj hij
      exact (hp j _ (List.getElem?_eq_getElem hj)).2.2.2 i _ hij (List.getElem?_eq_getElem hi)
  · intro hp i p hi
    have hm := hp.ok p (List.mem_of_getElem? hi)
    obtain ⟨g2, e2⟩ := List.getElem?_eq_some_iff.1 hi
    refine ⟨hm.1, hm.2, fun h0 q hq => ?_, fun j q hj hq => ?_⟩
    · obtain ⟨g1, e1⟩ := List.getElem?_eq_some_iff.1 hq
      have := (List.pairwise_iff_getElem.1 hp.ids) (i - 1) i g1 g2 (by omega)
      rw [e1, e2] at this; exact this
    · obtain ⟨g1, e1⟩ := List.getElem?_eq_some_iff.1 hq
      have := (List.pairwise_iff_getElem.1 hp.kk) j i g1 g2 hj
      rw [e1, e2] at this; exact this
/-- a right house, said by its parties -/
structure HRep (h : House) : Prop where
  rules : rulesOk h.rules = true
  now : 0 ≤ h.now ∧ h.now ≤ 1000000
  turn : 1 ≤ h.turn ∧ h.turn ≤ 1000001
  len : h.parties.length ≤ 40
  cabs : h.cabins.length = h.rules.seats.length
  pps : PPs h
  jobs : JobsP h
  cab : ∀ (k : Nat) (c : Cabin), h.cabins[k]? = some c → h.rules.seats[k]? = some c.seats.total ∧ Rep h.rules h.now h.parties k c ∧ (cnt h.parties k : Int) ≤ h.rules.room
theorem PPs.good {h : House} (hp : PPs h) (hr : rulesOk h.rules = true) (hn : 0 ≤ h.now ∧ h.now ≤ 1000000) (hl : h.parties.length ≤ 40) : Good h.rules h.now h.parties := by
  refine ⟨hr, hn, fun p hm => (partyOk_iff.1 (hp.ok p hm).1).2.2, ?_, ?_, hl⟩
  · rw [List.Nodup, List.pairwise_map]
    exact hp.ids.imp fun h => by omega
  · rw [List.Nodup, List.pairwise_map]
    exact hp.kk.imp fun h => h.1
theorem HRep.good {h : House} (hp : HRep h) : Good h.rules h.now h.parties := hp.pps.good hp.rules hp.now hp.len
theorem houseP_iff {h : House} : HouseP h ↔ HRep h := by
  constructor
  · rintro ⟨h1, h2, h3, h4, h5, h6, h7, h8⟩
    simp only [inB, Bool.and_eq_true, decide_eq_true_eq] at h2 h3
    have hpp := partiesP_pw.1 h6
    refine ⟨h1, h2, h3, h4, h5, hpp, h7, fun k c hk => ?_⟩
    obtain ⟨g1, g2, g3⟩ := h8 k c hk
    have hroom := (rr_of h1).room
    rw [countGo_cnt k _ 0 (by omega) (by omega)] at g3
    exact ⟨g1, (agrees_iff (hpp.good h1 h2 h4) (by omega)).1 g2, by omega⟩
  · intro hp
    have hroom := (rr_of hp.rules).room
    have hlen := hp.len
    refine ⟨hp.rules, by simp only [inB, Bool.and_eq_true, decide_eq_true_eq]; exact hp.now, by simp only [inB, Bool.and_eq_true, decide_eq_true_eq]; exact hp.turn, hp.len, hp.cabs, partiesP_pw.2 hp.pps, hp.jobs, fun k c hk => ?_⟩
    obtain ⟨g1, g2, g3⟩ := hp.cab k c hk
    refine ⟨g1, (agrees_iff hp.good (by omega)).2 g2, ?_⟩
    rw [countGo_cnt k _ 0 (by omega) (by omega)]; omega
end SX
end Go.Proofs.YtejojcoaohlfbaaGreat
/- How rows, wheels and sums follow a change of the parties, in plain Lean. It imports no program. -/
namespace Go.Proofs.YtejojcoaohlfbaaGreat
namespace SX
set_option linter.unusedVariables false
set_option linter.unusedSimpArgs false
open Go Go.RowKit
/-! ### Cutting one element -/
section
variable {α : Type}
def cutAt (l : List α) (k : Nat) : List α := l.take k ++ l.drop (k + 1)
theorem split_at {l : List α} {k : Nat} {x : α} (h : l[k]? = some x) : l = l.take k ++ x :: l.drop (k + 1) := by
  obtain ⟨h1, h2⟩ := List.getElem?_eq_some_iff.1 h
  rw [← h2, ← List.drop_eq_getElem_cons h1, List.take_append_drop]
theorem cutAt_perm {l : List α} {k : Nat} {x : α} (h : l[k]? = some x) : l.Perm (x :: cutAt l k) := by
  have h1 : l.Perm (l.take k ++ x :: l.drop (k + 1)) := List.Perm.of_eq (split_at h)
  exact h1.trans List.perm_middle
theorem cutAt_sub {l : List α} {k : Nat} {x : α} (h : l[k]? = some x) : (cutAt l k).Sublist l := by
  have h1 : (cutAt l k).Sublist (l.take k ++ x :: l.drop (k + 1)) := (List.Sublist.refl _).append (List.sublist_cons_self _ _)
  rw [← split_at h] at h1; exact h1
theorem set_perm : ∀ {l : List α} {k : Nat} {x : α} (y : α), l[k]? = some x → (l.set k y).Perm (y :: cutAt l k)
  | [], _, _, _, h => by simp at h
  | a :: l, 0, _, y, h => by simp [cutAt]
  | a :: l, k + 1, x, y, h => by
    rw [List.getElem?_cons_succ] at h
    have h1 := set_perm y h
    have h2 : cutAt (a :: l) (k + 1) = a :: cutAt l k := by simp [cutAt]
    rw [h2, List.set_cons_succ]
    exact (h1.cons a).trans (List.Perm.swap y a _)
theorem cutAt_iff {f : α → Int} {l : List α} {k : Nat} {x0 : α} (h : l[k]? = some x0) (hd : (l.map f).Nodup) {x : α} : x ∈ cutAt l k ↔ x ∈ l ∧ f x ≠ f x0 := by
  constructor
  · intro hx
    refine ⟨(cutAt_sub h).subset hx, fun he => ?_⟩
    have hn := ((cutAt_perm h).map f).nodup_iff.1 hd
    rw [List.map_cons, List.nodup_cons] at hn
    exact hn.1 (he ▸ List.mem_map.2 ⟨x, hx, rfl⟩)
  · rintro ⟨hx, hne⟩
    rcases List.mem_cons.1 ((cutAt_perm h).mem_iff.1 hx) with rfl | hx
    · exact absurd rfl hne
    · exact hx
theorem set_same {β : Type} {f : α → β} {l : List α} {k : Nat} {x y : α} (h : l[k]? = some x) (he : f y = f x) : (l.set k y).map f = l.map f := by
  apply List.ext_getElem?
  intro i
  rw [List.getElem?_map, List.getElem?_map, List.getElem?_set]
  split
  · rename_i hik
    subst hik
    rw [h]
    split
    · simp [he]
    · rename_i hlt
      exact absurd (List.getElem?_eq_some_iff.1 h).1 hlt
  · rfl
end
/-! ### The functions that cut -/
def queueCut (l : List Entry) (id : Int) : List Entry := if queueAt l id 0 < 0 then l else cutAt l (queueAt l id 0).toNat
def pinRB (p : Pin) : Bool := inB p.at' 1 1000008 && inB p.id 1 999
def pinAt (l : List Pin) (p : Pin) : Int := idxF (fun x : Pin => x.at' == p.at' && x.id == p.id) l 0
noncomputable def wheelCut (w : Wheel) (p : Pin) : Wheel :=
  if wheelOk w && !decide (p.at' < 1) then
    match w.spoke[(Int.tmod p.at' 9).toNat]? with
    | some l => if pinAt l p < 0 then w else ⟨w.spoke.set (Int.tmod p.at' 9).toNat (cutAt l (pinAt l p).toNat)⟩
    | none => w
  else w
def partyCut (l : List Party) (id : Int) : List Party := if atId l id < 0 then l else cutAt l (atId l id).toNat
theorem queueAt_of {l : List Entry} {e : Entry} (hd : (l.map (·.id)).Nodup) (he : e ∈ l) : ∃ k : Nat, queueAt l e.id 0 = (k : Int) ∧ l[k]? = some e := by
  rcases queueAt_spec l e.id 0 with ⟨_, h2⟩ | ⟨i, y, h1, h2, h3, h4⟩
  · exact absurd rfl (h2 e he)
  · refine ⟨i, by rw [h3]; congr 1; omega, ?_⟩
    obtain ⟨j, hj⟩ := List.mem_iff_getElem?.1 he
    obtain ⟨g1, e1⟩ := List.getElem?_eq_some_iff.1 h1
    obtain ⟨g2, e2⟩ := List.getElem?_eq_some_iff.1 hj
    have : i = j := by
      have hn := hd
      rw [List.Nodup, List.pairwise_iff_getElem] at hn
      rcases Nat.lt_trichotomy i j with h | h | h
      · exact absurd (by rw [List.getElem_map, List.getElem_map, e1, e2, h2]) (hn i j (by simpa using g1) (by simpa using g2) h)
      · exact h
      · exact absurd (by rw [List.getElem_map, List.getElem_map, e1, e2, h2]) (hn j i (by simpa using g2) (by simpa using g1) h)
    subst this; exact hj
theorem queueCut_iff {l : List Entry} {e x : Entry} (hd : (l.map (·.id)).Nodup) (he : e ∈ l) : x ∈ queueCut l e.id ↔ x ∈ l ∧ x.id ≠ e.id := by
  obtain ⟨k, h1, h2⟩ := queueAt_of hd he
  rw [queueCut, h1, if_neg (by omega), Int.toNat_natCast]
  exact cutAt_iff (f := (·.id)) h2 hd
theorem queueCut_sub (l : List Entry) (id : Int) : (queueCut l id).Sublist l := by
  unfold queueCut
  split
  · exact List.Sublist.refl _
  · rcases queueAt_spec l id 0 with ⟨h1, _⟩ | ⟨i, y, h1, h2, h3, h4⟩
    · omega
    · rw [h3, Int.toNat_natCast, Nat.zero_add]; exact cutAt_sub h1
theorem queueCut_len (l : List Entry) (id : Int) : (queueCut l id).length ≤ l.length := (queueCut_sub l id).length_le
theorem atId_of {l : List Party} {p : Party} (hd : (l.map (·.id)).Nodup) (hp : p ∈ l) : ∃ k : Nat, atId l p.id = (k : Int) ∧ l[k]? = some p := by
  have hnn : ¬ atId l p.id < 0 := by
    intro hn
    obtain ⟨i, hi⟩ := List.mem_iff_getElem?.1 hp
    have : ∀ (m : List Party) (n : Nat), p ∈ m → 0 ≤ idxF (fun e : Party => e.id == p.id) m n := by
      intro m
      induction m with
      | nil => intro n h; exact absurd h List.not_mem_nil
      | cons y m ih =>
        intro n h
        unfold idxF
        split
        · omega
        · rename_i hne
          rcases List.mem_cons.1 h with rfl | h
          · simp at hne
          · exact ih (n + 1) h
    have := this l 0 hp
    unfold atId at hn; omega
  obtain ⟨q, h1, h2⟩ := atId_at hnn
  refine ⟨(atId l p.id).toNat, by omega, ?_⟩
  rw [h1]; congr 1
  exact nodup_one hd (List.mem_of_getElem? h1) hp h2
theorem partyCut_perm {l : List Party} {p : Party} (hd : (l.map (·.id)).Nodup) (hp : p ∈ l) : l.Perm (p :: partyCut l p.id) := by
  obtain ⟨k, h1, h2⟩ := atId_of hd hp
  rw [partyCut, h1, if_neg (by omega), Int.toNat_natCast]
  exact cutAt_perm h2
theorem partyCut_sub (l : List Party) (id : Int) : (partyCut l id).Sublist l := by
  unfold partyCut
  split
  · exact List.Sublist.refl _
  · rename_i h
    obtain ⟨q, h1, h2⟩ := atId_at h
    exact cutAt_sub h1
theorem partyPut_perm {l : List Party} {p q : Party} (hd : (l.map (·.id)).Nodup) (hp : p ∈ l) (he : q.id = p.id) : (partyPut l q).Perm (q :: partyCut l p.id) := by
  obtain ⟨k, h1, h2⟩ := atId_of hd hp
  rw [partyCut, partyPut, he, h1, if_pos (by omega), if_neg (by omega), Int.toNat_natCast]
  exact set_perm q h2
theorem partyPut_same {β : Type} {f : Party → β} {l : List Party} {p q : Party} (hd : (l.map (·.id)).Nodup) (hp : p ∈ l) (he : q.id = p.id) (hf : f q = f p) : (partyPut l q).map f = l.map f := by
  obtain ⟨k, h1, h2⟩ := atId_of hd hp
  rw [partyPut, he, h1, if_pos (by omega), Int.toNat_natCast]
  exact set_same h2 hf
theorem partyPut_new {l : List Party} {q : Party} (h : atId l q.id < 0) : partyPut l q = insL idLess l q := by
  rw [partyPut, if_neg (by omega)]
/-! ### Rows -/
structure RowR (r : Rules) (now : Int) (l : List Party) (k : Int) (row : List Entry) : Prop where
  ss : SS entryLess row
  mem : ∀ e, e ∈ row ↔ rowM r now l k e
theorem rowM_cons {r : Rules} {now k : Int} {p : Party} {l : List Party} {e : Entry} : rowM r now (p :: l) k e ↔ (entryOk r p now = true ∧ p.cabin = k ∧ e = entryOf r p now) ∨ rowM r now l k e := by
  constructor
  · rintro ⟨q, hq, h⟩
    rcases List.mem_cons.1 hq with rfl | hq
    · exact .inl h
    · exact .inr ⟨q, hq, h⟩
  · rintro (h | ⟨q, hq, h⟩)
    · exact ⟨p, by simp, h⟩
    · exact ⟨q, by simp [hq], h⟩
theorem rowM_perm {r : Rules} {now k : Int} {l m : List Party} {e : Entry} (h : l.Perm m) : rowM r now l k e ↔ rowM r now m k e := by
  simp only [rowM, h.mem_iff]
theorem RowR.perm {r : Rules} {now k : Int} {l m : List Party} {row : List Entry} (h : RowR r now l k row) (hp : l.Perm m) : RowR r now m k row := ⟨h.ss, fun e => (h.mem e).trans (rowM_perm hp)⟩
theorem RowR.skip {r : Rules} {now k : Int} {p : Party} {l : List Party} {row : List Entry} (hn : ¬ (entryOk r p now = true ∧ p.cabin = k)) : RowR r now (p :: l) k row ↔ RowR r now l k row := by
  have : ∀ e, rowM r now (p :: l) k e ↔ rowM r now l k e := fun e => by
    rw [rowM_cons]
    exact ⟨fun h => h.resolve_left fun w => hn ⟨w.1, w.2.1⟩, .inr⟩
  exact ⟨fun h => ⟨h.ss, fun e => (h.mem e).trans (this e)⟩, fun h => ⟨h.ss, fun e => (h.mem e).trans (this e).symm⟩⟩
theorem RowR.add {r : Rules} {now k : Int} {p : Party} {l : List Party} {row : List Entry} (h : RowR r now l k row) (ht : p.turn ∉ l.map (·.turn)) (he : entryOk r p now = true) (hk : p.cabin = k) : RowR r now (p :: l) k (qIns row (entryOf r p now)) := by
  rw [qIns_eq]
  refine ⟨ss_ins entryOrd h.ss fun y hy => ?_, fun e => ?_⟩
  · obtain ⟨q, hq, h1, h2, rfl⟩ := (h.mem y).1 hy
    refine entry_cmp h1 he fun w => ht ?_
    rw [← w]; exact List.mem_map.2 ⟨q, hq, rfl⟩
  · rw [insL_iff, rowM_cons, h.mem]
    exact ⟨fun w => w.elim (fun w => .inl ⟨he, hk, w⟩) .inr, fun w => w.elim (fun w => .inl w.2.2) .inr⟩
theorem RowR.del {r : Rules} {now k : Int} {p : Party} {l : List Party} {row : List Entry} (g : Good r now (p :: l)) (h : RowR r now (p :: l) k row) (he : entryOk r p now = true) (hk : p.cabin = k) : RowR r now l k (queueCut row p.id) := by
  have hm : entryOf r p now ∈ row := (h.mem _).2 (rowM_cons.2 (.inl ⟨he, hk, rfl⟩))
  have hid : (entryOf r p now).id = p.id := by rw [entryOf_ok he]
  have hd := ss_ids g h.ss fun e he => (h.mem e).1 he
  refine ⟨h.ss.sublist (queueCut_sub _ _), fun e => ?_⟩
  rw [← hid, queueCut_iff hd hm, h.mem, hid]
  have hids := g.ids
  rw [List.map_cons, List.nodup_cons] at hids
  constructor
  · rintro ⟨h1, h2⟩
    rcases rowM_cons.1 h1 with h1 | h1
    · exact absurd (by rw [h1.2.2, hid]) h2
    · exact h1
  · intro h1
    refine ⟨rowM_cons.2 (.inr h1), fun he' => hids.1 ?_⟩
    obtain ⟨q, hq, h3, _, rfl⟩ := h1
    rw [entryOf_ok h3] at he'
    rw [← he']; exact List.mem_map.2 ⟨q, hq, rfl⟩
/-! ### Wheels -/
structure WhR (l : List Party) (k : Int) (wh : Wheel) : Prop where
  ok : WheelP wh
  mem : ∀ x, x ∈ wh.spoke.flatten ↔ pinM l k x
theorem pinM_cons {k : Int} {p : Party} {l : List Party} {x : Pin} : pinM (p :: l) k x ↔ (p.state = 2 ∧ p.cabin = k ∧ x = ⟨p.until', p.id⟩) ∨ pinM l k x := by
  constructor
  · rintro ⟨q, hq, h⟩
    rcases List.mem_cons.1 hq with rfl | hq
    · exact .inl h
    · exact .inr ⟨q, hq, h⟩
  · rintro (h | ⟨q, hq, h⟩)
    · exact ⟨p, by simp, h⟩
    · exact ⟨q, by simp [hq], h⟩
theorem WhR.perm {k : Int} {l m : List Party} {wh : Wheel} (h : WhR l k wh) (hp : l.Perm m) : WhR m k wh := ⟨h.ok, fun x => (h.mem x).trans (by simp only [pinM, hp.mem_iff])⟩
theorem WhR.skip {k : Int} {p : Party} {l : List Party} {wh : Wheel} (hn : ¬ (p.state = 2 ∧ p.cabin = k)) : WhR (p :: l) k wh ↔ WhR l k wh := by
  have : ∀ x, pinM (p :: l) k x ↔ pinM l k x := fun x => by
    rw [pinM_cons]
    exact ⟨fun h => h.resolve_left fun w => hn ⟨w.1, w.2.1⟩, .inr⟩
  exact ⟨fun h => ⟨h.ok, fun x => (h.mem x).trans (this x)⟩, fun h => ⟨h.ok, fun x => (h.mem x).trans (this x).symm⟩⟩
theorem flatten_perm : ∀ {xss : List (List Pin)} {i : Nat} {l m : List Pin} {p : Pin}, xss[i]? = some l → m.Perm (p :: l) → (xss.set i m).flatten.Perm (p :: xss.flatten)
  | [], _, _, _, _, h, _ => by simp at h
  | z :: xss, 0, l, m, p, h, hp => by
    simp at h; subst h
    rw [List.set_cons_zero, List.flatten_cons, List.flatten_cons]
    exact (hp.append_right _)
  | z :: xss, i + 1, l, m, p, h, hp => by
    rw [List.getElem?_cons_succ] at h
    have h1 := flatten_perm h hp
    rw [List.set_cons_succ, List.flatten_cons, List.flatten_cons]
    exact (h1.append_left z).trans List.perm_middle
theorem spoke_ss {i : Nat} {l : List Pin} : SpokeP i l ↔ (∀ x ∈ l, Int.tmod x.at' 9 = (i : Int)) ∧ SS pinLess l := by
  constructor
  · intro h
    refine ⟨fun x hx => ?_, ?_⟩
    · obtain ⟨m, hm⟩ := List.mem_iff_getElem?.1 hx
      exact (h m x hm).1
    · have : ∀ (d m : Nat) (x y : Pin), l[m]? = some x → l[m + d + 1]? = some y → pinLess x y = true := by
        intro d
        induction d with
        | zero => intro m x y hx hy; exact (h (m + 1) y hy).2 (by omega) x hx
        | succ d ih =>
          intro m x y hx hy
          have hlt : m + d + 1 < l.length := by have := (List.getElem?_eq_some_iff.1 hy).1; omega
          exact pinOrd.tr (ih m x _ hx (List.getElem?_eq_getElem hlt)) ((h _ y hy).2 (by omega) _ (by rw [show m + (d + 1) + 1 - 1 = m + d + 1 by omega]; exact List.getElem?_eq_getElem hlt))
      refine List.pairwise_iff_getElem.2 ?_
      intro a b ha hb hab
      exact this (b - a - 1) a _ _ (List.getElem?_eq_getElem ha) (by rw [show a + (b - a - 1) + 1 = b by omega]; exact List.getElem?_eq_getElem hb)
  · rintro ⟨h1, h2⟩ m x hx
    refine ⟨h1 x (List.mem_of_getElem? hx), fun h0 y hy => ?_⟩
    obtain ⟨g1, e1⟩ := List.getElem?_eq_some_iff.1 hy
    obtain ⟨g2, e2⟩ := List.getElem?_eq_some_iff.1 hx
    have := (List.pairwise_iff_getElem.1 h2) (m - 1) m g1 g2 (by omega)
    rw [e1, e2] at this; exact this
theorem wheelP_iff {wh : Wheel} : WheelP wh ↔ wh.spoke.length = 9 ∧ wh.spoke.flatten.length ≤ 10 ∧ (∀ p ∈ wh.spoke.flatten, PinR p) ∧ (wh.spoke.flatten.map (·.id)).Nodup ∧ ∀ (i : Nat) (l : List Pin), wh.spoke[i]? = some l → (∀ x ∈ l, Int.tmod x.at' 9 = (i : Int)) ∧ SS pinLess l := by
  unfold WheelP
  refine and_congr_right fun _ => and_congr_right fun _ => and_congr_right fun _ => and_congr_right fun _ => ?_
  exact ⟨fun h i l hl => spoke_ss.1 (h i l hl), fun h i l hl => spoke_ss.2 (h i l hl)⟩
theorem get_set {α : Type} {l : List α} {i j : Nat} {x y : α} (h : (l.set i y)[j]? = some x) : (i = j ∧ x = y ∧ j < l.length) ∨ (i ≠ j ∧ l[j]? = some x) := by
  rw [List.getElem?_set] at h
  split at h
  · rename_i hij
    split at h
    · rename_i hl
      injection h with h
      exact .inl ⟨hij, h.symm, by omega⟩
    · cases h
  · exact .inr ⟨by assumption, h⟩
theorem spoke_at {wh : Wheel} (hw : WheelP wh) {p : Pin} (hp : PinR p) : ∃ l, wh.spoke[(Int.tmod p.at' 9).toNat]? = some l ∧ (((Int.tmod p.at' 9).toNat : Nat) : Int) = Int.tmod p.at' 9 ∧ 1 ≤ p.at' := by
  obtain ⟨h1, h2⟩ := hp
  simp only [inB, Bool.and_eq_true, decide_eq_true_eq] at h1
  have h3 := tmod_rng (a := p.at') (n := 9) (by omega) (by omega)
  have h4 := hw.1
  exact ⟨_, List.getElem?_eq_getElem (by omega), by omega, h1.1⟩
theorem WhR.add {r : Rules} {now k : Int} {p : Party} {l : List Party} {wh : Wheel} (h : WhR l k wh) (hid : p.id ∉ l.map (·.id)) (hr : PinR ⟨p.until', p.id⟩) (hs : p.state = 2) (hk : p.cabin = k) (hlen : wh.spoke.flatten.length ≤ 9) :
    WhR (p :: l) k (wheelIns wh ⟨p.until', p.id⟩) ∧ wheelPut wh ⟨p.until', p.id⟩ = wheelIns wh ⟨p.until', p.id⟩ := by
  obtain ⟨sp, hsp, htm, hat⟩ := spoke_at h.ok hr
  have hins := wheelIns_of (w := wh) hsp
  have hfp : (wheelIns wh ⟨p.until', p.id⟩).spoke.flatten.Perm (⟨p.until', p.id⟩ :: wh.spoke.flatten) := by
    rw [hins]; exact flatten_perm hsp (by rw [pIns_eq]; exact insL_perm _ _)
  obtain ⟨h1, h2, h3, h4, h5⟩ := wheelP_iff.1 h.ok
  have hno : ∀ y ∈ wh.spoke.flatten, y.id ≠ p.id := by
    intro y hy he
    obtain ⟨q, hq, _, _, rfl⟩ := (h.mem y).1 hy
    exact hid (by rw [← he]; exact List.mem_map.2 ⟨q, hq, rfl⟩)
  have hw : WheelP (wheelIns wh ⟨p.until', p.id⟩) := by
    refine wheelP_iff.2 ⟨by rw [(wheelIns_len _ _).1]; exact h1, by rw [hfp.length_eq, List.length_cons]; omega, fun y hy => ?_, ?_, fun i m hm => ?_⟩
    · rcases List.mem_cons.1 (hfp.mem_iff.1 hy) with rfl | hy
      · exact hr
      · exact h3 y hy
    · rw [(hfp.map _).nodup_iff, List.map_cons, List.nodup_cons]
      refine ⟨fun hin => ?_, h4⟩
      obtain ⟨y, hy, he⟩ := List.mem_map.1 hin
      exact hno y hy he
    · rw [hins] at hm
      rcases get_set hm with ⟨rfl, rfl, _⟩ | ⟨_, hm⟩
      · obtain ⟨g1, g2⟩ := h5 _ sp hsp
        rw [pIns_eq]
        refine ⟨fun x hx => ?_, ss_ins pinOrd g2 fun y hy => ?_⟩
        · rcases insL_iff.1 hx with rfl | hx
          · exact htm.symm
          · exact g1 x hx
        · refine pin_cmp fun he => hno y (List.mem_flatten.2 ⟨sp, List.mem_of_getElem? hsp, hy⟩) ?_
          rw [he]
      · exact h5 i m hm
  refine ⟨⟨hw, fun x => ?_⟩, (wheelPut_t (wheelOk_t h.ok) (by have hat9 : 1 ≤ p.until' := hat; show ¬ p.until' < 1; omega) (wheelOk_t hw)).1⟩
  rw [hfp.mem_iff, List.mem_cons, pinM_cons, h.mem]
  exact ⟨fun w => w.elim (fun w => .inl ⟨hs, hk, w⟩) .inr, fun w => w.elim (fun w => .inl w.2.2) .inr⟩
theorem pinAt_of {l : List Pin} {p : Pin} (hp : p ∈ l) : ∃ k : Nat, pinAt l p = (k : Int) ∧ l[k]? = some p := by
  have hnn : 0 ≤ pinAt l p := by
    have : ∀ (m : List Pin) (n : Nat), p ∈ m → 0 ≤ idxF (fun x : Pin => x.at' == p.at' && x.id == p.id) m n := by
      intro m
      induction m with
      | nil => intro n h; exact absurd h List.not_mem_nil
      | cons y m ih =>
        intro n h
        unfold idxF
        split
        · omega
        · rename_i hne
          rcases List.mem_cons.1 h with rfl | h
          · simp at hne
          · exact ih (n + 1) h
    exact this l 0 hp
  obtain ⟨i, e, h1, h2, h3, _⟩ := idxF_at l 0 hnn
  refine ⟨i, by rw [pinAt, h1]; congr 1; omega, ?_⟩
  rw [h2]; congr 1
  simp only [Bool.and_eq_true, beq_iff_eq] at h3
  cases e; cases p; simp_all
theorem WhR.del {r : Rules} {now k : Int} {p : Party} {l : List Party} {wh : Wheel} (h : WhR (p :: l) k wh) (hid : p.id ∉ l.map (·.id)) (hs : p.state = 2) (hk : p.cabin = k) : WhR l k (wheelCut wh ⟨p.until', p.id⟩) := by
  have hm : (⟨p.until', p.id⟩ : Pin) ∈ wh.spoke.flatten := (h.mem _).2 (pinM_cons.2 (.inl ⟨hs, hk, rfl⟩))
  obtain ⟨h1, h2, h3, h4, h5⟩ := wheelP_iff.1 h.ok
  have hr := h3 _ hm
  obtain ⟨sp, hsp, htm, hat⟩ := spoke_at h.ok hr
  have hin : (⟨p.until', p.id⟩ : Pin) ∈ sp := by
    obtain ⟨m, hml, hpm⟩ := List.mem_flatten.1 hm
    obtain ⟨i, hi⟩ := List.mem_iff_getElem?.1 hml
    have := (h5 i m hi).1 _ hpm
    dsimp only at this htm
    have hii : i = (Int.tmod p.until' 9).toNat := by omega
    rw [hii] at hi
    have h9 : some m = some sp := hi.symm.trans hsp
    injection h9 with h9
    rw [← h9]; exact hpm
  obtain ⟨j, hj1, hj2⟩ := pinAt_of hin
  have hcut : wheelCut wh ⟨p.until', p.id⟩ = ⟨wh.spoke.set (Int.tmod p.until' 9).toNat (cutAt sp j)⟩ := by
    have hc : (wheelOk wh && !decide (p.until' < 1)) = true := by
      rw [wheelOk_t h.ok]
      simp only [Bool.true_and, Bool.not_eq_true', decide_eq_false_iff_not]
      dsimp only at hat; omega
    unfold wheelCut
    dsimp only
    rw [if_pos hc]
    dsimp only at hsp
    rw [hsp]
    dsimp only
    rw [hj1, if_neg (by omega), Int.toNat_natCast]
  have hfp : wh.spoke.flatten.Perm (⟨p.until', p.id⟩ :: (wheelCut wh ⟨p.until', p.id⟩).spoke.flatten) := by
    rw [hcut]
    have hlt := (List.getElem?_eq_some_iff.1 hsp).1
    have := flatten_perm (xss := wh.spoke.set (Int.tmod p.until' 9).toNat (cutAt sp j)) (i := (Int.tmod p.until' 9).toNat) (l := cutAt sp j) (m := sp) (p := ⟨p.until', p.id⟩) (by rw [List.getElem?_set_self hlt]) (cutAt_perm hj2)
    rw [List.set_set] at this
    have hss : wh.spoke.set (Int.tmod p.until' 9).toNat sp = wh.spoke := by
      have := set_same (f := id) (l := wh.spoke) (k := (Int.tmod p.until' 9).toNat) (x := sp) (y := sp) hsp rfl
      simpa using this
    rw [hss] at this
    exact this
  have hnd := (hfp.map (·.id)).nodup_iff.1 h4
  rw [List.map_cons, List.nodup_cons] at hnd
  refine ⟨wheelP_iff.2 ⟨by rw [hcut]; simp [h1], by have := hfp.length_eq; rw [List.length_cons] at this; omega, fun y hy => h3 y (hfp.mem_iff.2 (List.mem_cons_of_mem _ hy)), hnd.2, fun i m hm => ?_⟩, fun x => ?_⟩
  · rw [hcut] at hm
    rcases get_set hm with ⟨rfl, rfl, _⟩ | ⟨_, hm⟩
    · obtain ⟨g1, g2⟩ := h5 _ sp hsp
      exact ⟨fun x hx => g1 x ((cutAt_sub hj2).subset hx), g2.sublist (cutAt_sub hj2)⟩
    · exact h5 i m hm
  · constructor
    · intro hx
      have := (h.mem x).1 (hfp.mem_iff.2 (List.mem_cons_of_mem _ hx))
      rcases pinM_cons.1 this with w | w
      · exact absurd (List.mem_map.2 ⟨x, hx, by rw [w.2.2]⟩) hnd.1
      · exact w
    · intro hx
      have := (h.mem x).2 (pinM_cons.2 (.inr hx))
      rcases List.mem_cons.1 (hfp.mem_iff.1 this) with w | w
      · obtain ⟨q, hq, _, _, he⟩ := hx
        rw [w] at he
        injection he with _ he
        exact absurd (by rw [he]; exact List.mem_map.2 ⟨q, hq, rfl⟩) hid
      · exact w
/-- pins are parties of the cabin -/
theorem pins_le {l : List Party} {k : Int} {wh : Wheel} (h : WhR l k wh) (hd : (l.map (·.id)).Nodup) : wh.spoke.flatten.length ≤ cnt l k := by
  have hsub : (wh.spoke.flatten.map (·.id)) ⊆ ((l.filter fun p => p.cabin == k).map (·.id)) := by
    intro x hx
    obtain ⟨y, hy, rfl⟩ := List.mem_map.1 hx
    obtain ⟨q, hq, _, h2, rfl⟩ := (h.mem y).1 hy
    exact List.mem_map.2 ⟨q, List.mem_filter.2 ⟨hq, by simpa using h2⟩, rfl⟩
  have := nodup_le h.ok.2.2.2.1 hsub
  rw [List.length_map, List.length_map] at this
  exact this
/-! ### A cabin by its parts -/
theorem Rep.rowR {r : Rules} {now k : Int} {l : List Party} {c : Cabin} (h : Rep r now l k c) : RowR r now l k c.row := ⟨h.ss, h.row⟩
theorem Rep.whR {r : Rules} {now k : Int} {l : List Party} {c : Cabin} (h : Rep r now l k c) : WhR l k c.wheel := ⟨h.wh, h.pin⟩
theorem rep_of {r : Rules} {now k : Int} {l : List Party} {c : Cabin} (h1 : ledgerOk c.seats = true) (h2 : RowR r now l k c.row) (h3 : WhR l k c.wheel) (h4 : c.seats.held = (l.map (heldW k)).sum) (h5 : c.seats.tied = (l.map (tiedW k)).sum) : Rep r now l k c :=
  ⟨h1, h2.ss, h2.mem, h3.ok, h3.mem, h4, h5⟩
theorem sum_cons {f : Party → Int} {l R : List Party} {p : Party} (h : l.Perm (p :: R)) : (l.map f).sum = f p + (R.map f).sum := by
  rw [sum_perm h, List.map_cons, List.sum_cons]
/-! ### Ledgers -/
structure LP (l : Ledger) : Prop where
  total : 1 ≤ l.total ∧ l.total ≤ 60
  free : 0 ≤ l.free
  held : 0 ≤ l.held
  sold : 0 ≤ l.sold
  sum : l.free + l.held + l.sold = l.total
  tied : 0 ≤ l.tied ∧ l.tied ≤ l.sold
theorem ledgerOk_iff {l : Ledger} : ledgerOk l = true ↔ LP l := by
  unfold ledgerOk
  simp only [Bool.and_eq_true, inB, decide_eq_true_eq, beq_iff_eq]
  constructor
  · rintro ⟨⟨⟨⟨⟨h1, h2⟩, h3⟩, h4⟩, h5⟩, h6⟩
    rw [wr_of (x := l.free + l.held) (by omega) (by omega), wr_of (by omega) (by omega)] at h5
    exact ⟨h1, h2.1, h3.1, h4.1, h5, h6⟩
  · rintro ⟨h1, h2, h3, h4, h5, h6⟩
    refine ⟨⟨⟨⟨⟨h1, h2, by omega⟩, h3, by omega⟩, h4, by omega⟩, ?_⟩, h6⟩
    rw [wr_of (x := l.free + l.held) (by omega) (by omega), wr_of (by omega) (by omega)]; exact h5
def mvL (l : Ledger) (df dh ds dt : Int) : Ledger := ⟨l.total, wr (l.free + df), wr (l.held + dh), wr (l.sold + ds), wr (l.tied + dt)⟩
def movedB (l : Ledger) (n df dh ds dt : Int) : Bool := ledgerOk l && inB n 0 60 && ledgerOk (mvL l df dh ds dt)
def movedL (l : Ledger) (n df dh ds dt : Int) : Ledger := if movedB l n df dh ds dt then mvL l df dh ds dt else l
def lHold (l : Ledger) (n : Int) : Ledger := movedL l n (-n) n 0 0
def lDrop (l : Ledger) (n : Int) : Ledger := movedL l n n (-n) 0 0
def lSell (l : Ledger) (n : Int) : Ledger := movedL l n 0 (-n) n 0
def lFree (l : Ledger) (n : Int) : Ledger := movedL l n n 0 (-n) 0
def lTie (l : Ledger) (n : Int) : Ledger := movedL l n 0 0 0 n
def lUntie (l : Ledger) (n : Int) : Ledger := movedL l n 0 0 0 (-n)
theorem movedL_of {l : Ledger} {n df dh ds dt : Int} (h : LP l) (hn : 0 ≤ n ∧ n ≤ 60) (h2 : LP ⟨l.total, l.free + df, l.held + dh, l.sold + ds, l.tied + dt⟩) : movedL l n df dh ds dt = ⟨l.total, l.free + df, l.held + dh, l.sold + ds, l.tied + dt⟩ := by
  have a1 := h2.free; have a2 := h2.held; have a3 := h2.sold; have a4 := h2.tied; have a5 := h2.sum; have a6 := h2.total
  dsimp only at a1 a2 a3 a4 a5 a6
  have he : mvL l df dh ds dt = ⟨l.total, l.free + df, l.held + dh, l.sold + ds, l.tied + dt⟩ := by
    unfold mvL
    rw [wr_of (x := l.free + df) (by omega) (by omega), wr_of (x := l.held + dh) (by omega) (by omega), wr_of (x := l.sold + ds) (by omega) (by omega), wr_of (x := l.tied + dt) (by omega) (by omega)]
  have hb : movedB l n df dh ds dt = true := by
    unfold movedB
    rw [he, ledgerOk_iff.2 h, ledgerOk_iff.2 h2]
    simp only [inB, Bool.true_and, Bool.and_true, Bool.and_eq_true, decide_eq_true_eq]
    exact hn
  rw [movedL, if_pos hb, he]
end SX
end Go.Proofs.YtejojcoaohlfbaaGreat
