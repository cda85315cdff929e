/- Texts of this claim, put together by program. -/
import Derived.Test.YthnbaikmbgaddaaGreatMdlm
/- Who was passed over; what freed seats link; in plain Lean. It imports no program. -/
namespace Go.Proofs.YthnbaikmbgaddaaGreat
namespace SX
set_option linter.unusedVariables false
set_option linter.unusedSimpArgs false
open Go Go.RowKit
theorem hasCab_in {h : House} {cabin : Int} (hb : hasCab h cabin = true) : 0 ≤ cabin ∧ cabin < (h.cabins.length : Int) := by
  simp only [hasCab, Bool.and_eq_true, inB, decide_eq_true_eq] at hb
  have hp := houseP_of hb.1
  obtain ⟨h1, _, _, _, h5, _⟩ := hp
  have h9 := h1
  simp [rulesOk, inB] at h9
  have h2 := hb.2
  rw [wr_of (by omega) (by omega)] at h2
  omega
def restingB (p : Party) (now : Int) : Bool := p.state == 1 && decide (p.until' > now)
def freeAt (h : House) (cabin : Int) : Int := match h.cabins[cabin.toNat]? with
  | some c => c.seats.free
  | none => 0
theorem freeAt_of {h : House} {cabin : Int} {c : Cabin} (hc : h.cabins[cabin.toNat]? = some c) : freeAt h cabin = c.seats.free := by simp [freeAt, hc]
def fitsB (h : House) (cabin : Int) (p : Party) : Bool := p.cabin == cabin && p.state == 1 && !restingB p h.now && decide (p.size ≤ freeAt h cabin)
def beforeB (r : Rules) (a b : Party) (now : Int) : Bool := decide (levelOf r a now ≥ 0) && decide (levelOf r b now ≥ 0) && (decide (levelOf r a now < levelOf r b now) || (levelOf r a now == levelOf r b now && decide (a.turn < b.turn)))
def atId (l : List Party) (id : Int) : Int := idxF (fun e : Party => e.id == id) l 0
theorem atId_lt (l : List Party) (id : Int) : atId l id < (l.length : Int) ∧ -1 ≤ atId l id := by
  have h1 := idxF_lt (q := fun e : Party => e.id == id) l 0
  have h2 := (idxF_none (q := fun e : Party => e.id == id) l 0).2
  unfold atId
  omega
def passGo (h : House) (cabin : Int) (q : Party) : List Party → List Int
  | [] => []
  | p :: ps => if fitsB h cabin p && beforeB h.rules p q h.now then p.id :: passGo h cabin q ps else passGo h cabin q ps
noncomputable def passed (h : House) (cabin id : Int) : List Int :=
  if hasCab h cabin && !decide (atId h.parties id < 0) then match h.parties[(atId h.parties id).toNat]? with
    | some q => if q.cabin == cabin then passGo h cabin q h.parties else []
    | none => []
  else []
theorem passed_no {h : House} {cabin id : Int} (hb : hasCab h cabin = false) : passed h cabin id = [] := by simp [passed, hb]
theorem passed_neg {h : House} {cabin id : Int} (hb : atId h.parties id < 0) : passed h cabin id = [] := by simp [passed, hb]
theorem passed_ne {h : House} {cabin id : Int} {q : Party} (hq : h.parties[(atId h.parties id).toNat]? = some q) (hc : q.cabin ≠ cabin) : passed h cabin id = [] := by simp [passed, hq, hc]
theorem passed_of {h : House} {cabin id : Int} {q : Party} (hb : hasCab h cabin = true) (hn : ¬ atId h.parties id < 0) (hq : h.parties[(atId h.parties id).toNat]? = some q) (hc : q.cabin = cabin) : passed h cabin id = passGo h cabin q h.parties := by
  simp [passed, hb, hn, hq, hc]
end SX
end Go.Proofs.YthnbaikmbgaddaaGreat
/- What the functions that change rows, wheels, parties and ledgers come to, in plain Lean: the exact models. It imports no program. -/
namespace Go.Proofs.YthnbaikmbgaddaaGreat
namespace SX
set_option linter.unusedVariables false
set_option linter.unusedSimpArgs false
open Go Go.RowKit
/-- a wheel with a pin put into its spoke -/
def wheelIns (w : Wheel) (p : Pin) : Wheel := ⟨match w.spoke[(Int.tmod p.at' 9).toNat]? with
  | some l => w.spoke.set (Int.tmod p.at' 9).toNat (pIns l p)
  | none => w.spoke⟩
noncomputable def wheelPut (w : Wheel) (p : Pin) : Wheel := if wheelOk w && !decide (p.at' < 1) && wheelOk (wheelIns w p) then wheelIns w p else w
noncomputable def wheelPutB (w : Wheel) (p : Pin) : Bool := wheelOk w && !decide (p.at' < 1) && wheelOk (wheelIns w p)
theorem wheelIns_of {w : Wheel} {p : Pin} {l : List Pin} (h : w.spoke[(Int.tmod p.at' 9).toNat]? = some l) : wheelIns w p = ⟨w.spoke.set (Int.tmod p.at' 9).toNat (pIns l p)⟩ := by simp [wheelIns, h]
theorem flat_set_len {xss : List (List Pin)} {k : Nat} {x : List Pin} (y : List Pin) (h : xss[k]? = some x) : (xss.set k y).flatten.length + x.length = xss.flatten.length + y.length := by
  induction xss generalizing k with
  | nil => simp at h
  | cons z xss ih =>
    cases k with
    | zero => simp at h; subst h; simp; omega
    | succ k =>
      simp only [List.getElem?_cons_succ] at h
      have := ih h
      simp only [List.set_cons_succ, List.flatten_cons, List.length_append]
      omega
theorem flat_set_le : ∀ (xss : List (List Pin)) (k : Nat) (y : List Pin), (xss.set k y).flatten.length ≤ xss.flatten.length + y.length
  | [], k, y => by simp
  | z :: xss, 0, y => by simp only [List.set_cons_zero, List.flatten_cons, List.length_append]; omega
  | z :: xss, k + 1, y => by
    have := flat_set_le xss k y
    simp only [List.set_cons_succ, List.flatten_cons, List.length_append]; omega
theorem wheelIns_len (w : Wheel) (p : Pin) : (wheelIns w p).spoke.length = w.spoke.length ∧ (wheelIns w p).spoke.flatten.length ≤ w.spoke.flatten.length + 1 := by
  unfold wheelIns
  split
  · rename_i l hl
    have := flat_set_len (pIns l p) hl
    rw [pIns_len] at this
    dsimp only
    rw [List.length_set]
    omega
  · simp
theorem wheelPut_t {w : Wheel} {p : Pin} (h1 : wheelOk w = true) (h2 : ¬ p.at' < 1) (h3 : wheelOk (wheelIns w p) = true) : wheelPut w p = wheelIns w p ∧ wheelPutB w p = true := by simp [wheelPut, wheelPutB, h1, h2, h3]
theorem wheelPut_f {w : Wheel} {p : Pin} (h : wheelOk w = false ∨ p.at' < 1 ∨ wheelOk (wheelIns w p) = false) : wheelPut w p = w ∧ wheelPutB w p = false := by
  rcases h with h | h | h <;> simp [wheelPut, wheelPutB, h]
/-- a row with an entry put into it -/
noncomputable def queuePutB (l : List Entry) (e : Entry) : Bool := queueOk l && queueOk (qIns l e)
noncomputable def queuePut (l : List Entry) (e : Entry) : List Entry := if queuePutB l e then qIns l e else l
theorem queuePut_t {l : List Entry} {e : Entry} (h1 : queueOk l = true) (h2 : queueOk (qIns l e) = true) : queuePut l e = qIns l e ∧ queuePutB l e = true := by simp [queuePut, queuePutB, h1, h2]
theorem queuePut_f {l : List Entry} {e : Entry} (h : queueOk l = false ∨ queueOk (qIns l e) = false) : queuePut l e = l ∧ queuePutB l e = false := by
  rcases h with h | h <;> simp [queuePut, queuePutB, h]
/-- parties with one put among them -/
def idLess (a b : Party) : Bool := decide (a.id < b.id)
def partyPut (l : List Party) (p : Party) : List Party := if atId l p.id ≥ 0 then l.set (atId l p.id).toNat p else insL idLess l p
theorem partyPut_len (l : List Party) (p : Party) : (partyPut l p).length ≤ l.length + 1 := by
  unfold partyPut
  split
  · simp
  · rw [insL_len]; omega
theorem partyPut_set {l : List Party} {p : Party} (h : atId l p.id ≥ 0) : partyPut l p = l.set (atId l p.id).toNat p := by simp [partyPut, h]
theorem partyPut_ins {l : List Party} {p : Party} (h : ¬ atId l p.id ≥ 0) : partyPut l p = insL idLess l p := by simp only [partyPut, if_neg h]
theorem queueOf_len (r : Rules) (cabin now : Int) : ∀ l : List Party, (queueOf r l cabin now).length ≤ l.length
  | [] => by simp [queueOf]
  | p :: ps => by
    have := queueOf_len r cabin now ps
    unfold queueOf
    split
    · rw [qIns_len]; simp only [List.length_cons]; omega
    · simp only [List.length_cons]; omega
theorem rulesOk_len {r : Rules} (h : rulesOk r = true) : 1 ≤ r.seats.length ∧ r.seats.length ≤ 4 ∧ r.crew ≤ 3 ∧ 1 ≤ r.crew := by
  simp [rulesOk, inB] at h; omega
theorem mem_set_of {α : Type} {P : α → Prop} {l : List α} {k : Nat} {x : α} (h : ∀ c ∈ l, P c) (hx : P x) : ∀ c ∈ l.set k x, P c :=
  fun c hc => (List.mem_or_eq_of_mem_set hc).elim (h c) (fun e => e ▸ hx)
end SX
end Go.Proofs.YthnbaikmbgaddaaGreat
/- What the functions on snapshots come to, in plain Lean, and how long a snapshot is. It imports no program. -/
namespace Go.Proofs.YthnbaikmbgaddaaGreat
namespace SX
set_option linter.unusedVariables false
set_option linter.unusedSimpArgs false
open Go Go.RowKit
theorem nodup_le {α : Type} [DecidableEq α] : ∀ {l m : List α}, l.Nodup → (∀ x ∈ l, x ∈ m) → l.length ≤ m.length
  | [], m, _, _ => Nat.zero_le _
  | x :: l, m, hd, hs => by
    have hd' := List.nodup_cons.1 hd
    have h1 := List.perm_cons_erase (hs x (by simp))
    have h2 := nodup_le (l := l) (m := m.erase x) hd'.2 fun y hy => (List.mem_erase_of_ne (by intro he; subst he; exact hd'.1 hy)).2 (hs y (by simp [hy]))
    rw [h1.length_eq, List.length_cons, List.length_cons]; omega
theorem todo_le {h : House} (hh : HouseP h) : h.todo.length ≤ h.cabins.length := by
  obtain ⟨hr, _, _, _, hc, _, hj, _⟩ := hh
  have hrl := rulesOk_len hr
  have h1 := hj.1
  have hw : wr ((h.cabins.length : Int) - 1) = (h.cabins.length : Int) - 1 := wr_of (by omega) (by omega)
  have hnd : (h.todo.map Int.toNat).Nodup := by
    rw [List.Nodup, List.pairwise_map, List.pairwise_iff_getElem]
    intro i j hi hj hij he
    have h2 := h1 j _ (List.getElem?_eq_getElem hj)
    have h3 := h1 i _ (List.getElem?_eq_getElem hi)
    have h4 := h2.2 i _ hij (List.getElem?_eq_getElem hi)
    have h5 := h2.1; have h6 := h3.1
    simp only [inB, Bool.and_eq_true, decide_eq_true_eq] at h5 h6
    omega
  have hsub : h.todo.map Int.toNat ⊆ List.range h.cabins.length := by
    intro x hx
    obtain ⟨y, hy, rfl⟩ := List.mem_map.1 hx
    obtain ⟨i, hi⟩ := List.mem_iff_getElem?.1 hy
    have h5 := (h1 i y hi).1
    rw [hw] at h5
    simp only [inB, Bool.and_eq_true, decide_eq_true_eq] at h5
    rw [List.mem_range]; omega
  have := nodup_le hnd hsub
  simpa using this
/-! ### How long -/
def cnt (l : List Party) (k : Int) : Nat := (l.filter fun p => p.cabin == k).length
theorem countGo_cnt (k : Int) : ∀ (l : List Party) (n : Int), 0 ≤ n → n + l.length ≤ 9223372036854775807 → countGo l k n = n + (cnt l k : Nat)
  | [], n, _, _ => by simp [countGo, cnt]
  | p :: ps, n, h0, h1 => by
    simp only [List.length_cons] at h1
    unfold countGo cnt
    rw [List.filter_cons]
    split
    · rw [countGo_cnt k ps _ (by rw [wr_of (by omega) (by omega)]; omega) (by rw [wr_of (by omega) (by omega)]; omega), wr_of (by omega) (by omega)]
      simp only [List.length_cons, cnt]; omega
    · rw [countGo_cnt k ps _ h0 (by omega)]; rfl
end SX
end Go.Proofs.YthnbaikmbgaddaaGreat
/- Whom the next offer goes to, and that nobody is passed over then; in plain Lean. It imports no program. -/
namespace Go.Proofs.YthnbaikmbgaddaaGreat
namespace SX
set_option linter.unusedVariables false
set_option linter.unusedSimpArgs false
open Go Go.RowKit
theorem insL_memR {α : Type} {lt : α → α → Bool} {e x : α} : ∀ {l : List α}, x = e ∨ x ∈ l → x ∈ insL lt l e
  | [], h => by simpa [insL] using h
  | y :: l, h => by
    unfold insL
    split
    · rcases h with h | h
      · exact List.mem_cons_of_mem _ (insL_memR (.inl h))
      · rcases List.mem_cons.1 h with rfl | h
        · simp
        · exact List.mem_cons_of_mem _ (insL_memR (.inr h))
    · rcases h with rfl | h <;> simp [*]
theorem queueOf_in {r : Rules} {cabin now : Int} {p : Party} : ∀ {list : List Party}, p ∈ list → entryOk r p now = true → p.cabin = cabin → entryOf r p now ∈ queueOf r list cabin now
  | [], h, _, _ => absurd h List.not_mem_nil
  | q :: ps, h, ho, hc => by
    unfold queueOf
    rcases List.mem_cons.1 h with rfl | h
    · simp only [ho, hc, beq_self_eq_true, Bool.and_self, if_true, qIns_eq]
      exact insL_memR (.inl rfl)
    · split
      · rw [qIns_eq]; exact insL_memR (.inr (queueOf_in h ho hc))
      · exact queueOf_in h ho hc
theorem insL_memL {α : Type} {lt : α → α → Bool} {e x : α} : ∀ {l : List α}, x ∈ insL lt l e → x = e ∨ x ∈ l
  | [], h => by simpa [insL] using h
  | y :: l, h => by
    unfold insL at h
    split at h
    · rcases List.mem_cons.1 h with rfl | h
      · simp
      · rcases insL_memL h with h | h <;> simp [h]
    · rcases List.mem_cons.1 h with rfl | h
      · simp
      · exact .inr h
theorem queueOf_out {r : Rules} {cabin now : Int} {e : Entry} : ∀ {list : List Party}, e ∈ queueOf r list cabin now → ∃ p ∈ list, entryOk r p now = true ∧ p.cabin = cabin ∧ e = entryOf r p now
  | [], h => by simp [queueOf] at h
  | p :: ps, h => by
    unfold queueOf at h
    split at h
    · rename_i hc
      simp only [Bool.and_eq_true, beq_iff_eq] at hc
      rw [qIns_eq] at h
      rcases insL_memL h with rfl | h
      · exact ⟨p, by simp, hc.1, hc.2, rfl⟩
      · obtain ⟨q, hq, h2⟩ := queueOf_out h
        exact ⟨q, by simp [hq], h2⟩
    · obtain ⟨q, hq, h2⟩ := queueOf_out h
      exact ⟨q, by simp [hq], h2⟩
theorem idxF_at {α : Type} {q : α → Bool} : ∀ (l : List α) (n : Nat), 0 ≤ idxF q l n → ∃ (i : Nat) (e : α), idxF q l n = ((n + i : Nat) : Int) ∧ l[i]? = some e ∧ q e = true ∧ ∀ (j : Nat) (y : α), j < i → l[j]? = some y → q y = false
  | [], n, h => by simp [idxF] at h
  | e :: es, n, h => by
    unfold idxF at h ⊢
    cases hq : q e with
    | true => exact ⟨0, e, by simp, rfl, hq, fun j y hj => absurd hj (Nat.not_lt_zero _)⟩
    | false =>
      simp only [hq, Bool.false_eq_true, if_false] at h ⊢
      obtain ⟨i, x, h1, h2, h3, h4⟩ := idxF_at es (n + 1) h
      refine ⟨i + 1, x, by rw [h1]; omega, by simpa using h2, h3, fun j y hj hy => ?_⟩
      cases j with
      | zero => simp at hy; subst hy; exact hq
      | succ j => exact h4 j y (by omega) (by simpa using hy)
theorem ids_lt {h : House} (hp : PartiesP h) : ∀ (d i : Nat) (x y : Party), h.parties[i]? = some x → h.parties[i + d + 1]? = some y → x.id < y.id
  | 0, i, x, y, hx, hy => (hp (i + 0 + 1) y hy).2.2.1 (by omega) x (by simpa using hx)
  | d + 1, i, x, y, hx, hy => by
    have hl : i + d + 1 < h.parties.length := by have := (List.getElem?_eq_some_iff.1 hy).1; omega
    have hz : h.parties[i + d + 1]? = some h.parties[i + d + 1] := List.getElem?_eq_getElem hl
    have h1 := ids_lt hp d i x _ hx hz
    have h2 := (hp (i + (d + 1) + 1) y hy).2.2.1 (by omega) h.parties[i + d + 1] (by rw [show i + (d + 1) + 1 - 1 = i + d + 1 by omega]; exact hz)
    omega
def skipGo (now : Int) : List Party → List Int
  | [] => []
  | p :: ps => if restingB p now then p.id :: skipGo now ps else skipGo now ps
/-- an entry that fits and is not to be skipped -/
def fitE (free : Int) (skip : List Int) (e : Entry) : Bool := decide (e.size ≤ free) && !(skip.any fun y => y == e.id)
def firstFit (row : List Entry) (free : Int) (skip : List Int) : Int := idxF (fitE free skip) row 0
theorem firstFit_lt (row : List Entry) (free : Int) (skip : List Int) : firstFit row free skip < (row.length : Int) ∧ -1 ≤ firstFit row free skip := by
  have h1 := idxF_lt (q := fitE free skip) row 0
  have h2 := (idxF_none (q := fitE free skip) row 0).2
  unfold firstFit
  omega
noncomputable def nextOffer (h : House) (cabin : Int) : Int :=
  if hasCab h cabin then match h.cabins[cabin.toNat]? with
    | some c => if firstFit c.row c.seats.free (skipGo h.now h.parties) < 0 then 0 else match c.row[(firstFit c.row c.seats.free (skipGo h.now h.parties)).toNat]? with
      | some e => e.id
      | none => 0
    | none => 0
  else 0
theorem nextOffer_no {h : House} {cabin : Int} (hb : hasCab h cabin = false) : nextOffer h cabin = 0 := by simp [nextOffer, hb]
theorem nextOffer_neg {h : House} {cabin : Int} {c : Cabin} (hb : hasCab h cabin = true) (hc : h.cabins[cabin.toNat]? = some c) (hk : firstFit c.row c.seats.free (skipGo h.now h.parties) < 0) : nextOffer h cabin = 0 := by
  simp [nextOffer, hb, hc, hk]
theorem nextOffer_at {h : House} {cabin : Int} {c : Cabin} {e : Entry} (hb : hasCab h cabin = true) (hc : h.cabins[cabin.toNat]? = some c) (hk : ¬ firstFit c.row c.seats.free (skipGo h.now h.parties) < 0)
    (he : c.row[(firstFit c.row c.seats.free (skipGo h.now h.parties)).toNat]? = some e) : nextOffer h cabin = e.id := by
  simp [nextOffer, hb, hc, hk, he]
theorem atId_at {l : List Party} {id : Int} (h : ¬ atId l id < 0) : ∃ p, l[(atId l id).toNat]? = some p ∧ p.id = id := by
  obtain ⟨i, e, h1, h2, h3, _⟩ := idxF_at (q := fun e : Party => e.id == id) l 0 (by unfold atId at h; omega)
  refine ⟨e, ?_, by simpa using h3⟩
  unfold atId
  rw [h1]; simpa using h2
theorem agrees_row {h : House} {k : Nat} {c : Cabin} (hh : HouseP h) (hc : h.cabins[k]? = some c) : QueueP c.row ∧ c.row = queueOf h.rules h.parties k h.now := by
  obtain ⟨_, _, _, _, _, _, _, h8⟩ := hh
  have ha := (h8 k c hc).2.1
  simp only [agrees, Bool.and_eq_true, cabinOk] at ha
  obtain ⟨⟨⟨⟨⟨⟨_, hq⟩, _⟩, hr⟩, _⟩, _⟩, _⟩ := ha
  exact ⟨queueP_of hq, (sameRow_iff _ _).1 hr⟩
theorem hasCab_P {h : House} {cabin : Int} (hb : hasCab h cabin = true) : HouseP h := by
  simp only [hasCab, Bool.and_eq_true] at hb; exact houseP_of hb.1
end SX
end Go.Proofs.YthnbaikmbgaddaaGreat
