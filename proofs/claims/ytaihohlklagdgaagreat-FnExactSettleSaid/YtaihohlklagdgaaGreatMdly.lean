/- Texts of this claim, put together by program. -/
import Derived.Test.YtaihohlklagdgaaGreatMdlm
/- Who was passed over; what freed seats link; in plain Lean. It imports no program. -/
namespace Go.Proofs.YtaihohlklagdgaaGreat
namespace SX
set_option linter.unusedVariables false
set_option linter.unusedSimpArgs false
open Go Go.RowKit
theorem hasCab_in {h : House} {cabin : Int} (hb : hasCab h cabin = true) : 0 ≤ cabin ∧ cabin < (h.cabins.length : Int) := by
  simp only [hasCab, Bool.and_eq_true, inB, decide_eq_true_eq] at hb
  have hp := houseP_of hb.1
  obtain ⟨h1, _, _, _, h5, _⟩ := hp
  have h9 := h1
  simp [rulesOk, inB] at h9
  have h2 := hb.2
  rw [wr_of (by omega) (by omega)] at h2
  omega
def restingB (p : Party) (now : Int) : Bool := p.state == 1 && decide (p.until' > now)
def freeAt (h : House) (cabin : Int) : Int := match h.cabins[cabin.toNat]? with
  | some c => c.seats.free
  | none => 0
def fitsB (h : House) (cabin : Int) (p : Party) : Bool := p.cabin == cabin && p.state == 1 && !restingB p h.now && decide (p.size ≤ freeAt h cabin)
def beforeB (r : Rules) (a b : Party) (now : Int) : Bool := decide (levelOf r a now ≥ 0) && decide (levelOf r b now ≥ 0) && (decide (levelOf r a now < levelOf r b now) || (levelOf r a now == levelOf r b now && decide (a.turn < b.turn)))
def atId (l : List Party) (id : Int) : Int := idxF (fun e : Party => e.id == id) l 0
theorem atId_lt (l : List Party) (id : Int) : atId l id < (l.length : Int) ∧ -1 ≤ atId l id := by
  have h1 := idxF_lt (q := fun e : Party => e.id == id) l 0
  have h2 := (idxF_none (q := fun e : Party => e.id == id) l 0).2
  unfold atId
  omega
def passGo (h : House) (cabin : Int) (q : Party) : List Party → List Int
  | [] => []
  | p :: ps => if fitsB h cabin p && beforeB h.rules p q h.now then p.id :: passGo h cabin q ps else passGo h cabin q ps
noncomputable def passed (h : House) (cabin id : Int) : List Int :=
  if hasCab h cabin && !decide (atId h.parties id < 0) then match h.parties[(atId h.parties id).toNat]? with
    | some q => if q.cabin == cabin then passGo h cabin q h.parties else []
    | none => []
  else []
end SX
end Go.Proofs.YtaihohlklagdgaaGreat
/- What the functions that change rows, wheels, parties and ledgers come to, in plain Lean: the exact models. It imports no program. -/
namespace Go.Proofs.YtaihohlklagdgaaGreat
namespace SX
set_option linter.unusedVariables false
set_option linter.unusedSimpArgs false
open Go Go.RowKit
/-- a wheel with a pin put into its spoke -/
def wheelIns (w : Wheel) (p : Pin) : Wheel := ⟨match w.spoke[(Int.tmod p.at' 9).toNat]? with
  | some l => w.spoke.set (Int.tmod p.at' 9).toNat (pIns l p)
  | none => w.spoke⟩
noncomputable def wheelPut (w : Wheel) (p : Pin) : Wheel := if wheelOk w && !decide (p.at' < 1) && wheelOk (wheelIns w p) then wheelIns w p else w
noncomputable def wheelPutB (w : Wheel) (p : Pin) : Bool := wheelOk w && !decide (p.at' < 1) && wheelOk (wheelIns w p)
theorem wheelIns_of {w : Wheel} {p : Pin} {l : List Pin} (h : w.spoke[(Int.tmod p.at' 9).toNat]? = some l) : wheelIns w p = ⟨w.spoke.set (Int.tmod p.at' 9).toNat (pIns l p)⟩ := by simp [wheelIns, h]
theorem flat_set_len {xss : List (List Pin)} {k : Nat} {x : List Pin} (y : List Pin) (h : xss[k]? = some x) : (xss.set k y).flatten.length + x.length = xss.flatten.length + y.length := by
  induction xss generalizing k with
  | nil => simp at h
  | cons z xss ih =>
    cases k with
    | zero => simp at h; subst h; simp; omega
    | succ k =>
      simp only [List.getElem?_cons_succ] at h
      have := ih h
      simp only [List.set_cons_succ, List.flatten_cons, List.length_append]
      omega
theorem flat_set_le : ∀ (xss : List (List Pin)) (k : Nat) (y : List Pin), (xss.set k y).flatten.length ≤ xss.flatten.length + y.length
  | [], k, y => by simp
  | z :: xss, 0, y => by simp only [List.set_cons_zero, List.flatten_cons, List.length_append]; omega
  | z :: xss, k + 1, y => by
    have := flat_set_le xss k y
    simp only [List.set_cons_succ, List.flatten_cons, List.length_append]; omega
theorem wheelIns_len (w : Wheel) (p : Pin) : (wheelIns w p).spoke.length = w.spoke.length ∧ (wheelIns w p).spoke.flatten.length ≤ w.spoke.flatten.length + 1 := by
  unfold wheelIns
  split
  · rename_i l hl
    have := flat_set_len (pIns l p) hl
    rw [pIns_len] at this
    dsimp only
    rw [List.length_set]
    omega
  · simp
theorem wheelPut_t {w : Wheel} {p : Pin} (h1 : wheelOk w = true) (h2 : ¬ p.at' < 1) (h3 : wheelOk (wheelIns w p) = true) : wheelPut w p = wheelIns w p ∧ wheelPutB w p = true := by simp [wheelPut, wheelPutB, h1, h2, h3]
theorem wheelPut_f {w : Wheel} {p : Pin} (h : wheelOk w = false ∨ p.at' < 1 ∨ wheelOk (wheelIns w p) = false) : wheelPut w p = w ∧ wheelPutB w p = false := by
  rcases h with h | h | h <;> simp [wheelPut, wheelPutB, h]
/-- a row with an entry put into it -/
noncomputable def queuePutB (l : List Entry) (e : Entry) : Bool := queueOk l && queueOk (qIns l e)
noncomputable def queuePut (l : List Entry) (e : Entry) : List Entry := if queuePutB l e then qIns l e else l
theorem queuePut_t {l : List Entry} {e : Entry} (h1 : queueOk l = true) (h2 : queueOk (qIns l e) = true) : queuePut l e = qIns l e ∧ queuePutB l e = true := by simp [queuePut, queuePutB, h1, h2]
theorem queuePut_f {l : List Entry} {e : Entry} (h : queueOk l = false ∨ queueOk (qIns l e) = false) : queuePut l e = l ∧ queuePutB l e = false := by
  rcases h with h | h <;> simp [queuePut, queuePutB, h]
/-- parties with one put among them -/
def idLess (a b : Party) : Bool := decide (a.id < b.id)
def partyPut (l : List Party) (p : Party) : List Party := if atId l p.id ≥ 0 then l.set (atId l p.id).toNat p else insL idLess l p
theorem partyPut_len (l : List Party) (p : Party) : (partyPut l p).length ≤ l.length + 1 := by
  unfold partyPut
  split
  · simp
  · rw [insL_len]; omega
theorem partyPut_set {l : List Party} {p : Party} (h : atId l p.id ≥ 0) : partyPut l p = l.set (atId l p.id).toNat p := by simp [partyPut, h]
theorem partyPut_ins {l : List Party} {p : Party} (h : ¬ atId l p.id ≥ 0) : partyPut l p = insL idLess l p := by simp only [partyPut, if_neg h]
theorem rulesOk_len {r : Rules} (h : rulesOk r = true) : 1 ≤ r.seats.length ∧ r.seats.length ≤ 4 ∧ r.crew ≤ 3 ∧ 1 ≤ r.crew := by
  simp [rulesOk, inB] at h; omega
theorem mem_set_of {α : Type} {P : α → Prop} {l : List α} {k : Nat} {x : α} (h : ∀ c ∈ l, P c) (hx : P x) : ∀ c ∈ l.set k x, P c :=
  fun c hc => (List.mem_or_eq_of_mem_set hc).elim (h c) (fun e => e ▸ hx)
end SX
end Go.Proofs.YtaihohlklagdgaaGreat
/- What the functions on snapshots come to, in plain Lean, and how long a snapshot is. It imports no program. -/
namespace Go.Proofs.YtaihohlklagdgaaGreat
namespace SX
set_option linter.unusedVariables false
set_option linter.unusedSimpArgs false
open Go Go.RowKit
theorem nodup_le {α : Type} [DecidableEq α] : ∀ {l m : List α}, l.Nodup → (∀ x ∈ l, x ∈ m) → l.length ≤ m.length
  | [], m, _, _ => Nat.zero_le _
  | x :: l, m, hd, hs => by
    have hd' := List.nodup_cons.1 hd
    have h1 := List.perm_cons_erase (hs x (by simp))
    have h2 := nodup_le (l := l) (m := m.erase x) hd'.2 fun y hy => (List.mem_erase_of_ne (by intro he; subst he; exact hd'.1 hy)).2 (hs y (by simp [hy]))
    rw [h1.length_eq, List.length_cons, List.length_cons]; omega
theorem todo_le {h : House} (hh : HouseP h) : h.todo.length ≤ h.cabins.length := by
  obtain ⟨hr, _, _, _, hc, _, hj, _⟩ := hh
  have hrl := rulesOk_len hr
  have h1 := hj.1
  have hw : wr ((h.cabins.length : Int) - 1) = (h.cabins.length : Int) - 1 := wr_of (by omega) (by omega)
  have hnd : (h.todo.map Int.toNat).Nodup := by
    rw [List.Nodup, List.pairwise_map, List.pairwise_iff_getElem]
    intro i j hi hj hij he
    have h2 := h1 j _ (List.getElem?_eq_getElem hj)
    have h3 := h1 i _ (List.getElem?_eq_getElem hi)
    have h4 := h2.2 i _ hij (List.getElem?_eq_getElem hi)
    have h5 := h2.1; have h6 := h3.1
    simp only [inB, Bool.and_eq_true, decide_eq_true_eq] at h5 h6
    omega
  have hsub : h.todo.map Int.toNat ⊆ List.range h.cabins.length := by
    intro x hx
    obtain ⟨y, hy, rfl⟩ := List.mem_map.1 hx
    obtain ⟨i, hi⟩ := List.mem_iff_getElem?.1 hy
    have h5 := (h1 i y hi).1
    rw [hw] at h5
    simp only [inB, Bool.and_eq_true, decide_eq_true_eq] at h5
    rw [List.mem_range]; omega
  have := nodup_le hnd hsub
  simpa using this
/-! ### How long -/
def cnt (l : List Party) (k : Int) : Nat := (l.filter fun p => p.cabin == k).length
theorem countGo_cnt (k : Int) : ∀ (l : List Party) (n : Int), 0 ≤ n → n + l.length ≤ 9223372036854775807 → countGo l k n = n + (cnt l k : Nat)
  | [], n, _, _ => by simp [countGo, cnt]
  | p :: ps, n, h0, h1 => by
    simp only [List.length_cons] at h1
    unfold countGo cnt
    rw [List.filter_cons]
    split
    · rw [countGo_cnt k ps _ (by rw [wr_of (by omega) (by omega)]; omega) (by rw [wr_of (by omega) (by omega)]; omega), wr_of (by omega) (by omega)]
      simp only [List.length_cons, cnt]; omega
    · rw [countGo_cnt k ps _ h0 (by omega)]; rfl
theorem cnt_all (m : Nat) : ∀ (s : Nat) (l : List Party), (∀ p ∈ l, 0 ≤ p.cabin ∧ p.cabin < (s : Int)) → (∀ k : Nat, k < s → cnt l k ≤ m) → l.length ≤ m * s
  | 0, l, h, _ => by
    cases l with
    | nil => simp
    | cons p l => have := h p (by simp); omega
  | s + 1, l, h, hk => by
    have h1 := hk s (by omega)
    have h2 := cnt_all m s (l.filter fun p => !(p.cabin == (s : Int))) (fun p hp => by
      have h3 := List.mem_filter.1 hp
      have h4 := h p h3.1
      have h5 := h3.2
      simp at h5
      omega) (fun k hks => by
      refine Nat.le_trans ?_ (hk k (by omega))
      unfold cnt
      exact (List.Sublist.filter _ List.filter_sublist).length_le)
    have h6 : ∀ q : List Party, q.length = (q.filter fun p => p.cabin == (s : Int)).length + (q.filter fun p => !(p.cabin == (s : Int))).length := by
      intro q
      induction q with
      | nil => rfl
      | cons a q ih =>
        rw [List.filter_cons, List.filter_cons]
        cases ha : (a.cabin == (s : Int)) with
        | true => simp only [if_true, Bool.not_true, Bool.false_eq_true, if_false, List.length_cons]; omega
        | false => simp only [Bool.not_false, if_true, Bool.false_eq_true, if_false, List.length_cons]; omega
    have h7 := h6 l
    unfold cnt at h1
    rw [Nat.mul_add, Nat.mul_one]
    omega
end SX
end Go.Proofs.YtaihohlklagdgaaGreat
/- Whom the next offer goes to, and that nobody is passed over then; in plain Lean. It imports no program. -/
namespace Go.Proofs.YtaihohlklagdgaaGreat
namespace SX
set_option linter.unusedVariables false
set_option linter.unusedSimpArgs false
open Go Go.RowKit
theorem insL_memR {α : Type} {lt : α → α → Bool} {e x : α} : ∀ {l : List α}, x = e ∨ x ∈ l → x ∈ insL lt l e
  | [], h => by simpa [insL] using h
  | y :: l, h => by
    unfold insL
    split
    · rcases h with h | h
      · exact List.mem_cons_of_mem _ (insL_memR (.inl h))
      · rcases List.mem_cons.1 h with rfl | h
        · simp
        · exact List.mem_cons_of_mem _ (insL_memR (.inr h))
    · rcases h with rfl | h <;> simp [*]
theorem queueOf_in {r : Rules} {cabin now : Int} {p : Party} : ∀ {list : List Party}, p ∈ list → entryOk r p now = true → p.cabin = cabin → entryOf r p now ∈ queueOf r list cabin now
  | [], h, _, _ => absurd h List.not_mem_nil
  | q :: ps, h, ho, hc => by
    unfold queueOf
    rcases List.mem_cons.1 h with rfl | h
    · simp only [ho, hc, beq_self_eq_true, Bool.and_self, if_true, qIns_eq]
      exact insL_memR (.inl rfl)
    · split
      · rw [qIns_eq]; exact insL_memR (.inr (queueOf_in h ho hc))
      · exact queueOf_in h ho hc
theorem insL_memL {α : Type} {lt : α → α → Bool} {e x : α} : ∀ {l : List α}, x ∈ insL lt l e → x = e ∨ x ∈ l
  | [], h => by simpa [insL] using h
  | y :: l, h => by
    unfold insL at h
    split at h
    · rcases List.mem_cons.1 h with rfl | h
      · simp
      · rcases insL_memL h with h | h <;> simp [h]
    · rcases List.mem_cons.1 h with rfl | h
      · simp
      · exact .inr h
theorem queueOf_out {r : Rules} {cabin now : Int} {e : Entry} : ∀ {list : List Party}, e ∈ queueOf r list cabin now → ∃ p ∈ list, entryOk r p now = true ∧ p.cabin = cabin ∧ e = entryOf r p now
  | [], h => by simp [queueOf] at h
  | p :: ps, h => by
    unfold queueOf at h
    split at h
    · rename_i hc
      simp only [Bool.and_eq_true, beq_iff_eq] at hc
      rw [qIns_eq] at h
      rcases insL_memL h with rfl | h
      · exact ⟨p, by simp, hc.1, hc.2, rfl⟩
      · obtain ⟨q, hq, h2⟩ := queueOf_out h
        exact ⟨q, by simp [hq], h2⟩
    · obtain ⟨q, hq, h2⟩ := queueOf_out h
      exact ⟨q, by simp [hq], h2⟩
theorem idxF_at {α : Type} {q : α → Bool} : ∀ (l : List α) (n : Nat), 0 ≤ idxF q l n → ∃ (i : Nat) (e : α), idxF q l n = ((n + i : Nat) : Int) ∧ l[i]? = some e ∧ q e = true ∧ ∀ (j : Nat) (y : α), j < i → l[j]? = some y → q y = false
  | [], n, h => by simp [idxF] at h
  | e :: es, n, h => by
    unfold idxF at h ⊢
    cases hq : q e with
    | true => exact ⟨0, e, by simp, rfl, hq, fun j y hj => absurd hj (Nat.not_lt_zero _)⟩
    | false =>
      simp only [hq, Bool.false_eq_true, if_false] at h ⊢
      obtain ⟨i, x, h1, h2, h3, h4⟩ := idxF_at es (n + 1) h
      refine ⟨i + 1, x, by rw [h1]; omega, by simpa using h2, h3, fun j y hj hy => ?_⟩
      cases j with
      | zero => simp at hy; subst hy; exact hq
      | succ j => exact h4 j y (by omega) (by simpa using hy)
theorem ids_lt {h : House} (hp : PartiesP h) : ∀ (d i : Nat) (x y : Party), h.parties[i]? = some x → h.parties[i + d + 1]? = some y → x.id < y.id
  | 0, i, x, y, hx, hy => (hp (i + 0 + 1) y hy).2.2.1 (by omega) x (by simpa using hx)
  | d + 1, i, x, y, hx, hy => by
    have hl : i + d + 1 < h.parties.length := by have := (List.getElem?_eq_some_iff.1 hy).1; omega
    have hz : h.parties[i + d + 1]? = some h.parties[i + d + 1] := List.getElem?_eq_getElem hl
    have h1 := ids_lt hp d i x _ hx hz
    have h2 := (hp (i + (d + 1) + 1) y hy).2.2.1 (by omega) h.parties[i + d + 1] (by rw [show i + (d + 1) + 1 - 1 = i + d + 1 by omega]; exact hz)
    omega
def skipGo (now : Int) : List Party → List Int
  | [] => []
  | p :: ps => if restingB p now then p.id :: skipGo now ps else skipGo now ps
/-- an entry that fits and is not to be skipped -/
def fitE (free : Int) (skip : List Int) (e : Entry) : Bool := decide (e.size ≤ free) && !(skip.any fun y => y == e.id)
def firstFit (row : List Entry) (free : Int) (skip : List Int) : Int := idxF (fitE free skip) row 0
theorem firstFit_lt (row : List Entry) (free : Int) (skip : List Int) : firstFit row free skip < (row.length : Int) ∧ -1 ≤ firstFit row free skip := by
  have h1 := idxF_lt (q := fitE free skip) row 0
  have h2 := (idxF_none (q := fitE free skip) row 0).2
  unfold firstFit
  omega
noncomputable def nextOffer (h : House) (cabin : Int) : Int :=
  if hasCab h cabin then match h.cabins[cabin.toNat]? with
    | some c => if firstFit c.row c.seats.free (skipGo h.now h.parties) < 0 then 0 else match c.row[(firstFit c.row c.seats.free (skipGo h.now h.parties)).toNat]? with
      | some e => e.id
      | none => 0
    | none => 0
  else 0
theorem nextOffer_no {h : House} {cabin : Int} (hb : hasCab h cabin = false) : nextOffer h cabin = 0 := by simp [nextOffer, hb]
theorem nextOffer_neg {h : House} {cabin : Int} {c : Cabin} (hb : hasCab h cabin = true) (hc : h.cabins[cabin.toNat]? = some c) (hk : firstFit c.row c.seats.free (skipGo h.now h.parties) < 0) : nextOffer h cabin = 0 := by
  simp [nextOffer, hb, hc, hk]
theorem nextOffer_at {h : House} {cabin : Int} {c : Cabin} {e : Entry} (hb : hasCab h cabin = true) (hc : h.cabins[cabin.toNat]? = some c) (hk : ¬ firstFit c.row c.seats.free (skipGo h.now h.parties) < 0)
    (he : c.row[(firstFit c.row c.seats.free (skipGo h.now h.parties)).toNat]? = some e) : nextOffer h cabin = e.id := by
  simp [nextOffer, hb, hc, hk, he]
theorem atId_at {l : List Party} {id : Int} (h : ¬ atId l id < 0) : ∃ p, l[(atId l id).toNat]? = some p ∧ p.id = id := by
  obtain ⟨i, e, h1, h2, h3, _⟩ := idxF_at (q := fun e : Party => e.id == id) l 0 (by unfold atId at h; omega)
  refine ⟨e, ?_, by simpa using h3⟩
  unfold atId
  rw [h1]; simpa using h2
theorem agrees_row {h : House} {k : Nat} {c : Cabin} (hh : HouseP h) (hc : h.cabins[k]? = some c) : QueueP c.row ∧ c.row = queueOf h.rules h.parties k h.now := by
  obtain ⟨_, _, _, _, _, _, _, h8⟩ := hh
  have ha := (h8 k c hc).2.1
  simp only [agrees, Bool.and_eq_true, cabinOk] at ha
  obtain ⟨⟨⟨⟨⟨⟨_, hq⟩, _⟩, hr⟩, _⟩, _⟩, _⟩ := ha
  exact ⟨queueP_of hq, (sameRow_iff _ _).1 hr⟩
theorem hasCab_P {h : House} {cabin : Int} (hb : hasCab h cabin = true) : HouseP h := by
  simp only [hasCab, Bool.and_eq_true] at hb; exact houseP_of hb.1
end SX
end Go.Proofs.YtaihohlklagdgaaGreat
/- What a right house's rows, wheels and ledgers say of its parties, in plain Lean. It imports no program. -/
namespace Go.Proofs.YtaihohlklagdgaaGreat
namespace SX
set_option linter.unusedVariables false
set_option linter.unusedSimpArgs false
open Go Go.RowKit
/-! ### Strictly sorted lists -/
section
variable {α : Type} {lt : α → α → Bool}
abbrev SS (lt : α → α → Bool) (l : List α) : Prop := l.Pairwise fun a b => lt a b = true
theorem Ord.ir (h : Ord lt) (z : α) : lt z z = false := by
  cases hz : lt z z with
  | false => rfl
  | true => have := h.as z z hz; rw [hz] at this; cases this
theorem ss_eq (h : Ord lt) : ∀ {a b : List α}, SS lt a → SS lt b → (∀ x, x ∈ a ↔ x ∈ b) → a = b
  | [], [], _, _, _ => rfl
  | [], y :: b, _, _, hm => absurd ((hm y).2 (by simp)) List.not_mem_nil
  | x :: a, [], _, _, hm => absurd ((hm x).1 (by simp)) List.not_mem_nil
  | x :: a, y :: b, ha, hb, hm => by
    have ha' := List.pairwise_cons.1 ha
    have hb' := List.pairwise_cons.1 hb
    have hxy : x = y := by
      rcases List.mem_cons.1 ((hm x).1 (by simp)) with h1 | h1
      · exact h1
      · rcases List.mem_cons.1 ((hm y).2 (by simp)) with h2 | h2
        · exact h2.symm
        · have h3 := hb'.1 x h1
          have h4 := ha'.1 y h2
          rw [h.as _ _ h3] at h4; cases h4
    subst hxy
    congr 1
    refine ss_eq h ha'.2 hb'.2 fun z => ⟨fun hz => ?_, fun hz => ?_⟩
    · rcases List.mem_cons.1 ((hm z).1 (by simp [hz])) with h1 | h1
      · subst h1; have := ha'.1 z hz; rw [h.ir] at this; cases this
      · exact h1
    · rcases List.mem_cons.1 ((hm z).2 (by simp [hz])) with h1 | h1
      · subst h1; have := hb'.1 z hz; rw [h.ir] at this; cases this
      · exact h1
theorem ss_ins (h : Ord lt) : ∀ {l : List α} {e : α}, SS lt l → (∀ y ∈ l, lt y e = true ∨ lt e y = true) → SS lt (insL lt l e)
  | [], e, _, _ => by simp [insL]
  | y :: ys, e, hs, hc => by
    have hs' := List.pairwise_cons.1 hs
    unfold insL
    split
    · rename_i h1
      refine List.pairwise_cons.2 ⟨fun z hz => ?_, ss_ins h hs'.2 fun z hz => hc z (by simp [hz])⟩
      rcases insL_memL hz with rfl | hz
      · exact h1
      · exact hs'.1 z hz
    · rename_i h1
      have h2 : lt e y = true := (hc y (by simp)).resolve_left h1
      refine List.pairwise_cons.2 ⟨fun z hz => ?_, hs⟩
      rcases List.mem_cons.1 hz with rfl | hz
      · exact h2
      · exact h.tr h2 (hs'.1 z hz)
theorem insL_iff {l : List α} {e x : α} : x ∈ insL lt l e ↔ x = e ∨ x ∈ l := ⟨insL_memL, insL_memR⟩
theorem insL_perm (e : α) : ∀ l : List α, (insL lt l e).Perm (e :: l)
  | [] => List.Perm.refl _
  | y :: ys => by
    unfold insL
    split
    · exact ((insL_perm e ys).cons y).trans (List.Perm.swap e y ys)
    · exact List.Perm.refl _
theorem foldr_iff {x : α} : ∀ {l : List α}, x ∈ l.foldr (fun e l => insL lt l e) [] ↔ x ∈ l
  | [] => by simp
  | y :: l => by rw [List.foldr_cons, insL_iff, foldr_iff, List.mem_cons]
theorem foldr_ss (h : Ord lt) : ∀ {l : List α}, l.Pairwise (fun a b => lt a b = true ∨ lt b a = true) → SS lt (l.foldr (fun e l => insL lt l e) [])
  | [], _ => by simp
  | y :: l, hp => by
    have hp' := List.pairwise_cons.1 hp
    refine ss_ins h (foldr_ss h hp'.2) fun z hz => ?_
    exact (hp'.1 z (foldr_iff.1 hz)).symm
theorem foldr_perm : ∀ l : List α, (l.foldr (fun e l => insL lt l e) []).Perm l
  | [] => List.Perm.refl _
  | y :: l => (insL_perm y _).trans ((foldr_perm l).cons y)
end
/-! ### Rows -/
def rowM (r : Rules) (now : Int) (l : List Party) (k : Int) (e : Entry) : Prop := ∃ p ∈ l, entryOk r p now = true ∧ p.cabin = k ∧ e = entryOf r p now
theorem queueOf_iff {r : Rules} {now k : Int} {l : List Party} {e : Entry} : e ∈ queueOf r l k now ↔ rowM r now l k e := by
  constructor
  · intro h; exact queueOf_out h
  · rintro ⟨p, hp, h1, h2, rfl⟩; exact queueOf_in hp h1 h2
theorem entryOf_ok {r : Rules} {p : Party} {now : Int} (h : entryOk r p now = true) : entryOf r p now = ⟨levelOf r p now, p.turn, p.id, p.size⟩ := by simp [entryOf, h]
theorem entry_cmp {r : Rules} {p q : Party} {now : Int} (hp : entryOk r p now = true) (hq : entryOk r q now = true) (h : p.turn ≠ q.turn) : entryLess (entryOf r p now) (entryOf r q now) = true ∨ entryLess (entryOf r q now) (entryOf r p now) = true := by
  rw [entryOf_ok hp, entryOf_ok hq]
  simp only [entryLess, Bool.or_eq_true, Bool.and_eq_true, decide_eq_true_eq, beq_iff_eq]
  omega
theorem queueOf_ss {r : Rules} {now k : Int} : ∀ {l : List Party}, (l.map (·.turn)).Nodup → SS entryLess (queueOf r l k now)
  | [], _ => by simp [queueOf]
  | p :: l, hd => by
    rw [List.map_cons, List.nodup_cons] at hd
    unfold queueOf
    split
    · rename_i hc
      simp only [Bool.and_eq_true] at hc
      rw [qIns_eq]
      refine ss_ins entryOrd (queueOf_ss hd.2) fun y hy => ?_
      obtain ⟨q, hq, h1, h2, rfl⟩ := queueOf_out hy
      refine entry_cmp h1 hc.1 fun he => hd.1 ?_
      rw [← he]; exact List.mem_map.2 ⟨q, hq, rfl⟩
    · exact queueOf_ss hd.2
/-! ### Pins -/
def pinM (l : List Party) (k : Int) (x : Pin) : Prop := ∃ p ∈ l, p.state = 2 ∧ p.cabin = k ∧ x = ⟨p.until', p.id⟩
theorem pinsRaw_iff {k : Int} {x : Pin} : ∀ {l : List Party}, x ∈ pinsRaw l k ↔ pinM l k x
  | [] => by simp [pinsRaw, pinM]
  | p :: l => by
    unfold pinsRaw
    split
    · rename_i hc
      simp only [Bool.and_eq_true, beq_iff_eq] at hc
      rw [List.mem_cons, pinsRaw_iff]
      constructor
      · rintro (rfl | ⟨q, hq, h⟩)
        · exact ⟨p, by simp, hc.1, hc.2, rfl⟩
        · exact ⟨q, by simp [hq], h⟩
      · rintro ⟨q, hq, h1, h2, h3⟩
        rcases List.mem_cons.1 hq with rfl | hq
        · exact .inl h3
        · exact .inr ⟨q, hq, h1, h2, h3⟩
    · rename_i hc
      simp only [Bool.and_eq_true, beq_iff_eq] at hc
      rw [pinsRaw_iff]
      constructor
      · rintro ⟨q, hq, h⟩; exact ⟨q, by simp [hq], h⟩
      · rintro ⟨q, hq, h1, h2, h3⟩
        rcases List.mem_cons.1 hq with rfl | hq
        · exact absurd ⟨h1, h2⟩ hc
        · exact ⟨q, hq, h1, h2, h3⟩
theorem pinsGo_foldr (l : List Party) (k : Int) : pinsGo l k [] = (pinsRaw l k).foldr (fun e l => insL pinLess l e) [] := by
  rw [pinsGo_raw, foldl_insL pinOrd pinTot]
theorem pinsGo_iff {l : List Party} {k : Int} {x : Pin} : x ∈ pinsGo l k [] ↔ pinM l k x := by
  rw [pinsGo_foldr, foldr_iff, pinsRaw_iff]
theorem pin_cmp {a b : Pin} (h : a ≠ b) : pinLess a b = true ∨ pinLess b a = true := by
  cases h1 : pinLess a b with
  | true => exact .inl rfl
  | false => cases h2 : pinLess b a with
    | true => exact .inr rfl
    | false => exact absurd (pinTot a b h1 h2) h
theorem pinsRaw_pw {k : Int} : ∀ {l : List Party}, (l.map (·.id)).Nodup → (pinsRaw l k).Pairwise fun a b => a ≠ b
  | [], _ => by simp [pinsRaw]
  | p :: l, hd => by
    rw [List.map_cons, List.nodup_cons] at hd
    unfold pinsRaw
    split
    · refine List.pairwise_cons.2 ⟨fun x hx => ?_, pinsRaw_pw hd.2⟩
      obtain ⟨q, hq, _, _, rfl⟩ := pinsRaw_iff.1 hx
      intro he
      injection he with h1 h2
      exact hd.1 (by rw [h2]; exact List.mem_map.2 ⟨q, hq, rfl⟩)
    · exact pinsRaw_pw hd.2
theorem pinsGo_ss {l : List Party} {k : Int} (hd : (l.map (·.id)).Nodup) : SS pinLess (pinsGo l k []) := by
  rw [pinsGo_foldr]
  exact foldr_ss pinOrd ((pinsRaw_pw hd).imp pin_cmp)
theorem pinsSort_foldr (l : List Pin) : pinsSort l = l.foldr (fun e l => insL pinLess l e) [] := by
  rw [pinsSort, pIns_eq', foldl_insL pinOrd pinTot]
theorem pinsSort_iff {l : List Pin} {x : Pin} : x ∈ pinsSort l ↔ x ∈ l := by rw [pinsSort_foldr, foldr_iff]
theorem pinsSort_ss {l : List Pin} (hd : (l.map (·.id)).Nodup) : SS pinLess (pinsSort l) := by
  rw [pinsSort_foldr]
  refine foldr_ss pinOrd ?_
  have h1 : l.Pairwise fun a b => a.id ≠ b.id := by
    have := hd
    rw [List.Nodup, List.pairwise_map] at this; exact this
  exact h1.imp fun hne => pin_cmp fun he => hne (by rw [he])
theorem pinsOf_of {wh : Wheel} (h : WheelP wh) : pinsOf wh = pinsSort wh.spoke.flatten := by simp [pinsOf, wheelOk_t h]
theorem pins_agree {wh : Wheel} {l : List Party} {k : Int} (hw : WheelP wh) (hd : (l.map (·.id)).Nodup) : samePins (pinsOf wh) (pinsGo l k []) = true ↔ ∀ x, x ∈ wh.spoke.flatten ↔ pinM l k x := by
  rw [samePins_iff, pinsOf_of hw]
  constructor
  · intro he x
    rw [← pinsSort_iff, he, pinsGo_iff]
  · intro hm
    refine ss_eq pinOrd (pinsSort_ss hw.2.2.2.1) (pinsGo_ss hd) fun x => ?_
    rw [pinsSort_iff, pinsGo_iff]; exact hm x
/-! ### Sums -/
def heldW (k : Int) (p : Party) : Int := if p.state = 2 ∧ p.cabin = k then p.size else 0
def tiedW (k : Int) (p : Party) : Int := if p.from' = k then p.size else 0
theorem isum_perm {a b : List Int} (h : a.Perm b) : a.sum = b.sum := by
  induction h with
  | nil => rfl
  | cons x _ ih => simp [ih]
  | swap x y l => simp only [List.sum_cons]; omega
  | trans _ _ h1 h2 => exact h1.trans h2
theorem sum_perm {f : Party → Int} {a b : List Party} (h : a.Perm b) : (a.map f).sum = (b.map f).sum := isum_perm (h.map f)
theorem heldGo_sum (k : Int) : ∀ (l : List Party) (n : Int), (∀ p ∈ l, 1 ≤ p.size ∧ p.size ≤ 6) → 0 ≤ n → n + 6 * l.length ≤ 9223372036854775807 → heldGo l k n = n + (l.map (heldW k)).sum
  | [], n, _, _, _ => by simp [heldGo]
  | p :: l, n, hs, h0, hn => by
    have hp := hs p (by simp)
    have hs' : ∀ q ∈ l, 1 ≤ q.size ∧ q.size ≤ 6 := fun q hq => hs q (by simp [hq])
    simp only [List.length_cons] at hn
    unfold heldGo
    have hin : inB p.size 1 6 = true := by simp only [inB, Bool.and_eq_true, decide_eq_true_eq]; exact hp
    rw [List.map_cons, List.sum_cons]
    by_cases hc : p.state = 2 ∧ p.cabin = k
    · rw [if_pos (by simp [hc.1, hc.2, hin]), wr_of (by omega) (by omega), heldGo_sum k l _ hs' (by omega) (by omega), heldW, if_pos hc]; omega
    · rw [if_neg (by simp only [Bool.and_eq_true, beq_iff_eq]; exact fun h => hc h.1), heldGo_sum k l _ hs' h0 (by omega), heldW, if_neg hc]; omega
theorem tiedGo_sum (k : Int) : ∀ (l : List Party) (n : Int), (∀ p ∈ l, 1 ≤ p.size ∧ p.size ≤ 6) → 0 ≤ n → n + 6 * l.length ≤ 9223372036854775807 → tiedGo l k n = n + (l.map (tiedW k)).sum
  | [], n, _, _, _ => by simp [tiedGo]
  | p :: l, n, hs, h0, hn => by
    have hp := hs p (by simp)
    have hs' : ∀ q ∈ l, 1 ≤ q.size ∧ q.size ≤ 6 := fun q hq => hs q (by simp [hq])
    simp only [List.length_cons] at hn
    unfold tiedGo
    have hin : inB p.size 1 6 = true := by simp only [inB, Bool.and_eq_true, decide_eq_true_eq]; exact hp
    rw [List.map_cons, List.sum_cons]
    by_cases hc : p.from' = k
    · rw [if_pos (by simp [hc, hin]), wr_of (by omega) (by omega), tiedGo_sum k l _ hs' (by omega) (by omega), tiedW, if_pos hc]; omega
    · rw [if_neg (by simp only [Bool.and_eq_true, beq_iff_eq]; exact fun h => hc h.1), tiedGo_sum k l _ hs' h0 (by omega), tiedW, if_neg hc]; omega
theorem sum_nn {f : Party → Int} : ∀ {l : List Party}, (∀ p ∈ l, 0 ≤ f p) → 0 ≤ (l.map f).sum
  | [], _ => by simp
  | p :: l, h => by
    have h1 := h p (by simp)
    have h2 := sum_nn (f := f) (l := l) fun q hq => h q (by simp [hq])
    rw [List.map_cons, List.sum_cons]; omega
theorem cnt_perm {a b : List Party} (h : a.Perm b) (k : Int) : cnt a k = cnt b k := (h.filter _).length_eq
theorem cnt_cons (p : Party) (l : List Party) (k : Int) : cnt (p :: l) k = (if p.cabin = k then 1 else 0) + cnt l k := by
  unfold cnt
  rw [List.filter_cons]
  by_cases h : p.cabin = k
  · rw [if_pos (by simpa using h), if_pos h, List.length_cons]; omega
  · rw [if_neg (by simpa using h), if_neg h]; omega
/-! ### Right parties -/
structure PR (r : Rules) (now : Int) (p : Party) : Prop where
  id0 : 1 ≤ p.id
  id1 : p.id ≤ 999
  cab : 0 ≤ p.cabin ∧ p.cabin < (r.seats.length : Int)
  frm : -1 ≤ p.from' ∧ p.from' < (r.seats.length : Int)
  ne : p.from' ≠ p.cabin
  size : 1 ≤ p.size ∧ p.size ≤ r.size ∧ p.size ≤ 6
  tier : 0 ≤ p.tier ∧ p.tier < r.tiers
  since : 0 ≤ p.since ∧ p.since ≤ now
  turn : 1 ≤ p.turn ∧ p.turn ≤ 1000000
  asked : 0 ≤ p.asked ∧ p.asked < r.tries
  st : (p.state = 1 ∧ 0 ≤ p.until' ∧ p.until' ≤ now + r.rest) ∨ (p.state = 2 ∧ 1 ≤ p.until' ∧ p.until' ≤ now + r.window)
structure RR (r : Rules) : Prop where
  seats : 1 ≤ r.seats.length ∧ r.seats.length ≤ 4
  tiers : 1 ≤ r.tiers ∧ r.tiers ≤ 5
  room : 1 ≤ r.room ∧ r.room ≤ 10
  size : 1 ≤ r.size ∧ r.size ≤ 6
  period : 1 ≤ r.period ∧ r.period ≤ 12
  window : 1 ≤ r.window ∧ r.window ≤ 8
  rest : 0 ≤ r.rest ∧ r.rest ≤ 8
  tries : 1 ≤ r.tries ∧ r.tries ≤ 4
  crew : 1 ≤ r.crew ∧ r.crew ≤ 3
theorem rr_of {r : Rules} (h : rulesOk r = true) : RR r := by
  simp only [rulesOk, inB, Bool.and_eq_true, decide_eq_true_eq] at h
  obtain ⟨⟨⟨⟨⟨⟨⟨⟨⟨q1, q2⟩, q3⟩, q4⟩, q5⟩, q6⟩, q7⟩, q8⟩, q9⟩, _⟩ := h
  exact ⟨by omega, q2, q3, q4, q5, q6, q7, q8, q9⟩
theorem partyOk_iff {r : Rules} {p : Party} {now : Int} : partyOk r p now = true ↔ rulesOk r = true ∧ (0 ≤ now ∧ now ≤ 1000000) ∧ PR r now p := by
  unfold partyOk
  cases hr : rulesOk r with
  | false => simp
  | true =>
    have rr := rr_of hr
    have h1 := rr.seats; have h2 := rr.tiers; have h3 := rr.tries; have h4 := rr.rest; have h5 := rr.window; have h6 := rr.size
    rw [wr_of (x := (r.seats.length : Int) - 1) (by omega) (by omega), wr_of (x := r.tiers - 1) (by omega) (by omega), wr_of (x := r.tries - 1) (by omega) (by omega)]
    by_cases hn : 0 ≤ now ∧ now ≤ 1000000
    · rw [wr_of (x := now + r.rest) (by omega) (by omega), wr_of (x := now + r.window) (by omega) (by omega)]
      simp only [Bool.true_and, inB, Bool.and_eq_true, Bool.or_eq_true, decide_eq_true_eq, beq_iff_eq, Bool.not_eq_true', beq_eq_false_iff_ne, ne_eq, true_and]
      constructor
      · rintro ⟨⟨⟨⟨⟨⟨⟨⟨⟨⟨_, a1⟩, a2⟩, a3⟩, a4⟩, a5⟩, a6⟩, a7⟩, a8⟩, a9⟩, a10⟩
        exact ⟨hn, ⟨a1.1, a1.2, ⟨a2.1, by omega⟩, ⟨a3.1, by omega⟩, a4, ⟨a5.1, a5.2, by omega⟩, ⟨a6.1, by omega⟩, a7, a8, ⟨a9.1, by omega⟩, a10⟩⟩
      · rintro ⟨_, g⟩
        have b2 := g.cab; have b3 := g.frm; have b5 := g.size; have b6 := g.tier; have b9 := g.asked
        exact ⟨⟨⟨⟨⟨⟨⟨⟨⟨⟨hn, g.id0, g.id1⟩, b2.1, by omega⟩, b3.1, by omega⟩, g.ne⟩, b5.1, b5.2.1⟩, b6.1, by omega⟩, g.since⟩, g.turn⟩, b9.1, by omega⟩, g.st⟩
    · constructor
      · intro h
        simp only [Bool.and_eq_true, inB, decide_eq_true_eq] at h
        exact absurd h.1.1.1.1.1.1.1.1.1.1.2 hn
      · rintro ⟨_, h, _⟩; exact absurd h hn
structure Good (r : Rules) (now : Int) (l : List Party) : Prop where
  rules : rulesOk r = true
  nw : 0 ≤ now ∧ now ≤ 1000000
  ok : ∀ p ∈ l, PR r now p
  ids : (l.map (·.id)).Nodup
  turns : (l.map (·.turn)).Nodup
  len : l.length ≤ 40
theorem Good.pok {r : Rules} {now : Int} {l : List Party} (g : Good r now l) {p : Party} (hp : p ∈ l) : partyOk r p now = true := partyOk_iff.2 ⟨g.rules, g.nw, g.ok p hp⟩
theorem nodup_one {β : Type} {f : Party → β} : ∀ {l : List Party}, (l.map f).Nodup → ∀ {x y : Party}, x ∈ l → y ∈ l → f x = f y → x = y
  | [], _, x, y, hx, _, _ => absurd hx List.not_mem_nil
  | p :: l, hd, x, y, hx, hy, he => by
    rw [List.map_cons, List.nodup_cons] at hd
    rcases List.mem_cons.1 hx with h1 | h1 <;> rcases List.mem_cons.1 hy with h2 | h2
    · rw [h1, h2]
    · exact absurd (List.mem_map.2 ⟨y, h2, by rw [← he, h1]⟩) hd.1
    · exact absurd (List.mem_map.2 ⟨x, h1, by rw [he, h2]⟩) hd.1
    · exact nodup_one hd.2 h1 h2 he
theorem Good.one {r : Rules} {now : Int} {l : List Party} (g : Good r now l) {x y : Party} (hx : x ∈ l) (hy : y ∈ l) (h : x.id = y.id) : x = y := nodup_one g.ids hx hy h
theorem Good.perm {r : Rules} {now : Int} {l m : List Party} (g : Good r now l) (h : l.Perm m) : Good r now m :=
  ⟨g.rules, g.nw, fun p hp => g.ok p (h.mem_iff.2 hp), (h.map _).nodup_iff.1 g.ids, (h.map _).nodup_iff.1 g.turns, by rw [← h.length_eq]; exact g.len⟩
theorem Good.tail {r : Rules} {now : Int} {p : Party} {l : List Party} (g : Good r now (p :: l)) : Good r now l :=
  ⟨g.rules, g.nw, fun q hq => g.ok q (by simp [hq]), (List.nodup_cons.1 (by simpa using g.ids)).2, (List.nodup_cons.1 (by simpa using g.turns)).2, by have := g.len; simp only [List.length_cons] at this; omega⟩
theorem level_rng {r : Rules} {p : Party} {now : Int} (h : partyOk r p now = true) : 0 ≤ levelOf r p now ∧ levelOf r p now ≤ 4 := by
  obtain ⟨hr, hn, g⟩ := partyOk_iff.1 h
  have rr := rr_of hr
  have h1 := rr.tiers; have h2 := rr.period; have h3 := g.tier; have h4 := g.since
  simp only [levelOf, h, if_true]
  rw [wr_of (x := now - p.since) (by omega) (by omega)]
  refine ⟨levelAt_nn _ _ _, ?_⟩
  unfold levelAt
  have h5 : 0 ≤ Int.tdiv (now - p.since) r.period := Int.tdiv_nonneg (by omega) (by omega)
  have h6 : Int.tdiv (now - p.since) r.period ≤ now - p.since := by
    rw [Int.tdiv_eq_ediv_of_nonneg (by omega)]
    exact Int.ediv_le_self _ (by omega)
  rw [wr_of (x := Int.tdiv (now - p.since) r.period) (by omega) (by omega), wr_of (x := p.tier - _) (by omega) (by omega)]
  split <;> omega
/-- what a cabin says of the parties -/
structure Rep (r : Rules) (now : Int) (l : List Party) (k : Int) (c : Cabin) : Prop where
  led : ledgerOk c.seats = true
  ss : SS entryLess c.row
  row : ∀ e, e ∈ c.row ↔ rowM r now l k e
  wh : WheelP c.wheel
  pin : ∀ x, x ∈ c.wheel.spoke.flatten ↔ pinM l k x
  held : c.seats.held = (l.map (heldW k)).sum
  tied : c.seats.tied = (l.map (tiedW k)).sum
theorem ss_ids {r : Rules} {now k : Int} {l : List Party} {row : List Entry} (g : Good r now l) (hs : SS entryLess row) (hm : ∀ e ∈ row, rowM r now l k e) : (row.map (·.id)).Nodup := by
  rw [List.Nodup, List.pairwise_map]
  refine List.Pairwise.imp_of_mem (fun {a b} ha hb hl he => ?_) hs
  obtain ⟨p, hp, h1, h2, rfl⟩ := hm a ha
  obtain ⟨q, hq, h3, h4, rfl⟩ := hm b hb
  rw [entryOf_ok h1, entryOf_ok h3] at he
  have := g.one hp hq he
  subst this
  rw [entryOrd.ir] at hl; cases hl
theorem queueP_row {r : Rules} {now k : Int} {l : List Party} {row : List Entry} (g : Good r now l) (hc : row.length ≤ 10) (hs : SS entryLess row) (hm : ∀ e ∈ row, rowM r now l k e) : QueueP row := by
  refine ⟨hc, fun i e he => ⟨?_, fun h0 y hy => ?_, fun j y hj hy => ?_⟩⟩
  · obtain ⟨p, hp, h1, h2, rfl⟩ := hm e (List.mem_of_getElem? he)
    have hl := level_rng (g.pok hp)
    have gp := g.ok p hp
    have a1 := gp.turn; have a2 := gp.id0; have a3 := gp.id1; have a4 := gp.size
    rw [entryOf_ok h1]
    unfold EntryR
    simp only [inB, Bool.and_eq_true, decide_eq_true_eq]
    omega
  · obtain ⟨g1, e1⟩ := List.getElem?_eq_some_iff.1 hy
    obtain ⟨g2, e2⟩ := List.getElem?_eq_some_iff.1 he
    have := (List.pairwise_iff_getElem.1 hs) (i - 1) i g1 g2 (by omega)
    rw [e1, e2] at this; exact this
  · obtain ⟨g1, e1⟩ := List.getElem?_eq_some_iff.1 hy
    obtain ⟨g2, e2⟩ := List.getElem?_eq_some_iff.1 he
    have h9 := ss_ids g hs hm
    rw [List.Nodup, List.pairwise_map, List.pairwise_iff_getElem] at h9
    have := h9 j i g1 g2 hj
    rw [e1, e2] at this; exact this
theorem agrees_iff {r : Rules} {now k : Int} {l : List Party} {c : Cabin} (g : Good r now l) (hc : cnt l k ≤ 10) : agrees r c l k now = true ↔ Rep r now l k c := by
  have hsz : ∀ p ∈ l, 1 ≤ p.size ∧ p.size ≤ 6 := fun p hp => ⟨(g.ok p hp).size.1, (g.ok p hp).size.2.2⟩
  have hlen := g.len
  have hh := heldGo_sum k l 0 hsz (by omega) (by omega)
  have ht := tiedGo_sum k l 0 hsz (by omega) (by omega)
  rw [Int.zero_add] at hh ht
  unfold agrees
  simp only [Bool.and_eq_true, beq_iff_eq, cabinOk, sameRow_iff, hh, ht]
  constructor
  · rintro ⟨⟨⟨⟨⟨⟨h1, h2⟩, h3⟩, h4⟩, h5⟩, h6⟩, h7⟩
    have hw := wheelP_of h3
    exact ⟨h1, h4 ▸ queueOf_ss g.turns, fun e => by rw [h4]; exact queueOf_iff, hw, (pins_agree hw g.ids).1 h5, h6, h7⟩
  · rintro ⟨h1, h2, h3, h4, h5, h6, h7⟩
    have hq : c.row = queueOf r l k now := ss_eq entryOrd h2 (queueOf_ss g.turns) fun e => by rw [queueOf_iff]; exact h3 e
    refine ⟨⟨⟨⟨⟨⟨h1, queueOk_t (queueP_row g ?_ h2 fun e he => (h3 e).1 he)⟩, wheelOk_t h4⟩, hq⟩, (pins_agree h4 g.ids).2 h5⟩, h6⟩, h7⟩
    rw [hq, queueOf_raw, (foldr_perm _).length_eq]
    have h8 := queueRaw_len r k now l 0 (by omega) (by omega)
    rw [countGo_cnt k l 0 (by omega) (by omega)] at h8
    omega
/-! ### Parties, pair by pair -/
def KK (q p : Party) : Prop := q.turn ≠ p.turn ∧ ¬ (q.turn < p.turn ∧ p.since < q.since) ∧ ¬ (p.turn < q.turn ∧ q.since < p.since)
theorem KK.symm {q p : Party} (h : KK q p) : KK p q := ⟨h.1.symm, h.2.2, h.2.1⟩
structure PPs (h : House) : Prop where
  ok : ∀ p ∈ h.parties, partyOk h.rules p h.now = true ∧ p.turn < h.turn
  ids : h.parties.Pairwise fun a b => a.id < b.id
  kk : h.parties.Pairwise KK
theorem partiesP_pw {h : House} : PartiesP h ↔ PPs h := by
  constructor
  · intro hp
    refine ⟨fun p hm => ?_, ?_, ?_⟩
    · obtain ⟨i, hi⟩ := List.mem_iff_getElem?.1 hm
      exact ⟨(hp i p hi).1, (hp i p hi).2.1⟩
    · rw [List.pairwise_iff_getElem]
      intro i j hi hj hij
      exact ids_lt hp (j - i - 1) i _ _ (List.getElem?_eq_getElem hi) (by rw [show i + (j - i - 1) + 1 = j by omega]; exact List.getElem?_eq_getElem hj)
    · rw [List.pairwise_iff_getElem]
      intro i j hi hj hij
      exact (hp j _ (List.getElem?_eq_getElem hj)).2.2.2 i _ hij (List.getElem?_eq_getElem hi)
  · intro hp i p hi
    have hm := hp.ok p (List.mem_of_getElem? hi)
    obtain ⟨g2, e2⟩ := List.getElem?_eq_some_iff.1 hi
    refine ⟨hm.1, hm.2, fun h0 q hq => ?_, fun j q hj hq => ?_⟩
    · obtain ⟨g1, e1⟩ := List.getElem?_eq_some_iff.1 hq
      have := (List.pairwise_iff_getElem.1 hp.ids) (i - 1) i g1 g2 (by omega)
      rw [e1, e2] at this; exact this
    · obtain ⟨g1, e1⟩ := List.getElem?_eq_some_iff.1 hq
      have := (List.pairwise_iff_getElem.1 hp.kk) j i g1 g2 hj
      rw [e1, e2] at this; exact this
/-- a right house, said by its parties -/
structure HRep (h : House) : Prop where
  rules : rulesOk h.rules = true
  now : 0 ≤ h.now ∧ h.now ≤ 1000000
  turn : 1 ≤ h.turn ∧ h.turn ≤ 1000001
  len : h.parties.length ≤ 40
  cabs : h.cabins.length = h.rules.seats.length
  pps : PPs h
  jobs : JobsP h
  cab : ∀ (k : Nat) (c : Cabin), h.cabins[k]? = some c → h.rules.seats[k]? = some c.seats.total ∧ Rep h.rules h.now h.parties k c ∧ (cnt h.parties k : Int) ≤ h.rules.room
theorem PPs.good {h : House} (hp : PPs h) (hr : rulesOk h.rules = true) (hn : 0 ≤ h.now ∧ h.now ≤ 1000000) (hl : h.parties.length ≤ 40) : Good h.rules h.now h.parties := by
  refine ⟨hr, hn, fun p hm => (partyOk_iff.1 (hp.ok p hm).1).2.2, ?_, ?_, hl⟩
  · rw [List.Nodup, List.pairwise_map]
    exact hp.ids.imp fun h => by omega
  · rw [List.Nodup, List.pairwise_map]
    exact hp.kk.imp fun h => h.1
theorem HRep.good {h : House} (hp : HRep h) : Good h.rules h.now h.parties := hp.pps.good hp.rules hp.now hp.len
theorem houseP_iff {h : House} : HouseP h ↔ HRep h := by
  constructor
  · rintro ⟨h1, h2, h3, h4, h5, h6, h7, h8⟩
    simp only [inB, Bool.and_eq_true, decide_eq_true_eq] at h2 h3
    have hpp := partiesP_pw.1 h6
    refine ⟨h1, h2, h3, h4, h5, hpp, h7, fun k c hk => ?_⟩
    obtain ⟨g1, g2, g3⟩ := h8 k c hk
    have hroom := (rr_of h1).room
    rw [countGo_cnt k _ 0 (by omega) (by omega)] at g3
    exact ⟨g1, (agrees_iff (hpp.good h1 h2 h4) (by omega)).1 g2, by omega⟩
  · intro hp
    have hroom := (rr_of hp.rules).room
    have hlen := hp.len
    refine ⟨hp.rules, by simp only [inB, Bool.and_eq_true, decide_eq_true_eq]; exact hp.now, by simp only [inB, Bool.and_eq_true, decide_eq_true_eq]; exact hp.turn, hp.len, hp.cabs, partiesP_pw.2 hp.pps, hp.jobs, fun k c hk => ?_⟩
    obtain ⟨g1, g2, g3⟩ := hp.cab k c hk
    refine ⟨g1, (agrees_iff hp.good (by omega)).2 g2, ?_⟩
    rw [countGo_cnt k _ 0 (by omega) (by omega)]; omega
end SX
end Go.Proofs.YtaihohlklagdgaaGreat
