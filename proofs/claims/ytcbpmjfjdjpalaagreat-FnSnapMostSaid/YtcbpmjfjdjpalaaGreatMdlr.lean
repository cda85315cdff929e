/- Texts of this claim, put together by program. -/
import Derived.Test.YtcbpmjfjdjpalaaGreatMdlm
/- Who was passed over; what freed seats link; in plain Lean. It imports no program. -/
namespace Go.Proofs.YtcbpmjfjdjpalaaGreat
namespace SX
set_option linter.unusedVariables false
set_option linter.unusedSimpArgs false
open Go Go.RowKit
def restingB (p : Party) (now : Int) : Bool := p.state == 1 && decide (p.until' > now)
def freeAt (h : House) (cabin : Int) : Int := match h.cabins[cabin.toNat]? with
  | some c => c.seats.free
  | none => 0
def fitsB (h : House) (cabin : Int) (p : Party) : Bool := p.cabin == cabin && p.state == 1 && !restingB p h.now && decide (p.size ≤ freeAt h cabin)
def beforeB (r : Rules) (a b : Party) (now : Int) : Bool := decide (levelOf r a now ≥ 0) && decide (levelOf r b now ≥ 0) && (decide (levelOf r a now < levelOf r b now) || (levelOf r a now == levelOf r b now && decide (a.turn < b.turn)))
def atId (l : List Party) (id : Int) : Int := idxF (fun e : Party => e.id == id) l 0
theorem atId_lt (l : List Party) (id : Int) : atId l id < (l.length : Int) ∧ -1 ≤ atId l id := by
  have h1 := idxF_lt (q := fun e : Party => e.id == id) l 0
  have h2 := (idxF_none (q := fun e : Party => e.id == id) l 0).2
  unfold atId
  omega
def passGo (h : House) (cabin : Int) (q : Party) : List Party → List Int
  | [] => []
  | p :: ps => if fitsB h cabin p && beforeB h.rules p q h.now then p.id :: passGo h cabin q ps else passGo h cabin q ps
noncomputable def passed (h : House) (cabin id : Int) : List Int :=
  if hasCab h cabin && !decide (atId h.parties id < 0) then match h.parties[(atId h.parties id).toNat]? with
    | some q => if q.cabin == cabin then passGo h cabin q h.parties else []
    | none => []
  else []
end SX
end Go.Proofs.YtcbpmjfjdjpalaaGreat
/- What the functions that change rows, wheels, parties and ledgers come to, in plain Lean: the exact models. It imports no program. -/
namespace Go.Proofs.YtcbpmjfjdjpalaaGreat
namespace SX
set_option linter.unusedVariables false
set_option linter.unusedSimpArgs false
open Go Go.RowKit
/-- a wheel with a pin put into its spoke -/
def wheelIns (w : Wheel) (p : Pin) : Wheel := ⟨match w.spoke[(Int.tmod p.at' 9).toNat]? with
  | some l => w.spoke.set (Int.tmod p.at' 9).toNat (pIns l p)
  | none => w.spoke⟩
noncomputable def wheelPut (w : Wheel) (p : Pin) : Wheel := if wheelOk w && !decide (p.at' < 1) && wheelOk (wheelIns w p) then wheelIns w p else w
noncomputable def wheelPutB (w : Wheel) (p : Pin) : Bool := wheelOk w && !decide (p.at' < 1) && wheelOk (wheelIns w p)
theorem wheelIns_of {w : Wheel} {p : Pin} {l : List Pin} (h : w.spoke[(Int.tmod p.at' 9).toNat]? = some l) : wheelIns w p = ⟨w.spoke.set (Int.tmod p.at' 9).toNat (pIns l p)⟩ := by simp [wheelIns, h]
theorem flat_set_len {xss : List (List Pin)} {k : Nat} {x : List Pin} (y : List Pin) (h : xss[k]? = some x) : (xss.set k y).flatten.length + x.length = xss.flatten.length + y.length := by
  induction xss generalizing k with
  | nil => simp at h
  | cons z xss ih =>
    cases k with
    | zero => simp at h; subst h; simp; omega
    | succ k =>
      simp only [List.getElem?_cons_succ] at h
      have := ih h
      simp only [List.set_cons_succ, List.flatten_cons, List.length_append]
      omega
theorem flat_set_le : ∀ (xss : List (List Pin)) (k : Nat) (y : List Pin), (xss.set k y).flatten.length ≤ xss.flatten.length + y.length
  | [], k, y => by simp
  | z :: xss, 0, y => by simp only [List.set_cons_zero, List.flatten_cons, List.length_append]; omega
  | z :: xss, k + 1, y => by
    have := flat_set_le xss k y
    simp only [List.set_cons_succ, List.flatten_cons, List.length_append]; omega
theorem flat_set_put {xss : List (List Pin)} {k : Nat} {x : List Pin} (h : xss[k]? = some x) (p : Pin) : (xss.set k (pIns x p)).flatten.length = xss.flatten.length + 1 := by
  have := flat_set_len (pIns x p) h; rw [pIns_len] at this; omega
theorem wheelIns_len (w : Wheel) (p : Pin) : (wheelIns w p).spoke.length = w.spoke.length ∧ (wheelIns w p).spoke.flatten.length ≤ w.spoke.flatten.length + 1 := by
  unfold wheelIns
  split
  · rename_i l hl
    have := flat_set_len (pIns l p) hl
    rw [pIns_len] at this
    dsimp only
    rw [List.length_set]
    omega
  · simp
theorem wheelPut_len (w : Wheel) (p : Pin) : (wheelPut w p).spoke.length = w.spoke.length ∧ (wheelPut w p).spoke.flatten.length ≤ w.spoke.flatten.length + 1 := by
  unfold wheelPut
  split
  · exact wheelIns_len w p
  · omega
theorem wheelPut_t {w : Wheel} {p : Pin} (h1 : wheelOk w = true) (h2 : ¬ p.at' < 1) (h3 : wheelOk (wheelIns w p) = true) : wheelPut w p = wheelIns w p ∧ wheelPutB w p = true := by simp [wheelPut, wheelPutB, h1, h2, h3]
theorem wheelPut_f {w : Wheel} {p : Pin} (h : wheelOk w = false ∨ p.at' < 1 ∨ wheelOk (wheelIns w p) = false) : wheelPut w p = w ∧ wheelPutB w p = false := by
  rcases h with h | h | h <;> simp [wheelPut, wheelPutB, h]
/-- a row with an entry put into it -/
noncomputable def queuePutB (l : List Entry) (e : Entry) : Bool := queueOk l && queueOk (qIns l e)
noncomputable def queuePut (l : List Entry) (e : Entry) : List Entry := if queuePutB l e then qIns l e else l
theorem queuePut_t {l : List Entry} {e : Entry} (h1 : queueOk l = true) (h2 : queueOk (qIns l e) = true) : queuePut l e = qIns l e ∧ queuePutB l e = true := by simp [queuePut, queuePutB, h1, h2]
theorem queuePut_f {l : List Entry} {e : Entry} (h : queueOk l = false ∨ queueOk (qIns l e) = false) : queuePut l e = l ∧ queuePutB l e = false := by
  rcases h with h | h <;> simp [queuePut, queuePutB, h]
theorem queuePut_len (l : List Entry) (e : Entry) : (queuePut l e).length ≤ l.length + 1 := by
  unfold queuePut
  split
  · rw [qIns_len]; omega
  · omega
/-- parties with one put among them -/
def idLess (a b : Party) : Bool := decide (a.id < b.id)
def partyPut (l : List Party) (p : Party) : List Party := if atId l p.id ≥ 0 then l.set (atId l p.id).toNat p else insL idLess l p
theorem partyPut_len (l : List Party) (p : Party) : (partyPut l p).length ≤ l.length + 1 := by
  unfold partyPut
  split
  · simp
  · rw [insL_len]; omega
theorem partyPut_set {l : List Party} {p : Party} (h : atId l p.id ≥ 0) : partyPut l p = l.set (atId l p.id).toNat p := by simp [partyPut, h]
theorem partyPut_ins {l : List Party} {p : Party} (h : ¬ atId l p.id ≥ 0) : partyPut l p = insL idLess l p := by simp only [partyPut, if_neg h]
theorem insL_step {l : List Party} {p : Party} {k : Nat} {y : Party} (hy : l[k]? = some y) (h : y.id < p.id) (hi : insL idLess l p = l.take k ++ insL idLess (l.drop k) p) : insL idLess l p = l.take (k + 1) ++ insL idLess (l.drop (k + 1)) p := by
  rw [hi]
  have hd : l.drop k = y :: l.drop (k + 1) := by
    have := (List.getElem?_eq_some_iff.1 hy)
    obtain ⟨h1, h2⟩ := this
    rw [← h2]; exact List.drop_eq_getElem_cons h1
  rw [hd, List.take_add_one, hy]
  simp [insL, idLess, h]
theorem insL_stop {l : List Party} {p : Party} {k : Nat} (h : ∀ y, l[k]? = some y → ¬ y.id < p.id) (hi : insL idLess l p = l.take k ++ insL idLess (l.drop k) p) : insL idLess l p = l.take k ++ p :: l.drop k := by
  rw [hi]
  congr 1
  cases hd : l.drop k with
  | nil => rfl
  | cons y ys =>
    have hk : l[k]? = some y := by
      have := congrArg (fun z => z[0]?) hd
      simpa using this
    simp [insL, idLess, h y hk]
theorem queueOf_len (r : Rules) (cabin now : Int) : ∀ l : List Party, (queueOf r l cabin now).length ≤ l.length
  | [] => by simp [queueOf]
  | p :: ps => by
    have := queueOf_len r cabin now ps
    unfold queueOf
    split
    · rw [qIns_len]; simp only [List.length_cons]; omega
    · simp only [List.length_cons]; omega
theorem pinsGo_len (cabin : Int) : ∀ (l : List Party) (out : List Pin), (pinsGo l cabin out).length ≤ out.length + l.length
  | [], out => by simp [pinsGo]
  | p :: ps, out => by
    unfold pinsGo
    have := pinsGo_len cabin ps (if p.state == 2 && p.cabin == cabin then pIns out ⟨p.until', p.id⟩ else out)
    split at this
    · rename_i h; rw [if_pos h]; rw [pIns_len] at this; simp only [List.length_cons]; omega
    · rename_i h; rw [if_neg h]; simp only [List.length_cons]; omega
theorem pinsGo_len0 (cabin : Int) (l : List Party) : (pinsGo l cabin []).length ≤ l.length := by
  have := pinsGo_len cabin l []; simpa using this
theorem allSeats_snoc (l : List Int) (x : Int) : allSeats (l ++ [x]) = (allSeats l && inB x 1 60) := by
  induction l with
  | nil => simp [allSeats]
  | cons y l ih => simp only [List.cons_append, allSeats, ih, Bool.and_assoc]
theorem rulesOk_len {r : Rules} (h : rulesOk r = true) : 1 ≤ r.seats.length ∧ r.seats.length ≤ 4 ∧ r.crew ≤ 3 ∧ 1 ≤ r.crew := by
  simp [rulesOk, inB] at h; omega
theorem mem_set_of {α : Type} {P : α → Prop} {l : List α} {k : Nat} {x : α} (h : ∀ c ∈ l, P c) (hx : P x) : ∀ c ∈ l.set k x, P c :=
  fun c hc => (List.mem_or_eq_of_mem_set hc).elim (h c) (fun e => e ▸ hx)
end SX
end Go.Proofs.YtcbpmjfjdjpalaaGreat
