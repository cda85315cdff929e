/- Texts of this claim, put together by program. -/
import Derived.Test.YthnbaikmbgaddaaGreatMdls
import Derived.Test.YthnbaikmbgaddaaGreatSxo
/- Rows and wheels: what the two ways of asking come to, in plain Lean. It imports no program. -/
namespace Go.Proofs.YthnbaikmbgaddaaGreat
namespace SX
set_option linter.unusedVariables false
set_option linter.unusedSimpArgs false
open Go Go.RowKit
theorem take_get {α : Type} {l : List α} {k j : Nat} {x : α} (h : (l.take k)[j]? = some x) : j < k ∧ l[j]? = some x := by
  rw [List.getElem?_take] at h
  split at h
  · exact ⟨by assumption, h⟩
  · cases h
theorem get_take {α : Type} {l : List α} {k j : Nat} {x : α} (hj : j < k) (h : l[j]? = some x) : x ∈ l.take k := by
  refine List.mem_of_getElem? (i := j) ?_
  rw [List.getElem?_take, if_pos hj]; exact h
theorem queueAt_t {l : List Entry} {k : Nat} {id : Int} (h : queueAt (l.take k) id 0 ≥ 0) : ∃ j e, j < k ∧ l[j]? = some e ∧ e.id = id := by
  rcases queueAt_spec (l.take k) id 0 with ⟨h1, _⟩ | ⟨i, e, h1, h2, h3, h4⟩
  · omega
  · obtain ⟨h5, h6⟩ := take_get h1
    exact ⟨i, e, h5, h6, h2⟩
theorem queueAt_n {l : List Entry} {k : Nat} {id : Int} (h : ¬ queueAt (l.take k) id 0 ≥ 0) : ∀ (j : Nat) (e : Entry), j < k → l[j]? = some e → e.id ≠ id := by
  intro j e hj he
  rcases queueAt_spec (l.take k) id 0 with ⟨_, h2⟩ | ⟨i, e', h1, h2, h3, h4⟩
  · exact h2 e (get_take hj he)
  · omega
theorem queueAt_at {l : List Entry} {k : Nat} {e : Entry} (hk : l[k]? = some e) : queueAt l e.id 0 = k ↔ ∀ (j : Nat) (y : Entry), j < k → l[j]? = some y → y.id ≠ e.id := by
  rcases queueAt_spec l e.id 0 with ⟨_, h2⟩ | ⟨i, e', h1, h2, h3, h4⟩
  · exact absurd rfl (h2 e (List.mem_of_getElem? hk))
  · rw [h3]
    constructor
    · intro h
      have : i = k := by omega
      subst this; exact h4
    · intro h
      have h5 : ¬ i < k := fun hlt => h i e' hlt h1 h2
      have h6 : ¬ k < i := fun hlt => h4 k e hlt hk rfl
      omega
/-! ### Keys -/
def keysOf (l : List Pin) (ks : List Int) : List Int := l.foldl (fun ks p => insK ks p.id) ks
theorem keysOf_snoc (l : List Pin) (p : Pin) (ks : List Int) : keysOf (l ++ [p]) ks = insK (keysOf l ks) p.id := by simp [keysOf]
theorem keysOf_len : ∀ (l : List Pin) (ks : List Int), (keysOf l ks).length ≤ ks.length + l.length
  | [], ks => by simp [keysOf]
  | p :: l, ks => by
    have := keysOf_len l (insK ks p.id)
    have h2 : (insK ks p.id).length ≤ ks.length + 1 := by unfold insK; split <;> simp
    simp only [keysOf, List.foldl_cons, List.length_cons] at *
    omega
theorem keysOf_iff : ∀ (l : List Pin) (ks : List Int), (keysOf l ks).length = ks.length + l.length ↔ (l.map (·.id)).Nodup ∧ ∀ p ∈ l, p.id ∉ ks
  | [], ks => by simp [keysOf]
  | p :: l, ks => by
    have ih := keysOf_iff l (insK ks p.id)
    have hle := keysOf_len l (insK ks p.id)
    have hun : keysOf (p :: l) ks = keysOf l (insK ks p.id) := rfl
    rw [hun]
    by_cases hp : p.id ∈ ks
    · have h2 : (insK ks p.id).length = ks.length := by rw [insK, if_pos hp]
      simp only [List.length_cons]
      constructor
      · intro h; omega
      · rintro ⟨_, h⟩; exact absurd hp (h p (by simp))
    · have h2 : (insK ks p.id).length = ks.length + 1 := by rw [insK, if_neg hp]; simp
      rw [h2] at ih hle
      simp only [List.length_cons, List.map_cons, List.nodup_cons]
      rw [show ks.length + (l.length + 1) = ks.length + 1 + l.length by omega, ih]
      have hm : ∀ x, x ∈ insK ks p.id ↔ x ∈ ks ∨ x = p.id := by intro x; rw [insK, if_neg hp]; simp
      constructor
      · rintro ⟨h3, h4⟩
        refine ⟨⟨fun hin => ?_, h3⟩, fun q hq => ?_⟩
        · obtain ⟨q, hq, hqe⟩ := List.mem_map.1 hin
          exact h4 q hq ((hm _).2 (.inr hqe))
        · rcases List.mem_cons.1 hq with rfl | hq
          · exact hp
          · exact fun hk => h4 q hq ((hm _).2 (.inl hk))
      · rintro ⟨⟨h3, h4⟩, h5⟩
        refine ⟨h4, fun q hq hk => ?_⟩
        rcases (hm _).1 hk with hk | hk
        · exact h5 q (by simp [hq]) hk
        · exact h3 (List.mem_map.2 ⟨q, hq, hk⟩)
theorem keysOf_nodup (l : List Pin) : (keysOf l []).length = l.length ↔ (l.map (·.id)).Nodup := by
  have := keysOf_iff l []
  simpa using this
/-! ### Wheels -/
def SpokeW (i : Nat) (l : List Pin) (n : Nat) : Prop := ∀ (m : Nat) (x : Pin), m < n → l[m]? = some x → PinR x ∧ Int.tmod x.at' 9 = (i : Int) ∧ (0 < m → ∀ y, l[m - 1]? = some y → pinLess x y = false)
theorem spokeP_of {i : Nat} {l : List Pin} (hw : SpokeW i l l.length) (hn : (l.map (·.id)).Nodup) : SpokeP i l := by
  intro m x hx
  have hm : m < l.length := (List.getElem?_eq_some_iff.1 hx).1
  obtain ⟨_, h1, h2⟩ := hw m x hm hx
  refine ⟨h1, fun h0 y hy => ?_⟩
  have h3 := h2 h0 y hy
  cases h4 : pinLess y x with
  | true => rfl
  | false =>
    have h5 := pinTot x y h3 h4
    exact absurd hn (ids_no (i := m - 1) (j := m) (by omega) hy hx (by rw [h5]))
theorem spokeW_of {i : Nat} {l : List Pin} (hp : SpokeP i l) (hr : ∀ p ∈ l, PinR p) (n : Nat) : SpokeW i l n := fun m x _ hx =>
  ⟨hr x (List.mem_of_getElem? hx), (hp m x hx).1, fun h0 y hy => pinOrd.as _ _ ((hp m x hx).2 h0 y hy)⟩
theorem nodup_spoke {wh : Wheel} (hn : (wh.spoke.flatten.map (·.id)).Nodup) {i : Nat} {l : List Pin} (hl : wh.spoke[i]? = some l) : (l.map (·.id)).Nodup := by
  refine hn.sublist (List.Sublist.map _ ?_)
  exact List.sublist_flatten_of_mem (List.mem_of_getElem? hl)
theorem wheelP_weak {wh : Wheel} : WheelP wh ↔ wh.spoke.length = 9 ∧ (∀ (i : Nat) (l : List Pin), i < wh.spoke.length → wh.spoke[i]? = some l → SpokeW i l l.length) ∧ wh.spoke.flatten.length ≤ 10 ∧ (keysOf wh.spoke.flatten []).length = wh.spoke.flatten.length := by
  rw [keysOf_nodup]
  constructor
  · rintro ⟨h1, h2, h3, h4, h5⟩
    exact ⟨h1, fun i l _ hl => spokeW_of (h5 i l hl) (fun p hp => h3 p (List.mem_flatten.2 ⟨l, List.mem_of_getElem? hl, hp⟩)) _, h2, h4⟩
  · rintro ⟨h1, h2, h3, h4⟩
    refine ⟨h1, h3, fun p hp => ?_, h4, fun i l hl => spokeP_of (h2 i l (List.getElem?_eq_some_iff.1 hl).1 hl) (nodup_spoke h4 hl)⟩
    obtain ⟨l, hl, hpl⟩ := List.mem_flatten.1 hp
    obtain ⟨i, hi⟩ := List.mem_iff_getElem?.1 hl
    obtain ⟨m, hm⟩ := List.mem_iff_getElem?.1 hpl
    exact (h2 i l (List.getElem?_eq_some_iff.1 hi).1 hi m p (List.getElem?_eq_some_iff.1 hm).1 hm).1
theorem flat_take {α : Type} {xss : List (List α)} {k : Nat} {x : List α} (h : xss[k]? = some x) : (xss.take (k + 1)).flatten = (xss.take k).flatten ++ x := by
  rw [List.take_add_one, h]; simp
theorem flat_take_le {α : Type} (xss : List (List α)) (k : Nat) : (xss.take k).flatten.length ≤ xss.flatten.length := by
  have : xss.flatten = (xss.take k).flatten ++ (xss.drop k).flatten := by rw [← List.flatten_append, List.take_append_drop]
  rw [this, List.length_append]; omega
theorem flat_take_le2 {α : Type} {xss : List (List α)} {k : Nat} {x : List α} (h : xss[k]? = some x) : (xss.take k).flatten.length + x.length ≤ xss.flatten.length := by
  have := flat_take_le xss (k + 1)
  rw [flat_take h, List.length_append] at this; exact this
theorem wheelOk_eq {wh : Wheel} {b : Bool} (h : b = true ↔ WheelP wh) : b = wheelOk wh := by
  cases b with
  | true => exact (wheelOk_t (h.1 rfl)).symm
  | false => exact (wheelOk_f fun hw => by cases h.2 hw).symm
/-! ### Houses -/
def PartyH (h : House) (i : Nat) (p : Party) : Prop := partyOk h.rules p h.now = true ∧ p.turn < h.turn ∧ (0 < i → ∀ q, h.parties[i - 1]? = some q → q.id < p.id)
def PartyI (h : House) (p : Party) (n : Nat) : Prop := ∀ (j : Nat) (q : Party), j < n → h.parties[j]? = some q → q.turn ≠ p.turn ∧ ¬ (q.turn < p.turn ∧ p.since < q.since) ∧ ¬ (p.turn < q.turn ∧ q.since < p.since)
theorem partiesP_iff {h : House} : PartiesP h ↔ ∀ (i : Nat) (p : Party), h.parties[i]? = some p → PartyH h i p ∧ PartyI h p i :=
  ⟨fun w i p hp => ⟨⟨(w i p hp).1, (w i p hp).2.1, (w i p hp).2.2.1⟩, (w i p hp).2.2.2⟩, fun w i p hp => ⟨(w i p hp).1.1, (w i p hp).1.2.1, (w i p hp).1.2.2, (w i p hp).2⟩⟩
open Classical in
noncomputable def partiesOk (h : House) : Bool := decide (PartiesP h)
open Classical in
noncomputable def jobsOk (h : House) : Bool := decide (JobsP h)
theorem any_take {l : List Int} {k : Nat} {x : Int} : (l.take k).any (fun e => e == x) = true ↔ ∃ (j : Nat) (y : Int), j < k ∧ l[j]? = some y ∧ y = x := by
  rw [List.any_eq_true]
  constructor
  · rintro ⟨y, hy, he⟩
    obtain ⟨j, hj⟩ := List.mem_iff_getElem?.1 hy
    obtain ⟨h1, h2⟩ := take_get hj
    exact ⟨j, y, h1, h2, by simpa using he⟩
  · rintro ⟨j, y, hj, hy, rfl⟩
    exact ⟨y, get_take hj hy, by simp⟩
theorem any_take' {l : List Int} {k : Nat} {x : Int} : (l.take k).any (fun e => x == e) = true ↔ ∃ (j : Nat) (y : Int), j < k ∧ l[j]? = some y ∧ y = x := by
  rw [← any_take]
  have : (fun e => x == e) = fun e : Int => e == x := by funext e; rw [Bool.eq_iff_iff, beq_iff_eq, beq_iff_eq]; exact eq_comm
  rw [this]
def CabinH (h : House) (k : Nat) (c : Cabin) : Prop := h.rules.seats[k]? = some c.seats.total ∧ agrees h.rules c h.parties k h.now = true ∧ countGo h.parties k 0 ≤ h.rules.room
noncomputable def hasCab (h : House) (cabin : Int) : Bool := houseOk h && inB cabin 0 (wr (h.cabins.length - 1))
end SX
end Go.Proofs.YthnbaikmbgaddaaGreat
/- What the laws do with a house: copy it, mark it, compare it, weigh it; in plain Lean. It imports no program. -/
namespace Go.Proofs.YthnbaikmbgaddaaGreat
namespace SX
set_option linter.unusedVariables false
set_option linter.unusedSimpArgs false
open Go Go.RowKit
/-! ### Elements that hold slices -/
theorem nestRepN {α : Type} {e e' : TypeId} {L : Lay α} {a : Option Addr} {n c : Nat} {x : List α} : ∀ w fps, holds w [slA e L (.slice a n c) x] fps → (sl e L).rep true w [.slice a n c] x fps.flatten := by
  intro w fps h
  match fps, h with
  | [f], ⟨h1, _⟩ =>
    have hn := (SlO.lenE ⟨f, h1⟩).1
    subst hn
    exact ⟨a, c, rfl, by simp only [if_true, List.flatten_cons, List.flatten_nil, List.append_nil]; exact h1⟩
theorem cabinRepN {e1 e2 e3 : TypeId} {c : Cabin} {a1 a2 : Option Addr} {n1 n2 c1 c2 : Nat} : ∀ w fps, holds w [slA e1 entryL (.slice a1 n1 c1) c.row, slA e2 (sl e3 pinL) (.slice a2 n2 c2) c.wheel.spoke] fps →
    (cabinLx e1 e2 e3).rep true w [vi c.seats.total, vi c.seats.free, vi c.seats.held, vi c.seats.sold, vi c.seats.tied, .slice a1 n1 c1, .slice a2 n2 c2] c fps.flatten := by
  intro w fps h
  match fps, h with
  | [f1, f2], ⟨h1, h2, _⟩ =>
    have hn1 := (SlO.lenE ⟨f1, h1⟩).1
    have hn2 := (SlO.lenE ⟨f2, h2⟩).1
    subst hn1; subst hn2
    exact cabinRep w [f1, f2] ⟨h1, h2, trivial⟩
theorem cabinHun {e1 e2 e3 : TypeId} {x : Cabin} : ∀ w cs f, (cabinLx e1 e2 e3).rep true w cs x f → ∃ (i : HH × HH) (fps : List (List Nat)), cs = [vi x.seats.total, vi x.seats.free, vi x.seats.held, vi x.seats.sold, vi x.seats.tied, .slice i.1.1 x.row.length i.1.2, .slice i.2.1 x.wheel.spoke.length i.2.2] ∧
    holds w [slA e1 entryL (.slice i.1.1 x.row.length i.1.2) x.row, slA e2 (sl e3 pinL) (.slice i.2.1 x.wheel.spoke.length i.2.2) x.wheel.spoke] fps ∧ fps.flatten = f := by
  rintro w cs f ⟨d1, d2, f1, f2, rfl, rfl, ⟨rfl, rfl⟩, d3, d4, f3, f4, rfl, rfl, ⟨a1, c1, rfl, h1⟩, ⟨a2, c2, rfl, h2⟩⟩
  simp only [if_true] at h1 h2
  exact ⟨((a1, c1), (a2, c2)), [f3, f4], rfl, ⟨h1, h2, trivial⟩, by simp⟩
theorem cabinZ {e1 e2 e3 : TypeId} (w : World) : (cabinLx e1 e2 e3).rep true w [vi 0, vi 0, vi 0, vi 0, vi 0, .slice none 0 0, .slice none 0 0] ⟨⟨0, 0, 0, 0, 0⟩, [], ⟨[]⟩⟩ [] :=
  ⟨[vi 0, vi 0, vi 0, vi 0, vi 0], [.slice none 0 0, .slice none 0 0], [], [], rfl, rfl, ⟨rfl, rfl⟩, [.slice none 0 0], [.slice none 0 0], [], [], rfl, rfl, slZ e1 entryL w, slZ e2 (sl e3 pinL) w⟩
theorem cabinRepF {e1 e2 e3 : TypeId} {w : World} {c : Cabin} {a1 a2 : Option Addr} {c1 c2 : Nat} {f1 f2 : List Nat} (h1 : SlR entryL w a1 c.row f1) (h2 : SlR (sl e3 pinL) w a2 c.wheel.spoke f2) (p1 : c.row.length ≤ c1) (p2 : c.wheel.spoke.length ≤ c2) :
    (cabinLx e1 e2 e3).rep false w [vi c.seats.total, vi c.seats.free, vi c.seats.held, vi c.seats.sold, vi c.seats.tied, .slice a1 c.row.length c1, .slice a2 c.wheel.spoke.length c2] c (f1 ++ f2) :=
  ⟨[vi c.seats.total, vi c.seats.free, vi c.seats.held, vi c.seats.sold, vi c.seats.tied], [.slice a1 c.row.length c1, .slice a2 c.wheel.spoke.length c2], [], f1 ++ f2, rfl, by simp, ⟨rfl, rfl⟩, [.slice a1 c.row.length c1], [.slice a2 c.wheel.spoke.length c2], f1, f2, rfl, rfl, ⟨a1, c1, rfl, by simp only [Bool.false_eq_true, if_false]; exact ⟨p1, h1⟩⟩, ⟨a2, c2, rfl, by simp only [Bool.false_eq_true, if_false]; exact ⟨p2, h2⟩⟩⟩
/-! ### Marks -/
/-! ### Sizes -/
def CabinSz (c : Cabin) : Prop := c.row.length ≤ 1048576 ∧ c.wheel.spoke.length ≤ 1048576 ∧ c.wheel.spoke.flatten.length ≤ 1048576
def HouseSz (h : House) : Prop := h.rules.seats.length ≤ 1048576 ∧ h.parties.length ≤ 1048576 ∧ h.cabins.length ≤ 1048576 ∧ h.todo.length ≤ 1048576 ∧ h.jobs.length ≤ 1048576 ∧ ∀ c ∈ h.cabins, CabinSz c
/-! ### Comparing -/
def eqL {α : Type} (f : α → α → Bool) : List α → List α → Bool
  | [], [] => true
  | a :: as, b :: bs => f a b && eqL f as bs
  | _, _ => false
theorem eqL_refl {α : Type} {f : α → α → Bool} (h : ∀ a, f a a = true) : ∀ l, eqL f l l = true
  | [] => rfl
  | a :: as => by simp [eqL, h a, eqL_refl h as]
theorem eqL_ne {α : Type} {f : α → α → Bool} : ∀ {a b : List α}, a.length ≠ b.length → eqL f a b = false
  | [], [], h => absurd rfl h
  | [], _ :: _, _ => rfl
  | _ :: _, [], _ => rfl
  | x :: a, y :: b, h => by
    simp only [eqL, eqL_ne (f := f) (a := a) (b := b) (by simpa using h), Bool.and_false]
def eqParty (a b : Party) : Bool := a.id == b.id && a.cabin == b.cabin && a.from' == b.from' && a.size == b.size && a.tier == b.tier && a.since == b.since && a.turn == b.turn && a.state == b.state && a.until' == b.until' && a.asked == b.asked
def eqEntry (a b : Entry) : Bool := a.level == b.level && a.turn == b.turn && a.id == b.id && a.size == b.size
def eqPin (a b : Pin) : Bool := a.at' == b.at' && a.id == b.id
def eqLedger (a b : Ledger) : Bool := a.total == b.total && a.free == b.free && a.held == b.held && a.sold == b.sold && a.tied == b.tied
def eqCabin (a b : Cabin) : Bool := eqLedger a.seats b.seats && eqL eqEntry a.row b.row && eqL (eqL eqPin) a.wheel.spoke b.wheel.spoke
def eqHouse (a b : House) : Bool := eqRules a.rules b.rules && a.now == b.now && a.turn == b.turn && eqL eqParty a.parties b.parties && eqL eqCabin a.cabins b.cabins && eqInts a.todo b.todo && eqInts a.jobs b.jobs
theorem eqParty_refl (a : Party) : eqParty a a = true := by simp [eqParty]
theorem eqEntry_refl (a : Entry) : eqEntry a a = true := by simp [eqEntry]
theorem eqPin_refl (a : Pin) : eqPin a a = true := by simp [eqPin]
theorem eqCabin_refl (a : Cabin) : eqCabin a a = true := by simp [eqCabin, eqLedger, eqL_refl eqEntry_refl, eqL_refl (eqL_refl eqPin_refl)]
theorem eqHouse_refl (a : House) : eqHouse a a = true := by simp [eqHouse, eqRules_refl, eqInts_refl, eqL_refl eqParty_refl, eqL_refl eqCabin_refl]
end SX
end Go.Proofs.YthnbaikmbgaddaaGreat
