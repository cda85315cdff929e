/- What the laws do with a house: copy it, mark it, compare it, weigh it; in plain Lean. It imports no program. -/
import Derived.Test.YtgbfemglimebdaaGreatDoorMdlq
namespace Go.Proofs.YtgbfemglimebdaaGreatDoor
namespace SX
set_option linter.unusedVariables false
set_option linter.unusedSimpArgs false
open Go Go.RowKit
/-! ### Elements that hold slices -/
theorem nestRepN {α : Type} {e e' : TypeId} {L : Lay α} {a : Option Addr} {n c : Nat} {x : List α} : ∀ w fps, holds w [slA e L (.slice a n c) x] fps → (sl e L).rep true w [.slice a n c] x fps.flatten := by
  intro w fps h
  match fps, h with
  | [f], ⟨h1, _⟩ =>
    have hn := (SlO.lenE ⟨f, h1⟩).1
    subst hn
    exact ⟨a, c, rfl, by simp only [if_true, List.flatten_cons, List.flatten_nil, List.append_nil]; exact h1⟩
theorem cabinRepN {e1 e2 e3 : TypeId} {c : Cabin} {a1 a2 : Option Addr} {n1 n2 c1 c2 : Nat} : ∀ w fps, holds w [slA e1 entryL (.slice a1 n1 c1) c.row, slA e2 (sl e3 pinL) (.slice a2 n2 c2) c.wheel.spoke] fps →
    (cabinLx e1 e2 e3).rep true w [vi c.seats.total, vi c.seats.free, vi c.seats.held, vi c.seats.sold, vi c.seats.tied, .slice a1 n1 c1, .slice a2 n2 c2] c fps.flatten := by
  intro w fps h
  match fps, h with
  | [f1, f2], ⟨h1, h2, _⟩ =>
    have hn1 := (SlO.lenE ⟨f1, h1⟩).1
    have hn2 := (SlO.lenE ⟨f2, h2⟩).1
    subst hn1; subst hn2
    exact cabinRep w [f1, f2] ⟨h1, h2, trivial⟩
theorem cabinHun {e1 e2 e3 : TypeId} {x : Cabin} : ∀ w cs f, (cabinLx e1 e2 e3).rep true w cs x f → ∃ (i : HH × HH) (fps : List (List Nat)), cs = [vi x.seats.total, vi x.seats.free, vi x.seats.held, vi x.seats.sold, vi x.seats.tied, .slice i.1.1 x.row.length i.1.2, .slice i.2.1 x.wheel.spoke.length i.2.2] ∧
    holds w [slA e1 entryL (.slice i.1.1 x.row.length i.1.2) x.row, slA e2 (sl e3 pinL) (.slice i.2.1 x.wheel.spoke.length i.2.2) x.wheel.spoke] fps ∧ fps.flatten = f := by
  rintro w cs f ⟨d1, d2, f1, f2, rfl, rfl, ⟨rfl, rfl⟩, d3, d4, f3, f4, rfl, rfl, ⟨a1, c1, rfl, h1⟩, ⟨a2, c2, rfl, h2⟩⟩
  simp only [if_true] at h1 h2
  exact ⟨((a1, c1), (a2, c2)), [f3, f4], rfl, ⟨h1, h2, trivial⟩, by simp⟩
theorem cabinZ {e1 e2 e3 : TypeId} (w : World) : (cabinLx e1 e2 e3).rep true w [vi 0, vi 0, vi 0, vi 0, vi 0, .slice none 0 0, .slice none 0 0] ⟨⟨0, 0, 0, 0, 0⟩, [], ⟨[]⟩⟩ [] :=
  ⟨[vi 0, vi 0, vi 0, vi 0, vi 0], [.slice none 0 0, .slice none 0 0], [], [], rfl, rfl, ⟨rfl, rfl⟩, [.slice none 0 0], [.slice none 0 0], [], [], rfl, rfl, slZ e1 entryL w, slZ e2 (sl e3 pinL) w⟩
theorem cabinRepF {e1 e2 e3 : TypeId} {w : World} {c : Cabin} {a1 a2 : Option Addr} {c1 c2 : Nat} {f1 f2 : List Nat} (h1 : SlR entryL w a1 c.row f1) (h2 : SlR (sl e3 pinL) w a2 c.wheel.spoke f2) (p1 : c.row.length ≤ c1) (p2 : c.wheel.spoke.length ≤ c2) :
    (cabinLx e1 e2 e3).rep false w [vi c.seats.total, vi c.seats.free, vi c.seats.held, vi c.seats.sold, vi c.seats.tied, .slice a1 c.row.length c1, .slice a2 c.wheel.spoke.length c2] c (f1 ++ f2) :=
  ⟨[vi c.seats.total, vi c.seats.free, vi c.seats.held, vi c.seats.sold, vi c.seats.tied], [.slice a1 c.row.length c1, .slice a2 c.wheel.spoke.length c2], [], f1 ++ f2, rfl, by simp, ⟨rfl, rfl⟩, [.slice a1 c.row.length c1], [.slice a2 c.wheel.spoke.length c2], f1, f2, rfl, rfl, ⟨a1, c1, rfl, by simp only [Bool.false_eq_true, if_false]; exact ⟨p1, h1⟩⟩, ⟨a2, c2, rfl, by simp only [Bool.false_eq_true, if_false]; exact ⟨p2, h2⟩⟩⟩
theorem set_mid {α : Type} {done : List α} {x y : α} {ys : List α} {k : Nat} (h : done.length = k) : (done ++ x :: ys).set k y = (done ++ [y]) ++ ys := by
  subst h
  rw [List.set_append_right _ _ (Nat.le_refl _), Nat.sub_self]
  simp
/-! ### Marks -/
def markL {α : Type} (m : α → Int → α × Int) : List α → Int → List α × Int
  | [], k => ([], k)
  | x :: xs, k => ((m x k).1 :: (markL m xs (m x k).2).1, (markL m xs (m x k).2).2)
theorem markL_len {α : Type} (m : α → Int → α × Int) : ∀ (xs : List α) (k : Int), (markL m xs k).1.length = xs.length
  | [], k => rfl
  | x :: xs, k => by simp [markL, markL_len m xs]
def sumL {α : Type} (c : α → Nat) : List α → Nat
  | [] => 0
  | x :: xs => c x + sumL c xs
theorem sumL_le {α : Type} (c : α → Nat) (b : Nat) : ∀ (xs : List α), (∀ x ∈ xs, c x ≤ b) → sumL c xs ≤ b * xs.length
  | [], _ => by simp [sumL]
  | x :: xs, h => by
    have h1 := h x (by simp)
    have h2 := sumL_le c b xs fun y hy => h y (by simp [hy])
    simp only [sumL, List.length_cons, Nat.mul_add, Nat.mul_one]
    omega
theorem sumL_const {α : Type} (b : Nat) : ∀ (xs : List α), sumL (fun _ => b) xs = b * xs.length
  | [] => by simp [sumL]
  | x :: xs => by simp only [sumL, sumL_const b xs, List.length_cons, Nat.mul_add]; omega
theorem markL_end {α : Type} {m : α → Int → α × Int} {c : α → Nat} (hm : ∀ (x : α) (k : Int), 0 ≤ k → k + c x ≤ 4611686018427387904 → (m x k).2 = k + c x) : ∀ (xs : List α) (k : Int), 0 ≤ k → k + sumL c xs ≤ 4611686018427387904 → (markL m xs k).2 = k + sumL c xs
  | [], k, _, _ => by simp [markL, sumL]
  | x :: xs, k, h0, hl => by
    simp only [sumL] at hl ⊢
    simp only [markL]
    have h1 := hm x k h0 (by omega)
    rw [h1, markL_end hm xs (k + c x) (by omega) (by omega)]
    omega
abbrev nx (k : Int) : Int := wr (k + 1)
theorem nx_of {k : Int} (h0 : 0 ≤ k) (h1 : k + 1 ≤ 4611686018427387904) : nx k = k + 1 := wr_of (by omega) (by omega)
def markI (_ : Int) (k : Int) : Int × Int := (k, nx k)
def markEntry (_ : Entry) (k : Int) : Entry × Int := (⟨k, nx k, nx (nx k), nx (nx (nx k))⟩, nx (nx (nx (nx k))))
def markPin (_ : Pin) (k : Int) : Pin × Int := (⟨k, nx k⟩, nx (nx k))
def nx5 (k : Int) : Int := nx (nx (nx (nx (nx k))))
def markParty (_ : Party) (k : Int) : Party × Int :=
  (⟨k, nx k, nx (nx k), nx (nx (nx k)), nx (nx (nx (nx k))), nx (nx (nx (nx (nx k)))), nx (nx (nx (nx (nx (nx k))))), nx (nx (nx (nx (nx (nx (nx k)))))), nx (nx (nx (nx (nx (nx (nx (nx k))))))), nx (nx (nx (nx (nx (nx (nx (nx (nx k))))))))⟩, nx (nx (nx (nx (nx (nx (nx (nx (nx (nx k))))))))))
def markCabin (c : Cabin) (k : Int) : Cabin × Int :=
  let k5 := nx (nx (nx (nx (nx k))))
  let r := markL markEntry c.row k5
  let s := markL (markL markPin) c.wheel.spoke r.2
  (⟨⟨k, nx k, nx (nx k), nx (nx (nx k)), nx (nx (nx (nx k)))⟩, r.1, ⟨s.1⟩⟩, s.2)
def markHouse (h : House) (k : Int) : House × Int :=
  let r := markL markI h.rules.seats k
  let p := markL markParty h.parties r.2
  let c := markL markCabin h.cabins p.2
  let t := markL markI h.todo c.2
  let j := markL markI h.jobs t.2
  ({ h with rules := { h.rules with seats := r.1 }, parties := p.1, cabins := c.1, todo := t.1, jobs := j.1 }, j.2)
def heldI : List Int → Int → Int
  | [], k => k
  | x :: xs, k => if x != k then -1 else heldI xs (nx k)
theorem heldI_mark : ∀ (xs : List Int) (k : Int), heldI (markL markI xs k).1 k = (markL markI xs k).2
  | [], k => rfl
  | x :: xs, k => by simp [markL, heldI, markI, heldI_mark xs]
theorem markI_end (x k : Int) (h0 : 0 ≤ k) (h1 : k + (1 : Nat) ≤ 4611686018427387904) : (markI x k).2 = k + (1 : Nat) := by simp only [markI]; rw [nx_of h0 (by omega)]; rfl
theorem markPin_end (x : Pin) (k : Int) (h0 : 0 ≤ k) (h1 : k + (2 : Nat) ≤ 4611686018427387904) : (markPin x k).2 = k + (2 : Nat) := by
  simp only [markPin]
  have e0 : nx k = k + 1 := by rw [nx_of (by omega) (by omega)]
  have e1 : nx (k + 1) = k + 2 := by rw [nx_of (by omega) (by omega)]; omega
  rw [e0, e1]; omega
theorem markEntry_end (x : Entry) (k : Int) (h0 : 0 ≤ k) (h1 : k + (4 : Nat) ≤ 4611686018427387904) : (markEntry x k).2 = k + (4 : Nat) := by
  simp only [markEntry]
  have e0 : nx k = k + 1 := by rw [nx_of (by omega) (by omega)]
  have e1 : nx (k + 1) = k + 2 := by rw [nx_of (by omega) (by omega)]; omega
  have e2 : nx (k + 2) = k + 3 := by rw [nx_of (by omega) (by omega)]; omega
  have e3 : nx (k + 3) = k + 4 := by rw [nx_of (by omega) (by omega)]; omega
  rw [e0, e1, e2, e3]; omega
theorem markParty_end (x : Party) (k : Int) (h0 : 0 ≤ k) (h1 : k + (10 : Nat) ≤ 4611686018427387904) : (markParty x k).2 = k + (10 : Nat) := by
  simp only [markParty]
  have e0 : nx k = k + 1 := by rw [nx_of (by omega) (by omega)]
  have e1 : nx (k + 1) = k + 2 := by rw [nx_of (by omega) (by omega)]; omega
  have e2 : nx (k + 2) = k + 3 := by rw [nx_of (by omega) (by omega)]; omega
  have e3 : nx (k + 3) = k + 4 := by rw [nx_of (by omega) (by omega)]; omega
  have e4 : nx (k + 4) = k + 5 := by rw [nx_of (by omega) (by omega)]; omega
  have e5 : nx (k + 5) = k + 6 := by rw [nx_of (by omega) (by omega)]; omega
  have e6 : nx (k + 6) = k + 7 := by rw [nx_of (by omega) (by omega)]; omega
  have e7 : nx (k + 7) = k + 8 := by rw [nx_of (by omega) (by omega)]; omega
  have e8 : nx (k + 8) = k + 9 := by rw [nx_of (by omega) (by omega)]; omega
  have e9 : nx (k + 9) = k + 10 := by rw [nx_of (by omega) (by omega)]; omega
  rw [e0, e1, e2, e3, e4, e5, e6, e7, e8, e9]; omega
def cabinCnt (c : Cabin) : Nat := 5 + (sumL (fun _ => 4) c.row + sumL (fun l => sumL (fun _ => 2) l) c.wheel.spoke)
theorem markCabin_end (c : Cabin) (k : Int) (h0 : 0 ≤ k) (h1 : k + (cabinCnt c : Nat) ≤ 4611686018427387904) : (markCabin c k).2 = k + (cabinCnt c : Nat) := by
  simp only [cabinCnt] at h1 ⊢
  have e5 : nx (nx (nx (nx (nx k)))) = k + 5 := by
    have e0 : nx k = k + 1 := by rw [nx_of (by omega) (by omega)]
    have e1 : nx (k + 1) = k + 2 := by rw [nx_of (by omega) (by omega)]; omega
    have e2 : nx (k + 2) = k + 3 := by rw [nx_of (by omega) (by omega)]; omega
    have e3 : nx (k + 3) = k + 4 := by rw [nx_of (by omega) (by omega)]; omega
    have e4 : nx (k + 4) = k + 5 := by rw [nx_of (by omega) (by omega)]; omega
    rw [e0, e1, e2, e3, e4]
  simp only [markCabin, e5]
  rw [markL_end (c := fun l => sumL (fun _ => 2) l) (fun l k h0 h1 => markL_end markPin_end l k h0 h1), markL_end markEntry_end _ _ (by omega) (by omega)]
  · omega
  · rw [markL_end markEntry_end _ _ (by omega) (by omega)]; omega
  · rw [markL_end markEntry_end _ _ (by omega) (by omega)]; omega
/-! ### Sizes -/
def CabinSz (c : Cabin) : Prop := c.row.length ≤ 1048576 ∧ c.wheel.spoke.length ≤ 1048576 ∧ c.wheel.spoke.flatten.length ≤ 1048576
def HouseSz (h : House) : Prop := h.rules.seats.length ≤ 1048576 ∧ h.parties.length ≤ 1048576 ∧ h.cabins.length ≤ 1048576 ∧ h.todo.length ≤ 1048576 ∧ h.jobs.length ≤ 1048576 ∧ ∀ c ∈ h.cabins, CabinSz c
theorem spoke_cnt : ∀ (xss : List (List Pin)), sumL (fun l => sumL (fun _ => 2) l) xss = 2 * xss.flatten.length
  | [] => rfl
  | x :: xs => by
    have h1 := spoke_cnt xs
    have h2 := sumL_const 2 x
    simp only [sumL, h1, h2, List.flatten_cons, List.length_append]; omega
theorem cabinCnt_le {c : Cabin} (h : CabinSz c) : cabinCnt c ≤ 6291461 := by
  obtain ⟨h1, h2, h3⟩ := h
  have h4 := spoke_cnt c.wheel.spoke
  have h5 := sumL_const 4 c.row
  simp only [cabinCnt, h4, h5]; omega
theorem markHouse_nn (h : House) (hs : HouseSz h) : 0 ≤ (markHouse h 1).2 := by
  obtain ⟨h1, h2, h3, h4, h5, h6⟩ := hs
  have hc := sumL_le cabinCnt 6291461 h.cabins fun c hc => cabinCnt_le (h6 c hc)
  have hc2 : sumL cabinCnt h.cabins ≤ 6291461 * 1048576 := Nat.le_trans hc (Nat.mul_le_mul_left _ h3)
  have e1 := markL_end markI_end h.rules.seats 1 (by omega) (by rw [sumL_const]; omega)
  rw [sumL_const] at e1
  have e2 := markL_end markParty_end h.parties _ (show (0 : Int) ≤ 1 + (1 * h.rules.seats.length : Nat) by omega) (by rw [sumL_const]; omega)
  rw [sumL_const] at e2
  have e3 := markL_end markCabin_end h.cabins _ (show (0 : Int) ≤ 1 + (1 * h.rules.seats.length : Nat) + (10 * h.parties.length : Nat) by omega) (by omega)
  have e4 := markL_end markI_end h.todo _ (show (0 : Int) ≤ 1 + (1 * h.rules.seats.length : Nat) + (10 * h.parties.length : Nat) + (sumL cabinCnt h.cabins : Nat) by omega) (by rw [sumL_const]; omega)
  rw [sumL_const] at e4
  have e5 := markL_end markI_end h.jobs _ (show (0 : Int) ≤ 1 + (1 * h.rules.seats.length : Nat) + (10 * h.parties.length : Nat) + (sumL cabinCnt h.cabins : Nat) + (1 * h.todo.length : Nat) by omega) (by rw [sumL_const]; omega)
  simp only [markHouse]
  rw [e1, e2, e3, e4, e5, sumL_const]
  omega
/-! ### Comparing -/
def eqL {α : Type} (f : α → α → Bool) : List α → List α → Bool
  | [], [] => true
  | a :: as, b :: bs => f a b && eqL f as bs
  | _, _ => false
theorem eqL_refl {α : Type} {f : α → α → Bool} (h : ∀ a, f a a = true) : ∀ l, eqL f l l = true
  | [] => rfl
  | a :: as => by simp [eqL, h a, eqL_refl h as]
theorem eqL_ne {α : Type} {f : α → α → Bool} : ∀ {a b : List α}, a.length ≠ b.length → eqL f a b = false
  | [], [], h => absurd rfl h
  | [], _ :: _, _ => rfl
  | _ :: _, [], _ => rfl
  | x :: a, y :: b, h => by
    simp only [eqL, eqL_ne (f := f) (a := a) (b := b) (by simpa using h), Bool.and_false]
def eqParty (a b : Party) : Bool := a.id == b.id && a.cabin == b.cabin && a.from' == b.from' && a.size == b.size && a.tier == b.tier && a.since == b.since && a.turn == b.turn && a.state == b.state && a.until' == b.until' && a.asked == b.asked
def eqEntry (a b : Entry) : Bool := a.level == b.level && a.turn == b.turn && a.id == b.id && a.size == b.size
def eqPin (a b : Pin) : Bool := a.at' == b.at' && a.id == b.id
def eqLedger (a b : Ledger) : Bool := a.total == b.total && a.free == b.free && a.held == b.held && a.sold == b.sold && a.tied == b.tied
def eqCabin (a b : Cabin) : Bool := eqLedger a.seats b.seats && eqL eqEntry a.row b.row && eqL (eqL eqPin) a.wheel.spoke b.wheel.spoke
def eqHouse (a b : House) : Bool := eqRules a.rules b.rules && a.now == b.now && a.turn == b.turn && eqL eqParty a.parties b.parties && eqL eqCabin a.cabins b.cabins && eqInts a.todo b.todo && eqInts a.jobs b.jobs
theorem eqParty_refl (a : Party) : eqParty a a = true := by simp [eqParty]
theorem eqEntry_refl (a : Entry) : eqEntry a a = true := by simp [eqEntry]
theorem eqPin_refl (a : Pin) : eqPin a a = true := by simp [eqPin]
theorem eqCabin_refl (a : Cabin) : eqCabin a a = true := by simp [eqCabin, eqLedger, eqL_refl eqEntry_refl, eqL_refl (eqL_refl eqPin_refl)]
theorem eqHouse_refl (a : House) : eqHouse a a = true := by simp [eqHouse, eqRules_refl, eqInts_refl, eqL_refl eqParty_refl, eqL_refl eqCabin_refl]
theorem linked_len (h : House) (cabin : Int) (hs : HouseSz h) : (linked h cabin).length ≤ 1048576 := by
  unfold linked
  split
  · exact Nat.le_trans (linkGo_len h cabin _) hs.2.2.1
  · simp
theorem markI_nn {l : List Int} (h : l.length ≤ 1048576) : 0 ≤ (markL markI l 1).2 := by
  rw [markL_end markI_end l 1 (by omega) (by rw [sumL_const]; omega)]; omega
end SX
end Go.Proofs.YtgbfemglimebdaaGreatDoor
