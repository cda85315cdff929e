/- Texts of this claim, put together by program. -/
import Derived.Test.YthnbaikmbgaddaaGreatSx4
import Derived.Maps.AppendAt
import Derived.Laws.OwnMore
import Derived.Deep.AppendSrc
/- How data lie in memory: layouts; slices that are read, slices that are owned; the rules that index, load, make, build, append. It imports no program. -/
namespace Go.Proofs.YthnbaikmbgaddaaGreat
namespace SX
set_option linter.unusedVariables false
set_option linter.unusedSimpArgs false
open Go Go.RowKit

structure Lay (α : Type) where
  sz : Nat
  rep : Bool → World → List Value → α → List Nat → Prop
  len : ∀ {m w cs x f}, rep m w cs x f → cs.length = sz
  one : ∀ {m w cs x f}, rep m w cs x f → ∀ u ∈ cs, isCell u = true
  st : ∀ {m w w' cs x f}, rep m w cs x f → (∀ b ∈ f, w'.heap[b]? = w.heap[b]?) → rep m w' cs x f
  lt : ∀ {m w cs x f}, rep m w cs x f → ∀ b ∈ f, b < w.heap.size
  rd : ∀ {w cs x f}, rep true w cs x f → ∃ f', (∀ b ∈ f', b ∈ f) ∧ rep false w cs x f'

/-- data that hold no address -/
def flat {α : Type} (sz : Nat) (enc : α → List Value) (h : ∀ x, (enc x).length = sz ∧ ∀ u ∈ enc x, isCell u = true) : Lay α where
  sz := sz
  rep := fun _ _ cs x f => cs = enc x ∧ f = []
  len := by rintro m w cs x f ⟨rfl, _⟩; exact (h x).1
  one := by rintro m w cs x f ⟨rfl, _⟩; exact (h x).2
  st := fun h _ => h
  lt := by rintro m w cs x f ⟨_, rfl⟩ b hb; cases hb
  rd := fun h => ⟨_, fun _ hb => hb, h⟩

def cellsRep {α : Type} (L : Lay α) (m : Bool) (w : World) : List Value → List α → List Nat → Prop
  | cells, [], f => cells = [] ∧ f = []
  | cells, x :: xs, f => ∃ cs rest f1 f2, cells = cs ++ rest ∧ f = f1 ++ f2 ∧ L.rep m w cs x f1 ∧ cellsRep L m w rest xs f2

section cells
variable {α : Type} {L : Lay α} {m : Bool} {w w' : World}
theorem cellsRep.len : ∀ {xs : List α} {cells f}, cellsRep L m w cells xs f → cells.length = xs.length * L.sz
  | [], cells, f, h => by simp [cellsRep] at h; simp [h.1]
  | x :: xs, cells, f, ⟨cs, rest, f1, f2, h1, h2, h3, h4⟩ => by
    subst h1; rw [List.length_append, L.len h3, cellsRep.len h4, List.length_cons, Nat.add_mul, Nat.one_mul, Nat.add_comm]
theorem cellsRep.one : ∀ {xs : List α} {cells f}, cellsRep L m w cells xs f → ∀ u ∈ cells, isCell u = true
  | [], cells, f, h, u, hu => by simp [cellsRep] at h; rw [h.1] at hu; cases hu
  | x :: xs, cells, f, ⟨cs, rest, f1, f2, h1, h2, h3, h4⟩, u, hu => by
    subst h1
    rcases List.mem_append.1 hu with h | h
    · exact L.one h3 u h
    · exact cellsRep.one h4 u h
theorem cellsRep.st : ∀ {xs : List α} {cells f}, cellsRep L m w cells xs f → (∀ b ∈ f, w'.heap[b]? = w.heap[b]?) → cellsRep L m w' cells xs f
  | [], _, _, h, _ => h
  | x :: xs, cells, f, ⟨cs, rest, f1, f2, h1, h2, h3, h4⟩, hb => by
    subst h2
    exact ⟨cs, rest, f1, f2, h1, rfl, L.st h3 fun b hm => hb b (List.mem_append.2 (.inl hm)), h4.st fun b hm => hb b (List.mem_append.2 (.inr hm))⟩
theorem cellsRep.lt : ∀ {xs : List α} {cells f}, cellsRep L m w cells xs f → ∀ b ∈ f, b < w.heap.size
  | [], cells, f, h, b, hb => by simp [cellsRep] at h; rw [h.2] at hb; cases hb
  | x :: xs, cells, f, ⟨cs, rest, f1, f2, h1, h2, h3, h4⟩, b, hb => by
    subst h2
    rcases List.mem_append.1 hb with h | h
    · exact L.lt h3 b h
    · exact h4.lt b h
theorem cellsRep.rd : ∀ {xs : List α} {cells f}, cellsRep L true w cells xs f → ∃ f', (∀ b ∈ f', b ∈ f) ∧ cellsRep L false w cells xs f'
  | [], cells, f, h => ⟨f, fun _ hb => hb, h⟩
  | x :: xs, cells, f, ⟨cs, rest, f1, f2, h1, h2, h3, h4⟩ => by
    obtain ⟨g1, hg1, h3'⟩ := L.rd h3
    obtain ⟨g2, hg2, h4'⟩ := cellsRep.rd h4
    subst h2
    refine ⟨g1 ++ g2, fun b hb => ?_, cs, rest, g1, g2, h1, rfl, h3', h4'⟩
    rcases List.mem_append.1 hb with h | h
    · exact List.mem_append.2 (.inl (hg1 b h))
    · exact List.mem_append.2 (.inr (hg2 b h))
theorem cellsRep.append : ∀ {xs ys : List α} {c d f g}, cellsRep L m w c xs f → cellsRep L m w d ys g → cellsRep L m w (c ++ d) (xs ++ ys) (f ++ g)
  | [], ys, c, d, f, g, h, k => by simp [cellsRep] at h; simpa [h.1, h.2] using k
  | x :: xs, ys, c, d, f, g, ⟨cs, rest, f1, f2, h1, h2, h3, h4⟩, k => by
    subst h1; subst h2
    exact ⟨cs, rest ++ d, f1, f2 ++ g, by simp, by simp, h3, h4.append k⟩
/-- the k-th -/
theorem cellsRep.at_ : ∀ {xs : List α} {cells f} (k : Nat) {x : α}, cellsRep L m w cells xs f → xs[k]? = some x →
    ∃ cs g, L.rep m w cs x g ∧ (∀ b ∈ g, b ∈ f) ∧ ∀ j, j < L.sz → cells[k * L.sz + j]? = cs[j]?
  | [], _, _, _, _, _, hk => by simp at hk
  | y :: xs, cells, f, 0, x, ⟨cs, rest, f1, f2, h1, h2, h3, h4⟩, hk => by
    simp at hk; subst hk; subst h1; subst h2
    refine ⟨cs, f1, h3, fun b hb => List.mem_append.2 (.inl hb), fun j hj => ?_⟩
    rw [Nat.zero_mul, Nat.zero_add, List.getElem?_append_left (by rw [L.len h3]; exact hj)]
  | y :: xs, cells, f, k + 1, x, ⟨cs, rest, f1, f2, h1, h2, h3, h4⟩, hk => by
    subst h1; subst h2
    obtain ⟨cs', g, hr, hg, hc⟩ := h4.at_ k (by simpa using hk)
    refine ⟨cs', g, hr, fun b hb => List.mem_append.2 (.inr (hg b hb)), fun j hj => ?_⟩
    rw [← hc j hj, List.getElem?_append_right (by rw [L.len h3, Nat.add_mul]; omega)]
    congr 1
    rw [L.len h3, Nat.add_mul]; omega
end cells

theorem cellsRep_flat {α : Type} {sz : Nat} {enc : α → List Value} {h : ∀ x, (enc x).length = sz ∧ ∀ u ∈ enc x, isCell u = true} {m : Bool} {w : World} : ∀ (xs : List α), cellsRep (flat sz enc h) m w (xs.flatMap enc) xs []
  | [] => ⟨rfl, rfl⟩
  | x :: xs => ⟨enc x, xs.flatMap enc, [], [], by simp, rfl, ⟨rfl, rfl⟩, cellsRep_flat xs⟩

/-! ### Rows that are owned: nothing within the row is frozen -/
def ownsR (w : World) (e : TypeId) (size : Nat) (v : Value) (n : Nat) (xs : List Value) : Prop :=
  xs.length = n * size ∧ ((v = .slice none 0 0 ∧ n = 0) ∨
    ∃ g cap cur fz, v = .slice (some ⟨g, 0, none⟩) n cap ∧ w.heap[g]? = some (.cells cur e fz) ∧ (fz.2 ≤ fz.1 ∨ cur.size ≤ fz.1) ∧ n ≤ cap ∧ cap ≤ maxLen ∧ cur.size = cap * size ∧ cur.toList.take (n * size) = xs)
section
variable {w w' : World} {e : TypeId} {size : Nat} {v : Value} {n : Nat} {xs : List Value}
theorem ownsR.of (h : w.ownsRow 0 e size v n xs) : ownsR w e size v n xs := by
  refine ⟨h.1, ?_⟩
  rcases h.2 with hn | ⟨g, cap, cur, hv, _, hg, rest⟩
  · exact .inl hn
  · exact .inr ⟨g, cap, cur, (0, 0), hv, hg, .inl (Nat.le_refl _), rest⟩
theorem ownsR_nil (w : World) (e : TypeId) (size : Nat) : ownsR w e size (.slice none 0 0) 0 [] := ⟨by simp, .inl ⟨rfl, rfl⟩⟩
theorem ownsR.lt (h : ownsR w e size v n xs) : ∀ k, v.ownBlock = some k → k < w.heap.size := by
  intro k hk
  rcases h.2 with ⟨rfl, _⟩ | ⟨g, cap, cur, fz, rfl, hg, _⟩
  · simp [Value.ownBlock] at hk
  · simp [Value.ownBlock] at hk
    subst hk
    exact (Array.getElem?_eq_some_iff.1 hg).1
theorem ownsR.cells (h : ownsR w e size v n xs) {g : Nat} (hg : v.ownBlock = some g) : ∀ j u, xs[j]? = some u → w.cell? ((⟨g, 0, none⟩ : Addr).add j) = some u := by
  intro j u hu
  rcases h.2 with ⟨rfl, _⟩ | ⟨g', cap, cur, fz, rfl, hgg, _, _, _, _, htake⟩
  · simp [Value.ownBlock] at hg
  · simp [Value.ownBlock] at hg
    subst hg
    rw [add_lit, Nat.zero_add, cell_of_row w g' j cur e fz hgg]
    rw [← htake, List.getElem?_take] at hu
    split at hu
    · simpa using hu
    · cases hu
theorem ownsR.cellAt {g cap : Nat} (h : ownsR w e size (.slice (some ⟨g, 0, none⟩) n cap) n xs) (j : Nat) (hj : j < n * size) : w.cell? ⟨g, j, none⟩ = xs[j]? := by
  have hl : j < xs.length := by rw [h.1]; exact hj
  have := h.cells (g := g) rfl j xs[j] (List.getElem?_eq_getElem hl)
  rw [add_lit, Nat.zero_add] at this
  rw [this, List.getElem?_eq_getElem hl]
theorem ownsR.frozenAt {g cap : Nat} (h : ownsR w e size (.slice (some ⟨g, 0, none⟩) n cap) n xs) (j : Nat) (hj : j < n * size) : w.frozen? ⟨g, j, none⟩ = false := by
  rcases h.2 with ⟨h', _⟩ | ⟨g', cap', cur, fz, h', hg, hfz, hnc, _, hcs, _⟩
  · simp at h'
  · simp only [Value.slice.injEq, Option.some.injEq, Addr.mk.injEq, and_true, true_and] at h'
    obtain ⟨rfl, rfl⟩ := h'
    obtain ⟨lo, hi⟩ := fz
    have : n * size ≤ cap * size := Nat.mul_le_mul_right _ hnc
    simp only [World.frozen?, hg, Bool.and_eq_false_iff, decide_eq_false_iff_not]
    simp only at hfz
    omega
theorem ownsR.stored {g cap : Nat} (h : ownsR w e size (.slice (some ⟨g, 0, none⟩) n cap) n xs) (j : Nat) (u : Value) :
    ownsR (w.setCell ⟨g, j, none⟩ u) e size (.slice (some ⟨g, 0, none⟩) n cap) n (xs.set j u) ∧ w.grownBy (w.setCell ⟨g, j, none⟩ u) (some g) := by
  rcases h.2 with ⟨h', _⟩ | ⟨g', cap', cur, fz, h', hg, hfz, hnc, hcm, hcs, htake⟩
  · simp at h'
  · simp only [Value.slice.injEq, Option.some.injEq, Addr.mk.injEq, and_true, true_and] at h'
    obtain ⟨rfl, rfl⟩ := h'
    refine ⟨⟨by simpa using h.1, .inr ⟨g, cap, cur.setIfInBounds j u, fz, rfl, ?_, by simpa using hfz, hnc, hcm, by simpa using hcs, ?_⟩⟩,
      ⟨rfl, rfl, rfl, by simp, fun k _ hk => heap_setCell_other w ⟨g, j, none⟩ k u (fun e => hk (by simp [e]))⟩⟩
    · simp only [World.setCell, Array.getElem?_modify, hg, if_true, Option.map_some]; rfl
    · rw [Array.toList_setIfInBounds, ← htake, List.take_set]
theorem ownsR.st (h : ownsR w e size v n xs) (hb : ∀ b ∈ v.ownBlock, w'.heap[b]? = w.heap[b]?) : ownsR w' e size v n xs := by
  refine ⟨h.1, ?_⟩
  rcases h.2 with h | ⟨b, cap, cur, fz, rfl, hh2, hh3⟩
  · exact .inl h
  · exact .inr ⟨b, cap, cur, fz, rfl, (hb b (by simp [Value.ownBlock])).trans hh2, hh3⟩
/-- all of the row -/
theorem ownsR.all {g cap : Nat} (h : ownsR w e size (.slice (some ⟨g, 0, none⟩) n cap) n xs) : ∃ full, ownsR w e size (.slice (some ⟨g, 0, none⟩) cap cap) cap full ∧ full.take (n * size) = xs ∧ n ≤ cap ∧ cap ≤ maxLen := by
  rcases h.2 with ⟨h', _⟩ | ⟨g', cap', cur, fz, h', hg, hfz, hnc, hcm, hcs, htake⟩
  · simp at h'
  · simp only [Value.slice.injEq, Option.some.injEq, Addr.mk.injEq, and_true, true_and] at h'
    obtain ⟨rfl, rfl⟩ := h'
    exact ⟨cur.toList, ⟨by simpa using hcs, .inr ⟨g, cap, cur, fz, rfl, hg, hfz, Nat.le_refl _, hcm, hcs, List.take_of_length_le (by rw [Array.length_toList, hcs]; exact Nat.le_refl _)⟩⟩, htake, hnc, hcm⟩
/-- a part of the row -/
theorem ownsR.part {g cap k : Nat} {full : List Value} (h : ownsR w e size (.slice (some ⟨g, 0, none⟩) cap cap) cap full) (hk : k ≤ cap) : ownsR w e size (.slice (some ⟨g, 0, none⟩) k cap) k (full.take (k * size)) := by
  rcases h.2 with ⟨h', _⟩ | ⟨g', cap', cur, fz, h', hg, hfz, hnc, hcm, hcs, htake⟩
  · simp at h'
  · simp only [Value.slice.injEq, Option.some.injEq, Addr.mk.injEq, and_true, true_and] at h'
    obtain ⟨rfl, rfl⟩ := h'
    have : k * size ≤ cap * size := Nat.mul_le_mul_right _ hk
    refine ⟨by rw [List.length_take, h.1]; omega, .inr ⟨g, cap, cur, fz, rfl, hg, hfz, hk, hcm, hcs, ?_⟩⟩
    rw [← htake, List.take_take]
    congr 1
    omega
end

/-! ### Slices that are read -/
def SlR {α : Type} (L : Lay α) (w : World) (a : Option Addr) (xs : List α) (f : List Nat) : Prop :=
  xs.length ≤ maxLen ∧ ((xs = [] ∧ f = []) ∨
    ∃ b o g cells, a = some ⟨b, o, none⟩ ∧ b < w.heap.size ∧ f = b :: g ∧ cellsRep L false w cells xs g ∧ ∀ j, j < cells.length → w.cell? ⟨b, o + j, none⟩ = cells[j]?)

/-- a slice that is owned -/
def SlO {α : Type} (e : TypeId) (L : Lay α) (w : World) (v : Value) (xs : List α) (f : List Nat) : Prop :=
  ∃ cells g, ownsR w e L.sz v xs.length cells ∧ f = v.ownBlock.toList ++ g ∧ cellsRep L true w cells xs g ∧ xs.length ≤ maxLen

section slices
variable {α : Type} {L : Lay α} {w w' : World} {a : Option Addr} {xs : List α} {f : List Nat} {e : TypeId} {v : Value}

theorem SlR.st (h : SlR L w a xs f) (hb : ∀ b ∈ f, w'.heap[b]? = w.heap[b]?) : SlR L w' a xs f := by
  obtain ⟨hl, h⟩ := h
  refine ⟨hl, ?_⟩
  rcases h with h | ⟨b, o, g, cells, h1, h2, h3, h4, h5⟩
  · exact .inl h
  · subst h3
    have hbb := hb b (by simp)
    refine .inr ⟨b, o, g, cells, h1, ?_, rfl, h4.st fun c hc => hb c (by simp [hc]), fun j hj => ?_⟩
    · rcases Nat.lt_or_ge b w'.heap.size with h | h
      · exact h
      · rw [Array.getElem?_eq_none h, Array.getElem?_eq_getElem h2] at hbb; cases hbb
    · rw [World.cell?_of_block (w := w) (a := ⟨b, o + j, none⟩) hbb]; exact h5 j hj
theorem SlR.lt (h : SlR L w a xs f) : ∀ b ∈ f, b < w.heap.size := by
  intro c hc
  rcases h.2 with ⟨_, rfl⟩ | ⟨b, o, g, cells, h1, h2, rfl, h4, h5⟩
  · cases hc
  · rcases List.mem_cons.1 hc with rfl | hc
    · exact h2
    · exact h4.lt c hc
theorem SlR.isS (h : SlR L w a xs f) (hn : 0 < xs.length) : a.isSome = true := by
  rcases h.2 with ⟨rfl, _⟩ | ⟨b, o, g, cells, h1, _⟩
  · simp at hn
  · simp [h1]

/-- the cells of an element -/
def ElemAt (w : World) (a : Option Addr) (c : Nat) (cs : List Value) : Prop := ∀ j, j < cs.length → w.cell? ((addrOf a).add (c + j)) = cs[j]?

theorem SlR.elem (h : SlR L w a xs f) {k : Nat} {x : α} (hk : xs[k]? = some x) : ∃ cs g, L.rep false w cs x g ∧ ElemAt w a (k * L.sz) cs ∧ (∀ b ∈ g, b ∈ f) ∧ (∀ b, a.map (·.block) = some b → b ∈ f) := by
  rcases h.2 with ⟨rfl, _⟩ | ⟨b, o, g, cells, h1, h2, rfl, h4, h5⟩
  · simp at hk
  · obtain ⟨cs, g', hr, hg, hc⟩ := h4.at_ k hk
    refine ⟨cs, g', hr, fun j hj => ?_, fun b hb => by simp [hg b hb], fun b' hb' => by simp [h1] at hb'; simp [hb']⟩
    have hsz := L.len hr
    have hlt : k * L.sz + j < cells.length := by
      rcases Nat.lt_or_ge (k * L.sz + j) cells.length with h | h
      · exact h
      · have := hc j (by omega)
        rw [List.getElem?_eq_none h, List.getElem?_eq_getElem hj] at this; cases this
    rw [← hc j (by omega), ← h5 _ hlt, h1]
    simp [addrOf, add_lit]

theorem SlO.st (h : SlO e L w v xs f) (hb : ∀ b ∈ f, w'.heap[b]? = w.heap[b]?) : SlO e L w' v xs f := by
  obtain ⟨cells, g, h1, rfl, h3, h4⟩ := h
  exact ⟨cells, g, h1.st (fun b hm => hb b (List.mem_append.2 (.inl (by simpa using hm)))), rfl, h3.st fun b hm => hb b (List.mem_append.2 (.inr hm)), h4⟩
theorem SlO.lt (h : SlO e L w v xs f) : ∀ b ∈ f, b < w.heap.size := by
  obtain ⟨cells, g, h1, rfl, h3, h4⟩ := h
  intro b hb
  rcases List.mem_append.1 hb with hb | hb
  · exact h1.lt b (by simpa using hb)
  · exact h3.lt b hb
/-- what is owned can be read -/
theorem SlO.rd (h : SlO e L w v xs f) : ∃ a cap f', v = .slice a xs.length cap ∧ (∀ b ∈ f', b ∈ f) ∧ SlR L w a xs f' := by
  obtain ⟨cells, g, h1, rfl, h3, h4⟩ := h
  obtain ⟨g', hg, h3'⟩ := h3.rd
  rcases h1.2 with ⟨rfl, h0⟩ | ⟨b, cap, cur, fz, rfl, hh2, hh3⟩
  · exact ⟨none, 0, [], by rw [h0], by simp, h4, .inl ⟨List.eq_nil_of_length_eq_zero h0, rfl⟩⟩
  · refine ⟨_, cap, b :: g', rfl, ?_, h4, .inr ⟨b, 0, g', cells, rfl, h1.lt b rfl, rfl, h3', fun j hj => ?_⟩⟩
    · intro c hc
      rcases List.mem_cons.1 hc with rfl | hc
      · simp [Value.ownBlock]
      · exact List.mem_append.2 (.inr (hg c hc))
    · have := h1.cells (g := b) rfl j cells[j] (List.getElem?_eq_getElem hj)
      rw [add_lit] at this
      rw [this, List.getElem?_eq_getElem hj]
end slices

/-- the assertion -/
def slA {α : Type} (e : TypeId) (L : Lay α) (v : Value) (xs : List α) : Ass := ⟨fun w f => SlO e L w v xs f, fun _ _ _ h hb => h.st hb, fun _ _ h => h.lt⟩

/-- a layout of slices -/
def sl {α : Type} (e : TypeId) (L : Lay α) : Lay (List α) where
  sz := 1
  rep := fun m w cs xs f => ∃ a cap, cs = [.slice a xs.length cap] ∧ (if m then SlO e L w (.slice a xs.length cap) xs f else (xs.length ≤ cap ∧ SlR L w a xs f))
  len := by rintro m w cs x f ⟨a, cap, rfl, _⟩; rfl
  one := by rintro m w cs x f ⟨a, cap, rfl, _⟩ u hu; simp at hu; subst hu; rfl
  st := by
    rintro m w w' cs x f ⟨a, cap, rfl, h⟩ hb
    refine ⟨a, cap, rfl, ?_⟩
    cases m
    · simp only [Bool.false_eq_true, if_false] at h ⊢
      exact ⟨h.1, SlR.st h.2 hb⟩
    · exact SlO.st (by simpa using h) hb
  lt := by
    rintro m w cs x f ⟨a, cap, rfl, h⟩
    cases m
    · simp only [Bool.false_eq_true, if_false] at h
      exact SlR.lt h.2
    · exact SlO.lt (by simpa using h)
  rd := by
    rintro w cs x f ⟨a, cap, rfl, h⟩
    simp only [if_true] at h
    obtain ⟨a', cap', f', hv, hf, hr⟩ := SlO.rd h
    injection hv with h1 h2 h3
    subst h1; subst h3
    refine ⟨f', hf, _, _, rfl, ?_⟩
    simp only [Bool.false_eq_true, if_false]
    refine ⟨?_, hr⟩
    obtain ⟨cells, g, h9, _⟩ := h
    rcases h9.2 with ⟨hv, h0⟩ | ⟨b, c', cur, fz, hv, _, _, hnc, _⟩
    · omega
    · injection hv with _ h4 h5; omega

/-! ### Steps whose run is shown by hand -/
section rules
variable {P : Program} {N : Nat} {W : World} {S0 : List Nat} {Q : Exit → Act → World → Prop} {T : Tm} {L : Bx} {C : List Ass} {ops : Array Oper}

def opAt (ops : Array Oper) (T : Tm) (i : Nat) : Option (Op × Option Nat × TypeId) :=
  match ops[i]? with
  | some o => if wants ops T o = some true then some (o.op, o.dst, o.type) else none
  | none => none

theorem opAt_ok {i : Nat} {op : Op} {d : Option Nat} {ty : TypeId} (h : opAt ops T i = some (op, d, ty)) {bs : List Nat} {a : Act} (ht : Tms N T bs a) : ∃ o, ops[i]? = some o ∧ Region.wanted o (yielded ops a.tmps) = true ∧ o.op = op ∧ o.dst = d ∧ o.type = ty := by
  unfold opAt at h
  split at h
  · rename_i o hi
    split at h
    · rename_i hw
      simp only [Option.some.injEq, Prod.mk.injEq] at h
      obtain ⟨rfl, rfl, rfl⟩ := h
      exact ⟨o, hi, wants_ok hw ht, rfl, rfl, rfl⟩
    · cases h
  · cases h

/-- a step that reads, or reckons: its run ends in v -/
theorem STEP {i : Nat} {K : Act → World → Prop} (op : Op) (d : Option Nat) (ty : TypeId) (ho : opAt ops T i = some (op, d, ty)) (hd : ∀ k, d = some k → k < N) (s : SV) (hs : ∀ j off, s = .p j off → j < L.length)
    (hrun : ∀ (a : Act) (o : Oper) (bs : List Nat) (w : World), (∀ x s, evo T x = some s → a.eval x = den bs s) → o.op = op → o.type = ty → At W S0 C w → (execOp a.eval o).run P w = .ok (.value (den bs s)) w)
    (k : G N W S0 K (putd d s T) L C) : OP P N W S0 ops Q i K T L C := by
  rintro a w ⟨bs, fps, ht, hb, hm⟩
  obtain ⟨o, hi, hw, hop, hdst, hty⟩ := opAt_ok ho ht
  refine op_step hi ?_
  rw [hw, if_pos rfl]
  unfold Oper.wp
  rw [hrun a o bs w (fun x s hx => ht.evo hx) hop hty hm.at_]
  subst hdst
  exact k _ _ ⟨bs, fps, ht.put (put_putd hd) rfl, hb.put hs (put_putd hd), hm⟩

theorem evo_of_evv {x : Operand} {v : Value} (h : evv T x = some v) : evo T x = some (.v v) := by
  unfold evv at h
  split at h
  · rename_i hx; simp at h; subst h; exact hx
  · cases h

/-- x[i], x a slice: its address -/
theorem INDEX {i : Nat} {K : Act → World → Prop} (t : TypeId) (x ix : Operand) (d : Nat) (ty : TypeId) (ho : opAt ops T i = some (.indexAddr t x ix, some d, ty)) (hd : d < N) (a : Option Addr) (n cap : Nat) (kd : IntKind) (z : Int) (e : TypeId) (sz : Nat)
    (hx : evv T x = some (.slice a n cap)) (hix : evv T ix = some (.int kd z)) (hu : P.underlying t = some (.slice e)) (hsz : (P.info? e).map (·.size) = some sz) (ha : a.isSome = true) (h0 : 0 ≤ z) (hn : z < n)
    (k : G N W S0 K ((d, .e a (z.toNat * sz) 0) :: T) L C) : OP P N W S0 ops Q i K T L C := by
  refine STEP _ _ _ ho (by rintro _ ⟨⟩; exact hd) (.e a (z.toNat * sz) 0) (by intro j off he; cases he) ?_ k
  intro ac o bs w hev hop _ _
  obtain ⟨ad, rfl⟩ := Option.isSome_iff_exists.1 ha
  obtain ⟨inf, hi, hs⟩ := Option.map_eq_some_iff.1 hsz
  have h1 : ac.eval x = .slice (some ad) n cap := hev x _ (evo_of_evv hx)
  have h2 : ac.eval ix = .int kd z := hev ix _ (evo_of_evv hix)
  simp only [execOp, hop, h1, h2, Instr.indexAt, asIntOf, Sem.run_bind, Sem.run_pure, Result.andThen_ok, run_underlying hu]
  rw [if_pos ⟨h0, hn⟩]
  simp [Sem.run_bind, run_sizeOf hi, Sem.run_pure, hs, den, addrOf]

theorem ElemAt.load {w : World} {a : Option Addr} {c off : Nat} {cs : List Value} {t : TypeId} {v : Value} (h : ElemAt w a c cs) (hv : loadOf P t cs off = some v) : (loadVar t ((addrOf a).add (c + off))).run P w = .ok v w := by
  unfold loadOf at hv
  split at hv
  · rename_i hg
    split at hv
    · rename_i i hi
      split at hv
      · rename_i hle
        simp only [Option.some.injEq] at hv
        subst hv
        refine run_loadVar_cells hg (.inl ⟨rfl, i, _, hi, by simp; omega, rfl, fun j hj => ?_⟩)
        rw [add_add, Nat.add_assoc, h (off + j) (by omega)]
        simp [List.getElem?_take, hj]
      · cases hv
    · cases hv
  · rename_i hg
    refine run_loadVar_cells hg (.inr ⟨rfl, ?_⟩)
    rw [h off (List.getElem?_eq_some_iff.1 hv).1]
    exact hv
  · cases hv

/-- a load out of an element of a slice -/
theorem LOADE {i : Nat} {K : Act → World → Prop} (t : TypeId) (x : Operand) (d : Nat) (ty : TypeId) (ho : opAt ops T i = some (.load t x, some d, ty)) (hd : d < N) (a : Option Addr) (c off : Nat) (cs : List Value) (v : Value)
    (hx : evo T x = some (.e a c off)) (he : ∀ w, At W S0 C w → ElemAt w a c cs) (hv : loadOf P t cs off = some v)
    (k : G N W S0 K ((d, .v v) :: T) L C) : OP P N W S0 ops Q i K T L C := by
  refine STEP _ _ _ ho (by rintro _ ⟨⟩; exact hd) (.v v) (by intro j off he; cases he) ?_ k
  intro ac o bs w hev hop _ hat
  have h1 : ac.eval x = .pointer (some ((addrOf a).add (c + off))) := hev x _ hx
  simp only [execOp, hop, h1, Instr.loadAt, Instr.sureAddr, Sem.run_bind, Sem.run_pure, Result.andThen_ok, (he w hat).load hv, den]

end rules

/-! ### What is known of an argument, later -/
theorem SlR.fr {α : Type} {L : Lay α} {W w : World} {a : Option Addr} {xs : List α} {f : List Nat} (h : SlR L W a xs f) (hf : Fr [] W w) : SlR L w a xs f := h.st fun b hb => hf.block b (h.lt b hb) (by simp)

theorem SlR.elemF {α : Type} {sz : Nat} {enc : α → List Value} {hh : ∀ x, (enc x).length = sz ∧ ∀ u ∈ enc x, isCell u = true} {w : World} {a : Option Addr} {xs : List α} {f : List Nat} (h : SlR (flat sz enc hh) w a xs f) {k : Nat} {x : α} (hk : xs[k]? = some x) :
    ElemAt w a (k * sz) (enc x) := by
  obtain ⟨cs, g, ⟨rfl, _⟩, h2, _⟩ := h.elem hk
  exact h2

end SX
end Go.Proofs.YthnbaikmbgaddaaGreat
/- Short names for what the printed walks say; slices that are read; facts on numbers. It imports no program. -/
namespace Go.Proofs.YthnbaikmbgaddaaGreat
namespace SX
set_option linter.unusedVariables false
set_option linter.unusedSimpArgs false
open Go Go.RowKit
abbrev I (x : Int) : SV := .v (.int .i64 x)
abbrev B (b : Bool) : SV := .v (.bool b)
abbrev vi (x : Int) : Value := .int .i64 x
abbrev wr (x : Int) : Int := IntKind.wrap .i64 x
def RV (v : Value) : Res := ⟨Unit, fun _ => v, fun _ => []⟩
def intL : Lay Int := flat 1 (fun z => [.int .i64 z]) (fun z => ⟨rfl, by simp [isCell]⟩)
def byteL : Lay UInt8 := flat 1 (fun z => [.int .u8 z.toNat]) (fun z => ⟨rfl, by simp [isCell]⟩)
def bs (s : List UInt8) : ByteArray := ⟨⟨s⟩⟩
/-- a slice that can be read -/
def Rd {α : Type} (L : Lay α) (w : World) (a : Option Addr) (xs : List α) : Prop := ∃ f, SlR L w a xs f
section
variable {α : Type} {L : Lay α} {w w' W : World} {a : Option Addr} {xs : List α} {e : TypeId}
theorem Rd.fr (h : Rd L W a xs) (hf : Fr [] W w) : Rd L w a xs := let ⟨f, h⟩ := h; ⟨f, h.fr hf⟩
theorem Rd.len (h : Rd L w a xs) : xs.length ≤ 9223372036854775807 := let ⟨_, h⟩ := h; h.1
theorem Rd.some (h : Rd L w a xs) (hn : 0 < xs.length) : a.isSome = true := let ⟨_, h⟩ := h; h.isS hn
theorem Rd.own {n cap : Nat} (h : ∃ f, SlO e L w (.slice a n cap) xs f) : Rd L w a xs := by
  obtain ⟨f, h⟩ := h
  obtain ⟨a', cap', f', hv, _, hr⟩ := h.rd
  injection hv with h1 h2 h3
  subst h1
  exact ⟨f', hr⟩
theorem SlO.isS {n cap : Nat} (h : ∃ f, SlO e L w (.slice a n cap) xs f) (hn : 0 < n) : a.isSome = true := by
  obtain ⟨f, cells, g, h1, _⟩ := h
  rcases h1.2 with ⟨hv, _⟩ | ⟨b, c', cur, fz, hv, _⟩
  · injection hv with _ h2; omega
  · injection hv with h1; simp [h1]
theorem SlO.lenE {n cap : Nat} (h : ∃ f, SlO e L w (.slice a n cap) xs f) : n = xs.length ∧ xs.length ≤ 9223372036854775807 := by
  obtain ⟨f, cells, g, h1, _, _, hl⟩ := h
  refine ⟨?_, hl⟩
  rcases h1.2 with ⟨hv, h0⟩ | ⟨b, c', cur, fz, hv, _⟩
  · injection hv with _ h2; rw [h2, h0]
  · injection hv
theorem Rd.nil (L : Lay α) (w : World) : Rd L w none [] := ⟨[], by simp [maxLen], .inl ⟨rfl, rfl⟩⟩
theorem Rd.elem (h : Rd L w a xs) {k : Nat} {x : α} (hk : xs[k]? = Option.some x) : ∃ cs g, L.rep false w cs x g ∧ ElemAt w a (k * L.sz) cs := by
  obtain ⟨f, h⟩ := h
  obtain ⟨cs, g, h1, h2, _⟩ := h.elem hk
  exact ⟨cs, g, h1, h2⟩
theorem Rd.flat {sz : Nat} {enc : α → List Value} {hh : ∀ x, (enc x).length = sz ∧ ∀ u ∈ enc x, isCell u = true} (h : Rd (SX.flat sz enc hh) w a xs) {k : Nat} {x : α} (hk : xs[k]? = Option.some x) : ElemAt w a (k * sz) (enc x) := by
  obtain ⟨f, h⟩ := h
  exact h.elemF hk
theorem SlO.capE {n cap : Nat} (h : ∃ f, SlO e L w (.slice a n cap) xs f) : n ≤ cap := by
  obtain ⟨f, cells, g, h1, _⟩ := h
  rcases h1.2 with ⟨hv, h0⟩ | ⟨b, c', cur, fz, hv, _, _, hnc, _⟩
  · injection hv with _ h2 h3; omega
  · injection hv with _ h2 h3; omega
theorem cellsRep.drop {m : Bool} : ∀ {xs : List α} {cells f} (k : Nat), cellsRep L m w cells xs f → ∃ g, cellsRep L m w (cells.drop (k * L.sz)) (xs.drop k) g
  | [], cells, f, k, h => by
    simp [cellsRep] at h
    exact ⟨[], by simp [h.1, cellsRep]⟩
  | x :: xs, cells, f, 0, h => ⟨f, by simpa using h⟩
  | x :: xs, cells, f, k + 1, ⟨cs, rest, f1, f2, h1, h2, h3, h4⟩ => by
    obtain ⟨g, hg⟩ := h4.drop k
    refine ⟨g, ?_⟩
    subst h1
    have hl := L.len h3
    rw [show (k + 1) * L.sz = cs.length + k * L.sz by rw [hl, Nat.add_mul]; omega, List.drop_append, List.drop_eq_nil_of_le (by omega), Nat.add_sub_cancel_left]
    simpa using hg
theorem Rd.drop (h : Rd L w a xs) {cap : Nat} (hc : xs.length ≤ cap) (l : Nat) (hl : l ≤ xs.length) : Rd L w (if cap = l then a else a.map (·.add (l * L.sz))) (xs.drop l) := by
  obtain ⟨f, hm, h⟩ := h
  by_cases he : l = xs.length
  · exact ⟨[], by rw [List.length_drop]; omega, .inl ⟨by rw [he]; simp, rfl⟩⟩
  · rw [if_neg (by omega)]
    rcases h with ⟨rfl, _⟩ | ⟨b, o, g, cells, rfl, h2, rfl, h4, h5⟩
    · simp at hl he; omega
    · obtain ⟨g', hg'⟩ := h4.drop l
      refine ⟨b :: g', by rw [List.length_drop]; omega, .inr ⟨b, o + l * L.sz, g', _, by simp [add_lit], h2, rfl, hg', fun j hj => ?_⟩⟩
      rw [List.length_drop] at hj
      rw [Nat.add_assoc, h5 _ (by omega), List.getElem?_drop]
theorem cellsRep.take {m : Bool} : ∀ {xs : List α} {cells f} (k : Nat), cellsRep L m w cells xs f → ∃ g, cellsRep L m w (cells.take (k * L.sz)) (xs.take k) g
  | [], cells, f, k, h => by
    simp [cellsRep] at h
    exact ⟨[], by simp [h.1, cellsRep]⟩
  | x :: xs, cells, f, 0, h => ⟨[], by simp [cellsRep]⟩
  | x :: xs, cells, f, k + 1, ⟨cs, rest, f1, f2, h1, h2, h3, h4⟩ => by
    obtain ⟨g, hg⟩ := h4.take k
    refine ⟨f1 ++ g, ?_⟩
    subst h1
    have hl := L.len h3
    rw [show (k + 1) * L.sz = cs.length + k * L.sz by rw [hl, Nat.add_mul]; omega, List.take_append, List.take_of_length_le (by omega), Nat.add_sub_cancel_left]
    exact ⟨cs, _, f1, g, rfl, rfl, h3, hg⟩
theorem Rd.take (h : Rd L w a xs) (l : Nat) : Rd L w a (xs.take l) := by
  obtain ⟨f, hm, h⟩ := h
  rcases h with ⟨rfl, _⟩ | ⟨b, o, g, cells, rfl, h2, rfl, h4, h5⟩
  · exact ⟨[], by rw [List.length_take]; omega, .inl ⟨by simp, rfl⟩⟩
  · obtain ⟨g', hg'⟩ := h4.take l
    refine ⟨b :: g', by rw [List.length_take]; omega, .inr ⟨b, o, g', _, rfl, h2, rfl, hg', fun j hj => ?_⟩⟩
    rw [List.length_take] at hj
    rw [h5 _ (by omega), List.getElem?_take, if_pos (by omega)]
end

theorem wr_of {x : Int} (h0 : -9223372036854775808 ≤ x) (h1 : x ≤ 9223372036854775807) : wr x = x := by
  exact IntWalk.i64_in x ⟨h0, h1⟩
theorem vi_wr {x : Int} (h0 : -9223372036854775808 ≤ x) (h1 : x ≤ 9223372036854775807) : vi (wr x) = vi x := by rw [wr_of h0 h1]
theorem vi_cast {x : Int} {n : Nat} (h : x = n) (h1 : n ≤ 9223372036854775807) : vi (wr x) = vi (n : Int) := by subst h; exact vi_wr (by omega) (by omega)

/-- the head of what is left of a list -/
theorem drop_cons {α : Type} {xs ys : List α} {k : Nat} (hd : xs.drop k = ys) (hl : k + ys.length = xs.length) (hk : k < xs.length) : ∃ y zs, ys = y :: zs ∧ xs[k]? = some y ∧ xs.drop (k + 1) = zs ∧ (k + 1) + zs.length = xs.length := by
  cases ys with
  | nil => simp at hl; omega
  | cons y zs =>
    refine ⟨y, zs, rfl, ?_, ?_, by simp at hl; omega⟩
    · have := congrArg (fun l => l[0]?) hd
      simpa using this
    · have := congrArg (List.drop 1) hd
      simpa [List.drop_drop, Nat.add_comm] using this
theorem drop_nil {α : Type} {xs ys : List α} {k : Nat} (hl : k + ys.length = xs.length) (hk : ¬ k < xs.length) : ys = [] := by
  apply List.eq_nil_of_length_eq_zero; omega
theorem notT {b : Bool} (h : (!b) = true) : b = false := by simpa using h
theorem notF {b : Bool} (h : (!b) = false) : b = true := by simpa using h
/-- FACT: what the memory shows -/
theorem FACT {N : Nat} {W : World} {S0 : List Nat} {K : Act → World → Prop} {T : Tm} {L : Bx} {C : List Ass} (p : Prop) (h : ∀ w, At W S0 C w → p) (k : p → G N W S0 K T L C) : G N W S0 K T L C := by
  rintro a w ⟨bs, fps, ht, hb, hm⟩
  exact k (h w hm.at_) a w ⟨bs, fps, ht, hb, hm⟩
abbrev HH := Option Addr × Nat
theorem flatRep {α : Type} {sz : Nat} {enc : α → List Value} {hh : ∀ x, (enc x).length = sz ∧ ∀ u ∈ enc x, isCell u = true} {cells : List Value} {xs : List α} (h : cells = xs.flatMap enc) : ∀ w fps, holds w [] fps → cellsRep (flat sz enc hh) true w cells xs fps.flatten := by
  intro w fps hf
  cases fps with
  | nil => subst h; exact cellsRep_flat xs
  | cons _ _ => exact hf.elim
/-- one more element of a copy is laid -/
theorem set_next {α : Type} {xs : List α} {y x0 : α} {zs : List α} {k : Nat} (hl : k + (y :: zs).length = xs.length) (hx : xs[k]? = some y) :
    (xs.take k ++ List.replicate (y :: zs).length x0).set k y = xs.take (k + 1) ++ List.replicate zs.length x0 := by
  simp only [List.length_cons] at hl
  have hk : k < xs.length := by omega
  have htl : (xs.take k).length = k := by simp; omega
  rw [List.set_append_right _ _ (by omega), htl, Nat.sub_self]
  simp only [List.length_cons, List.replicate_succ, List.set_cons_zero]
  rw [List.take_add_one, hx]
  simp
end SX
end Go.Proofs.YthnbaikmbgaddaaGreat
