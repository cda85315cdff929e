/- From the form's reading of arguments to the logic's. It imports no program. -/
import Derived.Test.YthnbaikmbgaddaaGreatSxc
import Derived.ProofKit
import Derived.OpenShut
import Derived.Handed
namespace Go.Proofs.YthnbaikmbgaddaaGreat
namespace SX
set_option linter.unusedVariables false
set_option linter.unusedSimpArgs false
open Go Go.RowKit Go.ChangeShapes Go.WideShapes Go.ChangeAt

/-- whatever reads at type t is laid out so, and is well formed so -/
def Opens (P : Program) (t : TypeId) {α : Type} (L : Lay α) (wf : α → Prop) : Prop :=
  ∀ (H : Type) (enc : TypeId × Value → H) (w : World) (base : Nat) (spare : Nat → Bool) (held : Bool) (fuel : Nat) (cs : List Value) (x : DataW H × List MemPlace),
    DataW.trod enc P w base spare held fuel t cs = some x → ∃ y f, L.rep false w cs y f ∧ wf y

abbrev i64R (x : Int) : Prop := -9223372036854775808 ≤ x ∧ x ≤ 9223372036854775807

theorem wf_i64R {x : Int} (h : (Lit.int .i64 x).wf = true) : i64R x := by
  have := bounds_i64 h
  unfold i64R
  omega

theorem open_int' {P : Program} {t : TypeId} (ht : P.underlying t = some (.int .i64)) : Opens P t intL i64R := by
  intro H enc w base spare held fuel cs x h
  obtain ⟨n, rfl, _, hw⟩ := DataW.trod_int ht h
  exact ⟨n, [], ⟨rfl, rfl⟩, wf_i64R hw⟩

theorem cell_spot {w : World} {a : Addr} {v : Value} (h : w.cell? a = some v) : a.spot = none ∧ a.block < w.heap.size := by
  refine ⟨?_, World.block_lt_of_cell? w a h⟩
  unfold World.cell? at h
  split at h
  · split at h
    · cases h
    · rename_i hs; simpa using hs
  · cases h

theorem open_sl {P : Program} {t e : TypeId} {α : Type} {L : Lay α} {wf : α → Prop} (e' : TypeId) (ho : Opens P e L wf) (ht : P.underlying t = some (.slice e)) (hc : P.cellsOf e = L.sz) (hp : 0 < L.sz) :
    Opens P t (sl e' L) (fun xs => ∀ x ∈ xs, wf x) := by
  intro H enc w base spare held fuel cs x h
  rcases DataW.trod_slice ht h with ⟨rfl, _⟩ | ⟨a, len, cap, elems, rest, n, _, rfl, _, hb, hl, hm, hlen, hel, _, _⟩
  · exact ⟨[], [], ⟨none, 0, rfl, by simp, by simp [maxLen], .inl ⟨rfl, rfl⟩⟩, by simp⟩
  · rw [hc] at hel
    -- each element
    have key : ∀ k, k ≤ len → ∃ (ys : List α) (cells : List Value) (g : List Nat), ys.length = k ∧ cellsRep L false w cells ys g ∧ (∀ j, j < cells.length → w.cell? (a.add (k * L.sz - cells.length + j)) = cells[j]?) ∧ (∀ y ∈ ys, wf y) := by
      intro k
      induction k with
      | zero => intro _; exact ⟨[], [], [], rfl, ⟨rfl, rfl⟩, by simp, by simp⟩
      | succ k ih =>
        intro hk
        obtain ⟨ys, cells, g, h1, h2, h3, h4⟩ := ih (by omega)
        have hk' := hel k (by omega)
        have hs : elems[k]? = some (elems[k]'(by omega)) := List.getElem?_eq_getElem (by omega)
        rw [hs] at hk'
        obtain ⟨cs', hcs, htr⟩ := Option.bind_eq_some_iff.1 hk'
        obtain ⟨_, hcl, hcell⟩ := World.cells?_some hcs
        obtain ⟨y, f, hr, hw⟩ := ho H enc w base spare held n cs' _ htr
        have hlen2 := h2.len
        refine ⟨ys ++ [y], cells ++ cs', g ++ f, by simp [h1], h2.append ⟨cs', [], f, [], by simp, by simp, hr, rfl, rfl⟩, ?_, ?_⟩
        · intro j hj
          have hzero : (k + 1) * L.sz - (cells ++ cs').length = 0 := by rw [List.length_append, hcl, hlen2, h1, Nat.add_mul]; omega
          rw [hzero, Nat.zero_add]
          rw [h1] at hlen2
          by_cases hjc : j < cells.length
          · have := h3 j hjc
            rw [hlen2, Nat.sub_self, Nat.zero_add] at this
            rw [this, List.getElem?_append_left hjc]
          · rw [List.getElem?_append_right (by omega)]
            rw [List.length_append, hcl] at hj
            have := hcell (j - cells.length) (by omega)
            rw [SX.add_add] at this
            rw [← this]
            congr 2
            rw [hlen2]
            rw [hlen2] at hjc
            omega
        · intro z hz
          rcases List.mem_append.1 hz with hz | hz
          · exact h4 z hz
          · simp at hz; subst hz; exact hw
    obtain ⟨ys, cells, g, h1, h2, h3, h4⟩ := key len (Nat.le_refl _)
    subst h1
    have hlen2 := h2.len
    simp only [hlen2, Nat.sub_self, Nat.zero_add] at h3
    cases ys with
    | nil => exact ⟨[], [], ⟨some a, cap, rfl, by simp, by simp [maxLen], .inl ⟨rfl, rfl⟩⟩, by simp⟩
    | cons y ys =>
      have hpos : 0 < cells.length := by rw [hlen2]; simp only [List.length_cons, Nat.add_mul]; omega
      have h0 := h3 0 (by omega)
      rw [List.getElem?_eq_getElem hpos] at h0
      obtain ⟨hs, hlt⟩ := cell_spot h0
      obtain ⟨b, o, sp⟩ := a
      simp [Addr.add] at hs hlt
      subst hs
      refine ⟨y :: ys, b :: g, ⟨some ⟨b, o, none⟩, cap, rfl, ?_⟩, h4⟩
      refine ⟨hl, by omega, .inr ⟨b, o, g, cells, rfl, hlt, rfl, h2, fun j hj => ?_⟩⟩
      rw [← h3 j (by omega), add_lit]

/-- a field of what reads as a struct -/
theorem field_at {H : Type} {enc : TypeId × Value → H} {P : Program} {w : World} {base : Nat} {spare : Nat → Bool} {held : Bool} {fuel : Nat} {t : TypeId} {cs : List Value} {x : DataW H × List MemPlace} {fs : Array Field}
    (ht : P.underlying t = some (.struct fs)) (h : DataW.trod enc P w base spare held fuel t cs = some x) (i : Nat) (ft : TypeId) (off n : Nat) (hi : (fs[i]?).map (fun f => (f.type, f.offset)) = some (ft, off)) (hn : P.cellsOf ft = n) :
    ∃ fuel' y, DataW.trod enc P w base spare held fuel' ft ((cs.drop off).take n) = some y := by
  obtain ⟨xs, m, _, _, hl, hlen, hf⟩ := DataW.trod_struct ht h
  obtain ⟨f, hfi, he⟩ := Option.map_eq_some_iff.1 hi
  simp only [Prod.mk.injEq] at he
  obtain ⟨rfl, rfl⟩ := he
  have := hf i f hfi
  have hlt : i < xs.length := by rw [hlen]; exact (Array.getElem?_eq_some_iff.1 hfi).1
  rw [List.getElem?_eq_getElem hlt, hn] at this
  exact ⟨m, _, this⟩

theorem struct_len {H : Type} {enc : TypeId × Value → H} {P : Program} {w : World} {base : Nat} {spare : Nat → Bool} {held : Bool} {fuel : Nat} {t : TypeId} {cs : List Value} {x : DataW H × List MemPlace} {fs : Array Field}
    (ht : P.underlying t = some (.struct fs)) (h : DataW.trod enc P w base spare held fuel t cs = some x) {n : Nat} (hn : P.cellsOf t = n) : cs.length = n := by
  obtain ⟨xs, m, _, _, hl, _⟩ := DataW.trod_struct ht h
  rw [hl, hn]

/-- what a law's walk says, in the form's words -/
theorem Spec.law {P : Program} {W : World} {f : FuncId} {vs : Array Value} (h : Spec P W [] f vs (RV (.bool true))) : Calls P f vs W fun e w' => e = .returned (.bool true) ∧ Below W.heap.size W w' := by
  refine (h [] trivial (by simp)).mono ?_
  rintro e w' ⟨x, nps, rfl, _, _, _, hfr⟩
  exact ⟨rfl, hfr.below⟩
end SX
end Go.Proofs.YthnbaikmbgaddaaGreat
