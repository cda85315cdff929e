/- From the form's reading of arguments to the logic's. It imports no program. -/
import Derived.Test.YtgbfemglimebdaaGreatDoorSxh
import Derived.ProofKit
import Derived.OpenShut
import Derived.Handed
namespace Go.Proofs.YtgbfemglimebdaaGreatDoor
namespace SX
set_option linter.unusedVariables false
set_option linter.unusedSimpArgs false
open Go Go.RowKit Go.ChangeShapes Go.WideShapes Go.ChangeAt

/-- whatever reads at type t is laid out so, and is well formed so -/
def Opens (P : Program) (t : TypeId) {α : Type} (L : Lay α) (wf : α → Prop) : Prop :=
  ∀ (H : Type) (enc : TypeId × Value → H) (w : World) (base : Nat) (spare : Nat → Bool) (held : Bool) (fuel : Nat) (cs : List Value) (x : DataW H × List MemPlace),
    DataW.trod enc P w base spare held fuel t cs = some x → ∃ y f, L.rep false w cs y f ∧ wf y

abbrev i64R (x : Int) : Prop := -9223372036854775808 ≤ x ∧ x ≤ 9223372036854775807

theorem wf_i64R {x : Int} (h : (Lit.int .i64 x).wf = true) : i64R x := by
  have := bounds_i64 h
  unfold i64R
  omega

theorem open_int' {P : Program} {t : TypeId} (ht : P.underlying t = some (.int .i64)) : Opens P t intL i64R := by
  intro H enc w base spare held fuel cs x h
  obtain ⟨n, rfl, _, hw⟩ := DataW.trod_int ht h
  exact ⟨n, [], ⟨rfl, rfl⟩, wf_i64R hw⟩

theorem open_byte {P : Program} {t : TypeId} (ht : P.underlying t = some (.int .u8)) : Opens P t byteL (fun _ => True) := by
  intro H enc w base spare held fuel cs x h
  obtain ⟨n, rfl, _, hw⟩ := DataW.trod_int ht h
  have hb := bounds_u8 hw
  refine ⟨UInt8.ofNat n.toNat, [], ⟨?_, rfl⟩, trivial⟩
  have : ((UInt8.ofNat n.toNat).toNat : Int) = n := by
    rw [UInt8.toNat_ofNat']
    omega
  show [Value.int .u8 n] = [Value.int .u8 ((UInt8.ofNat n.toNat).toNat : Int)]
  rw [this]

theorem open_str {P : Program} {t : TypeId} (ht : P.underlying t = some .string) : Opens P t strL (fun s => s.length ≤ 9223372036854775807) := by
  intro H enc w base spare held fuel cs x h
  obtain ⟨⟨⟨s⟩⟩, rfl, _, hw⟩ := DataW.trod_string ht h
  exact ⟨s, [], ⟨rfl, rfl⟩, hw⟩

theorem cell_spot {w : World} {a : Addr} {v : Value} (h : w.cell? a = some v) : a.spot = none ∧ a.block < w.heap.size := by
  refine ⟨?_, World.block_lt_of_cell? w a h⟩
  unfold World.cell? at h
  split at h
  · split at h
    · cases h
    · rename_i hs; simpa using hs
  · cases h

theorem open_sl {P : Program} {t e : TypeId} {α : Type} {L : Lay α} {wf : α → Prop} (e' : TypeId) (ho : Opens P e L wf) (ht : P.underlying t = some (.slice e)) (hc : P.cellsOf e = L.sz) (hp : 0 < L.sz) :
    Opens P t (sl e' L) (fun xs => ∀ x ∈ xs, wf x) := by
  intro H enc w base spare held fuel cs x h
  rcases DataW.trod_slice ht h with ⟨rfl, _⟩ | ⟨a, len, cap, elems, rest, n, _, rfl, _, hb, hl, hm, hlen, hel, _, _⟩
  · exact ⟨[], [], ⟨none, 0, rfl, by simp, by simp [maxLen], .inl ⟨rfl, rfl⟩⟩, by simp⟩
  · rw [hc] at hel
    -- each element
    have key : ∀ k, k ≤ len → ∃ (ys : List α) (cells : List Value) (g : List Nat), ys.length = k ∧ cellsRep L false w cells ys g ∧ (∀ j, j < cells.length → w.cell? (a.add (k * L.sz - cells.length + j)) = cells[j]?) ∧ (∀ y ∈ ys, wf y) := by
      intro k
      induction k with
      | zero => intro _; exact ⟨[], [], [], rfl, ⟨rfl, rfl⟩, by simp, by simp⟩
      | succ k ih =>
        intro hk
        obtain ⟨ys, cells, g, h1, h2, h3, h4⟩ := ih (by omega)
        have hk' := hel k (by omega)
        have hs : elems[k]? = some (elems[k]'(by omega)) := List.getElem?_eq_getElem (by omega)
        rw [hs] at hk'
        obtain ⟨cs', hcs, htr⟩ := Option.bind_eq_some_iff.1 hk'
        obtain ⟨_, hcl, hcell⟩ := World.cells?_some hcs
        obtain ⟨y, f, hr, hw⟩ := ho H enc w base spare held n cs' _ htr
        have hlen2 := h2.len
        refine ⟨ys ++ [y], cells ++ cs', g ++ f, by simp [h1], h2.append ⟨cs', [], f, [], by simp, by simp, hr, rfl, rfl⟩, ?_, ?_⟩
        · intro j hj
          have hzero : (k + 1) * L.sz - (cells ++ cs').length = 0 := by rw [List.length_append, hcl, hlen2, h1, Nat.add_mul]; omega
          rw [hzero, Nat.zero_add]
          rw [h1] at hlen2
          by_cases hjc : j < cells.length
          · have := h3 j hjc
            rw [hlen2, Nat.sub_self, Nat.zero_add] at this
            rw [this, List.getElem?_append_left hjc]
          · rw [List.getElem?_append_right (by omega)]
            rw [List.length_append, hcl] at hj
            have := hcell (j - cells.length) (by omega)
            rw [SX.add_add] at this
            rw [← this]
            congr 2
            rw [hlen2]
            rw [hlen2] at hjc
            omega
        · intro z hz
          rcases List.mem_append.1 hz with hz | hz
          · exact h4 z hz
          · simp at hz; subst hz; exact hw
    obtain ⟨ys, cells, g, h1, h2, h3, h4⟩ := key len (Nat.le_refl _)
    subst h1
    have hlen2 := h2.len
    simp only [hlen2, Nat.sub_self, Nat.zero_add] at h3
    cases ys with
    | nil => exact ⟨[], [], ⟨some a, cap, rfl, by simp, by simp [maxLen], .inl ⟨rfl, rfl⟩⟩, by simp⟩
    | cons y ys =>
      have hpos : 0 < cells.length := by rw [hlen2]; simp only [List.length_cons, Nat.add_mul]; omega
      have h0 := h3 0 (by omega)
      rw [List.getElem?_eq_getElem hpos] at h0
      obtain ⟨hs, hlt⟩ := cell_spot h0
      obtain ⟨b, o, sp⟩ := a
      simp [Addr.add] at hs hlt
      subst hs
      refine ⟨y :: ys, b :: g, ⟨some ⟨b, o, none⟩, cap, rfl, ?_⟩, h4⟩
      refine ⟨hl, by omega, .inr ⟨b, o, g, cells, rfl, hlt, rfl, h2, fun j hj => ?_⟩⟩
      rw [← h3 j (by omega), add_lit]

/-- a field of what reads as a struct -/
theorem field_at {H : Type} {enc : TypeId × Value → H} {P : Program} {w : World} {base : Nat} {spare : Nat → Bool} {held : Bool} {fuel : Nat} {t : TypeId} {cs : List Value} {x : DataW H × List MemPlace} {fs : Array Field}
    (ht : P.underlying t = some (.struct fs)) (h : DataW.trod enc P w base spare held fuel t cs = some x) (i : Nat) (ft : TypeId) (off n : Nat) (hi : (fs[i]?).map (fun f => (f.type, f.offset)) = some (ft, off)) (hn : P.cellsOf ft = n) :
    ∃ fuel' y, DataW.trod enc P w base spare held fuel' ft ((cs.drop off).take n) = some y := by
  obtain ⟨xs, m, _, _, hl, hlen, hf⟩ := DataW.trod_struct ht h
  obtain ⟨f, hfi, he⟩ := Option.map_eq_some_iff.1 hi
  simp only [Prod.mk.injEq] at he
  obtain ⟨rfl, rfl⟩ := he
  have := hf i f hfi
  have hlt : i < xs.length := by rw [hlen]; exact (Array.getElem?_eq_some_iff.1 hfi).1
  rw [List.getElem?_eq_getElem hlt, hn] at this
  exact ⟨m, _, this⟩

theorem struct_len {H : Type} {enc : TypeId × Value → H} {P : Program} {w : World} {base : Nat} {spare : Nat → Bool} {held : Bool} {fuel : Nat} {t : TypeId} {cs : List Value} {x : DataW H × List MemPlace} {fs : Array Field}
    (ht : P.underlying t = some (.struct fs)) (h : DataW.trod enc P w base spare held fuel t cs = some x) {n : Nat} (hn : P.cellsOf t = n) : cs.length = n := by
  obtain ⟨xs, m, _, _, hl, _⟩ := DataW.trod_struct ht h
  rw [hl, hn]

/-- what a law's walk says, in the form's words -/
theorem Spec.law {P : Program} {W : World} {f : FuncId} {vs : Array Value} (h : Spec P W [] f vs (RV (.bool true))) : Calls P f vs W fun e w' => e = .returned (.bool true) ∧ Below W.heap.size W w' := by
  refine (h [] trivial (by simp)).mono ?_
  rintro e w' ⟨x, nps, rfl, _, _, _, hfr⟩
  exact ⟨rfl, hfr.below⟩
/-- the frame of a row whose reference is carried along, the world's shape handed over too -/
theorem handed_shaped {H : Type} {enc : TypeId × Value → H} {a : Assume} {C : Checked} {os : Os} {f : FuncId} {fn : Func} {s : ChangeSpec} {conds : List PathCond} {apart fresh handsOn again : Bool} {X : World → Array Value → Prop}
    (hX : ∀ (w w' : World) (args : Array Value), w.heap = w'.heap → X w args → X w' args)
    (own : ownKnob C.prog.godebug = none) (started : os.Started) (noInit : C.prog.inits.idxOf? f = none) (hfn : C.prog.funcs[f]? = some fn)
    (witness : ∃ (w : World) (tape : Tape) (i : Input), w.os = os ∧ (w.forCall tape i).Shaped C.prog ∧ i.vars = [] ∧ Input.okWide C.prog (w.forCall tape i) .any w.heap.size f i ∧
      ((s.pre enc C.prog fn conds apart (w.forCall tape i).memory i.args ∧ X (w.forCall tape i).memory i.args) ∧ sizedMet enc C.prog fn (OpenSpec.ofChange s) apart (w.forCall tape i).memory i.args) ∧ a.holds C.prog (lone (Frame.enter C.prog f i.args .normal) [] (w.forCall tape i)))
    (contract : ∀ (W : World) (base : Nat) (args : Array Value) (ds gs : List (DataW H)) (before : List MemPlace),
      (∀ (j : Nat) t v, fn.params[j]? = some t → args[j]? = some v → Value.okWide C.prog W .any base t v) →
      DataW.Whole enc C.prog fn.params.toList s.vars apart W args.toList ds gs before →
      conds.all (PathCond.test C.prog ⟨fn.params.toList, ds, s.plain.varTypes C.prog, gs⟩) = true →
      (DataW.weightsEach C.prog (fn.params.toList ++ s.plain.varTypes C.prog) (ds ++ gs)).all (· ≤ reachBytes) = true → X W args →
      W.ShapedOpen C.prog →
      a.holds C.prog (lone (Frame.enter C.prog f args .normal) [] W) →
      Calls C.prog f args W fun e W' => ∃ v, e = .returned v ∧ s.post enc C.prog fn apart fresh handsOn again W args v W') :
    ReturnsInHanded a C os f .any (fun w args => (s.pre enc C.prog fn conds apart w args ∧ X w args) ∧ sizedMet enc C.prog fn (OpenSpec.ofChange s) apart w args) (s.post enc C.prog fn apart fresh handsOn again) := by
  refine returnsInHanded_of_calls own started noInit witness ?_
  intro w tape i _ hshape _ hok hpre hholds
  obtain ⟨_, _, _, g, hg, _, _, _, _, hval⟩ := hok
  obtain rfl : g = fn := Option.some.inj (hg.symm.trans hfn)
  obtain ⟨⟨⟨ds, gs, before, hw, hc⟩, hx⟩, hz⟩ := hpre
  have hwhole := DataW.Whole.of_heap (w' := w.forCall tape i) (by rfl) hw
  refine (contract (w.forCall tape i) w.heap.size i.args ds gs before hval hwhole hc (hz.weights hw) (hX _ _ _ (by rfl) hx) hshape hholds).mono fun e W' h => ?_
  obtain ⟨v, rfl, hp⟩ := h
  exact ChangeSpec.post_blind hp
end SX
end Go.Proofs.YtgbfemglimebdaaGreatDoor
