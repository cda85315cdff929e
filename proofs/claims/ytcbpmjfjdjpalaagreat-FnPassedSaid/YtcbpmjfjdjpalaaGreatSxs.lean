/- Strings and bytes: steps on strings, conversions, appends of bytes and of what is only read. It imports no program. -/
import Derived.Test.YtcbpmjfjdjpalaaGreatSxa
import Derived.Laws.IdiomStrings
import Derived.Laws.Strings3
import Derived.Laws.Slices
import Derived.Laws.Concat
import Derived.Laws.OwnMore
import Derived.Lib.AppendStr
namespace Go.Proofs.YtcbpmjfjdjpalaaGreat
namespace SX
set_option linter.unusedVariables false
set_option linter.unusedSimpArgs false
open Go Go.RowKit

theorem bs_size (s : List UInt8) : (bs s).size = s.length := rfl
theorem bs_get (s : List UInt8) (k : Nat) (h : k < (bs s).size) : (bs s)[k] = s[k]'h := rfl

/-! ### Numbers that are natural; bytes -/
def byteOf (z : Int) : UInt8 := UInt8.ofNat (z % 256).toNat
theorem v8 (z : Int) : Value.int .u8 (IntKind.wrap .u8 z) = .int .u8 ((byteOf z).toNat : Int) := by
  congr 1
  have h : IntKind.wrap .u8 z = z % 256 := by simp [IntKind.wrap, IntKind.bits, IntKind.signed]
  rw [h, byteOf, UInt8.toNat_ofNat']
  omega
theorem vi_u8 (y : UInt8) : Value.int .i64 (IntKind.wrap .i64 (y.toNat : Int)) = vi (y.toNat : Int) := by
  have := y.toNat_lt
  exact vi_wr (by omega) (by omega)
section rules
variable {P : Program} {N : Nat} {W : World} {S0 : List Nat} {Q : Exit → Act → World → Prop} {T : Tm} {L : Bx} {C : List Ass} {ops : Array Oper}

/-- s[k] -/
theorem runs_sidx {t ty : TypeId} {x ix : Operand} {s : List UInt8} {kd : IntKind} {z : Int} {k : Nat} {y : UInt8} (hu : P.underlying t = some .string) (hx : evv T x = some (.string (bs s))) (hix : evv T ix = some (.int kd z)) (h0 : 0 ≤ z) (hk : z.toNat = k) (hy : s[k]? = some y) :
    Runs P W S0 T C (.index t x ix) ty (.int .u8 y.toNat) := by
  intro ac o fr w hev hop _ _
  have h1 : ac.eval x = .string (bs s) := hev x _ (evo_of_evv hx)
  have h2 : ac.eval ix = .int kd z := hev ix _ (evo_of_evv hix)
  obtain ⟨hlt, he⟩ := List.getElem?_eq_some_iff.1 hy
  have hc : 0 ≤ z ∧ z < (bs s).size := ⟨h0, by rw [bs_size]; omega⟩
  have hg : (bs s)[z.toNat]'(by omega) = y := by
    subst hk
    exact (bs_get s _ _).trans he
  simp only [execOp, hop, h1, h2, Sem.run_bind, run_index_string w t (bs s) kd z hu, dif_pos hc, hg, Result.andThen_ok, Sem.run_pure]
theorem QCAST {i d : Nat} (v v' : Value) (hd : lk T d = some (.v v)) (he : v = v') (k : QO P N W S0 ops Q i ((d, .v v') :: T) L C) : QO P N W S0 ops Q i T L C := by
  subst he
  intro bs a ht hb hl
  refine k bs a ⟨ht.1, ht.2.1, fun i x hx => ?_⟩ ?_ hl
  · simp only [lk] at hx
    by_cases hk : d = i
    · subst hk; simp at hx; subst hx; exact ht.2.2 d _ hd
    · have : (d == i) = false := by simpa using hk
      simp only [this, Bool.false_eq_true, if_false] at hx
      exact ht.2.2 i x hx
  · exact hb

/-! ### What is only read, and is new -/
theorem Rd.of {α : Type} {La : Lay α} {w : World} {a : Option Addr} {xs : List α} (h : ∃ f, SlR La w a xs f) : Rd La w a xs := h
/-! ### Appends -/
/-- an append onto what is owned: what it leaves, of what the run shows -/
theorem append_post {α : Type} {La : Lay α} {e : TypeId} {w w' : World} {v v' : Value} {xs ys : List α} {f1 : List Nat} {cells1 g1 cells2 g2} (hrow1 : ownsR w e La.sz v xs.length cells1) (hf1 : f1 = v.ownBlock.toList ++ g1) (hrep1 : cellsRep La true w cells1 xs g1)
    (hrep2 : cellsRep La true w' cells2 ys g2) (hg2 : g2 = []) (hnd : f1.Nodup) (hlt : ∀ b ∈ f1, b < w.heap.size) (hlen' : xs.length + ys.length ≤ maxLen)
    (hown' : ownsR w' e La.sz v' (xs.length + ys.length) (cells1 ++ cells2)) (hg : w.grownBy w' v.ownBlock) (hblk : v'.ownBlock = v.ownBlock ∨ v'.ownBlock = some w.heap.size) :
    ∃ (a : Option Addr) (c : Nat) (nps : List Nat), v' = .slice a (xs.length + ys.length) c ∧ (a = none → xs.length + ys.length = 0) ∧ SlO e La w' v' (xs ++ ys) nps ∧ nps.Nodup ∧ (∀ b ∈ nps, b < w.heap.size → b ∈ f1) ∧ Fr f1 w w' := by
  subst hg2
  have hform : ∃ a c, v' = .slice a (xs.length + ys.length) c ∧ (a = none → xs.length + ys.length = 0) := by
    rcases hown'.2 with ⟨rfl, h0⟩ | ⟨b, cap', cur, fz, rfl, _⟩
    · exact ⟨none, 0, by rw [h0], fun _ => h0⟩
    · exact ⟨_, _, rfl, by intro h; cases h⟩
  obtain ⟨a', c', hv', hnone⟩ := hform
  have hd := hnd
  rw [hf1] at hd
  have hd := List.nodup_append.1 hd
  have hkeep : ∀ b ∈ g1, w'.heap[b]? = w.heap[b]? := by
    intro b hb
    refine hg.block b (hlt b (by rw [hf1]; exact List.mem_append.2 (.inr hb))) ?_
    intro hbv
    exact hd.2.2 b (by simp [← hbv]) b hb rfl
  have hnew : ∀ b, v'.ownBlock = some b → b ∈ v.ownBlock.toList ∨ b = w.heap.size := by
    intro b hb
    rcases hblk with h | h
    · left; rw [← h, hb]; simp
    · right; rw [hb] at h; injection h
  refine ⟨a', c', v'.ownBlock.toList ++ (g1 ++ []), hv', hnone, ⟨cells1 ++ cells2, g1 ++ [], ?_, rfl, (hrep1.st hkeep).append hrep2, by simpa using hlen'⟩, ?_, ?_, ⟨hg.os, hg.tape, hg.output, hg.size, fun b hb hn => hg.block b hb ?_⟩⟩
  · simpa using hown'
  · rw [List.append_nil]
    refine List.nodup_append.2 ⟨by cases v'.ownBlock <;> simp, hd.2.1, ?_⟩
    rintro p hp q hq rfl
    rcases hnew p (by simpa using hp) with h | h
    · exact hd.2.2 p h p hq rfl
    · have := hlt p (by rw [hf1]; exact List.mem_append.2 (.inr hq)); omega
  · intro b hb hlt'
    rw [List.append_nil] at hb
    rw [hf1]
    rcases List.mem_append.1 hb with h | h
    · rcases hnew b (by simpa using h) with h | h
      · exact List.mem_append.2 (.inl h)
      · omega
    · exact List.mem_append.2 (.inr h)
  · intro hbv
    exact hn (by rw [hf1]; simp [← hbv])

theorem flat_cells {α : Type} {sz : Nat} {enc : α → List Value} {hh : ∀ x, (enc x).length = sz ∧ ∀ u ∈ enc x, isCell u = true} {m : Bool} {w : World} : ∀ {xs : List α} {cells g}, cellsRep (flat sz enc hh) m w cells xs g → cells = xs.flatMap enc ∧ g = []
  | [], cells, g, h => by simpa [cellsRep] using h
  | z :: zs, cells, g, ⟨cs, rest, f1, f2, h1, h2, ⟨h3, h4⟩, h5⟩ => by
    obtain ⟨h6, h7⟩ := flat_cells h5
    subst h1; subst h2; subst h3; subst h4; subst h6; subst h7
    simp

/-- APPENDR: append(s, x...), s owned, x only read, the elements without addresses -/
theorem APPENDR {i : Nat} {K : Act → World → Prop} (t : TypeId) (s x : Operand) (d : Nat) (ty : TypeId) (ho : opAt ops T i = some (.call { callee := .builtin .append, args := #[s, x], argTypes := #[t, t] }, some d, ty)) (hd : d < N)
    {α : Type} {sz : Nat} {enc : α → List Value} {hh : ∀ x, (enc x).length = sz ∧ ∀ u ∈ enc x, isCell u = true}
    (v : Value) (a2 : Option Addr) (n2 c2 : Nat) (hs : evv T s = some v) (hx : evv T x = some (.slice a2 n2 c2)) (e : TypeId) (hu : P.underlying t = some (.slice e)) (z : Value) (bytes : Nat)
    (hi : (P.info? e).map (fun i => (i.zero, i.size, i.bytes)) = some (some z, sz, bytes)) (hz : z.cells.size = sz) (hsz : 0 < sz) (j1 : Nat) (xs ys : List α) (R : List Ass) (hp : pulls [j1] C = some ([slA e (flat sz enc hh) v xs], R))
    (hn2 : ys.length = n2) (hrd : ∀ w, At W S0 C w → Rd (flat sz enc hh) w a2 ys) (hlen : (xs.length + n2) * bytes ≤ 140737488355328) (hlen' : xs.length + n2 ≤ maxLen)
    (k : ∀ (a : Option Addr) (c : Nat), (a = none → (xs ++ ys).length = 0) → G N W S0 K ((d, .v (.slice a (xs ++ ys).length c)) :: T) L (R ++ [slA e (flat sz enc hh) (.slice a (xs ++ ys).length c) (xs ++ ys)])) : OP P N W S0 ops Q i K T L C := by
  have hxy : (xs ++ ys).length = xs.length + n2 := by rw [List.length_append, hn2]
  rw [hxy] at k
  obtain ⟨inf, h1, h2, h3, h4⟩ := info_at hi
  refine STEPM (js := [j1]) (ι := {p : Option Addr × Nat // p.1 = none → xs.length + n2 = 0}) (val := fun p => .slice p.1.1 (xs.length + n2) p.1.2) (own := fun p => [slA e (flat sz enc hh) (.slice p.1.1 (xs.length + n2) p.1.2) (xs ++ ys)]) _ (some d) _ ho (by rintro _ ⟨⟩; exact hd) hp ?_ (fun p => k p.1.1 p.1.2 p.2)
  intro ac o fr w fps hev hop hty hat hown hnd
  match fps, hown with
  | [f1], ⟨⟨cells1, g1, hrow1, hf1, hrep1, hl1⟩, _⟩ =>
    subst hn2
    have hf1lt : ∀ b ∈ f1, b < w.heap.size := (slA e (flat sz enc hh) v xs).lt w f1 ⟨cells1, g1, hrow1, hf1, hrep1, hl1⟩
    obtain ⟨fr2, hl2, hsl⟩ := hrd w hat
    have e1 : ac.eval s = v := hev s _ (evo_of_evv hs)
    have e2 : ac.eval x = .slice a2 ys.length c2 := hev x _ (evo_of_evv hx)
    have hflen : (ys.flatMap enc).length = ys.length * sz := (cellsRep_flat (h := hh) (m := true) (w := w) ys).len
    have hmem : ∀ u ∈ ys.flatMap enc, isCell u = true := fun u hu => (cellsRep_flat (h := hh) (m := true) (w := w) ys).one u hu
    have hsrc : Src P sz t (.slice a2 ys.length c2) ys.length (ys.flatMap enc) w := by
      cases a2 with
      | some ad =>
        refine Src.ofSlice w hu ad ys.length c2 (ys.flatMap enc) hflen ?_ (fun u hu => isCell_one (hmem u hu))
        intro j u hj
        rcases hsl with ⟨h0, _⟩ | ⟨b, off, g, cells, h1, h2, h3, h4, h5⟩
        · subst h0; simp at hj
        · injection h1 with h1
          subst h1
          obtain ⟨rfl, _⟩ := flat_cells h4
          rw [add_lit, h5 j (List.getElem?_eq_some_iff.1 hj).1, hj]
      | none =>
        have h0 : ys = [] := by
          rcases hsl with ⟨h0, _⟩ | ⟨b, off, g, cells, h1, _⟩
          · exact h0
          · cases h1
        subst h0
        exact Src.ofNil w hu c2
    obtain ⟨v', w', hr, hown', hg, hblk⟩ := run_append_R (P := P) (ty := o.type) hu h1 h2 h3 h4 hz hrow1 hsrc hmem hlen' hlen
    obtain ⟨a, c, nps, rfl, hnone, ho', hnd', hnew, hfr⟩ := append_post (La := flat sz enc hh) hrow1 hf1 hrep1 (cellsRep_flat (w := w') ys) rfl (by simpa using hnd) hf1lt hlen' hown' hg hblk
    refine ⟨⟨(a, c), hnone⟩, w', _, [nps], ?_, .inl rfl, ⟨ho', trivial⟩, by simpa using hnd', by simpa using hnew, by simpa using hfr⟩
    simp [execOp, hop, resolve, invoke, builtin, e1, e2, hr, Result.andThen]
end rules
end SX
end Go.Proofs.YtcbpmjfjdjpalaaGreat
