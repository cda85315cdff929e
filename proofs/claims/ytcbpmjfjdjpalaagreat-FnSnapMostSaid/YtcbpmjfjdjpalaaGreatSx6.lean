/- Short names for what the printed walks say; slices that are read; facts on numbers. It imports no program. -/
import Derived.Test.YtcbpmjfjdjpalaaGreatSx5
namespace Go.Proofs.YtcbpmjfjdjpalaaGreat
namespace SX
set_option linter.unusedVariables false
set_option linter.unusedSimpArgs false
open Go Go.RowKit
abbrev I (x : Int) : SV := .v (.int .i64 x)
abbrev B (b : Bool) : SV := .v (.bool b)
abbrev vi (x : Int) : Value := .int .i64 x
abbrev wr (x : Int) : Int := IntKind.wrap .i64 x
def RV (v : Value) : Res := ⟨Unit, fun _ => v, fun _ => []⟩
def intL : Lay Int := flat 1 (fun z => [.int .i64 z]) (fun z => ⟨rfl, by simp [isCell]⟩)
def byteL : Lay UInt8 := flat 1 (fun z => [.int .u8 z.toNat]) (fun z => ⟨rfl, by simp [isCell]⟩)
def bs (s : List UInt8) : ByteArray := ⟨⟨s⟩⟩
/-- a slice that can be read -/
def Rd {α : Type} (L : Lay α) (w : World) (a : Option Addr) (xs : List α) : Prop := ∃ f, SlR L w a xs f
section
variable {α : Type} {L : Lay α} {w w' W : World} {a : Option Addr} {xs : List α} {e : TypeId}
theorem Rd.fr (h : Rd L W a xs) (hf : Fr [] W w) : Rd L w a xs := let ⟨f, h⟩ := h; ⟨f, h.fr hf⟩
theorem Rd.len (h : Rd L w a xs) : xs.length ≤ 9223372036854775807 := let ⟨_, h⟩ := h; h.1
theorem Rd.some (h : Rd L w a xs) (hn : 0 < xs.length) : a.isSome = true := let ⟨_, h⟩ := h; h.isS hn
theorem Rd.own {n cap : Nat} (h : ∃ f, SlO e L w (.slice a n cap) xs f) : Rd L w a xs := by
  obtain ⟨f, h⟩ := h
  obtain ⟨a', cap', f', hv, _, hr⟩ := h.rd
  injection hv with h1 h2 h3
  subst h1
  exact ⟨f', hr⟩
theorem SlO.isS {n cap : Nat} (h : ∃ f, SlO e L w (.slice a n cap) xs f) (hn : 0 < n) : a.isSome = true := by
  obtain ⟨f, cells, g, h1, _⟩ := h
  rcases h1.2 with ⟨hv, _⟩ | ⟨b, c', cur, fz, hv, _⟩
  · injection hv with _ h2; omega
  · injection hv with h1; simp [h1]
theorem SlO.lenE {n cap : Nat} (h : ∃ f, SlO e L w (.slice a n cap) xs f) : n = xs.length ∧ xs.length ≤ 9223372036854775807 := by
  obtain ⟨f, cells, g, h1, _, _, hl⟩ := h
  refine ⟨?_, hl⟩
  rcases h1.2 with ⟨hv, h0⟩ | ⟨b, c', cur, fz, hv, _⟩
  · injection hv with _ h2; rw [h2, h0]
  · injection hv
theorem Rd.nil (L : Lay α) (w : World) : Rd L w none [] := ⟨[], by simp [maxLen], .inl ⟨rfl, rfl⟩⟩
theorem Rd.elem (h : Rd L w a xs) {k : Nat} {x : α} (hk : xs[k]? = Option.some x) : ∃ cs g, L.rep false w cs x g ∧ ElemAt w a (k * L.sz) cs := by
  obtain ⟨f, h⟩ := h
  obtain ⟨cs, g, h1, h2, _⟩ := h.elem hk
  exact ⟨cs, g, h1, h2⟩
theorem Rd.flat {sz : Nat} {enc : α → List Value} {hh : ∀ x, (enc x).length = sz ∧ ∀ u ∈ enc x, isCell u = true} (h : Rd (SX.flat sz enc hh) w a xs) {k : Nat} {x : α} (hk : xs[k]? = Option.some x) : ElemAt w a (k * sz) (enc x) := by
  obtain ⟨f, h⟩ := h
  exact h.elemF hk
theorem SlO.capE {n cap : Nat} (h : ∃ f, SlO e L w (.slice a n cap) xs f) : n ≤ cap := by
  obtain ⟨f, cells, g, h1, _⟩ := h
  rcases h1.2 with ⟨hv, h0⟩ | ⟨b, c', cur, fz, hv, _, _, hnc, _⟩
  · injection hv with _ h2 h3; omega
  · injection hv with _ h2 h3; omega
theorem cellsRep.drop {m : Bool} : ∀ {xs : List α} {cells f} (k : Nat), cellsRep L m w cells xs f → ∃ g, cellsRep L m w (cells.drop (k * L.sz)) (xs.drop k) g
  | [], cells, f, k, h => by
    simp [cellsRep] at h
    exact ⟨[], by simp [h.1, cellsRep]⟩
  | x :: xs, cells, f, 0, h => ⟨f, by simpa using h⟩
  | x :: xs, cells, f, k + 1, ⟨cs, rest, f1, f2, h1, h2, h3, h4⟩ => by
    obtain ⟨g, hg⟩ := h4.drop k
    refine ⟨g, ?_⟩
    subst h1
    have hl := L.len h3
    rw [show (k + 1) * L.sz = cs.length + k * L.sz by rw [hl, Nat.add_mul]; omega, List.drop_append, List.drop_eq_nil_of_le (by omega), Nat.add_sub_cancel_left]
    simpa using hg
theorem Rd.drop (h : Rd L w a xs) {cap : Nat} (hc : xs.length ≤ cap) (l : Nat) (hl : l ≤ xs.length) : Rd L w (if cap = l then a else a.map (·.add (l * L.sz))) (xs.drop l) := by
  obtain ⟨f, hm, h⟩ := h
  by_cases he : l = xs.length
  · exact ⟨[], by rw [List.length_drop]; omega, .inl ⟨by rw [he]; simp, rfl⟩⟩
  · rw [if_neg (by omega)]
    rcases h with ⟨rfl, _⟩ | ⟨b, o, g, cells, rfl, h2, rfl, h4, h5⟩
    · simp at hl he; omega
    · obtain ⟨g', hg'⟩ := h4.drop l
      refine ⟨b :: g', by rw [List.length_drop]; omega, .inr ⟨b, o + l * L.sz, g', _, by simp [add_lit], h2, rfl, hg', fun j hj => ?_⟩⟩
      rw [List.length_drop] at hj
      rw [Nat.add_assoc, h5 _ (by omega), List.getElem?_drop]
theorem cellsRep.take {m : Bool} : ∀ {xs : List α} {cells f} (k : Nat), cellsRep L m w cells xs f → ∃ g, cellsRep L m w (cells.take (k * L.sz)) (xs.take k) g
  | [], cells, f, k, h => by
    simp [cellsRep] at h
    exact ⟨[], by simp [h.1, cellsRep]⟩
  | x :: xs, cells, f, 0, h => ⟨[], by simp [cellsRep]⟩
  | x :: xs, cells, f, k + 1, ⟨cs, rest, f1, f2, h1, h2, h3, h4⟩ => by
    obtain ⟨g, hg⟩ := h4.take k
    refine ⟨f1 ++ g, ?_⟩
    subst h1
    have hl := L.len h3
    rw [show (k + 1) * L.sz = cs.length + k * L.sz by rw [hl, Nat.add_mul]; omega, List.take_append, List.take_of_length_le (by omega), Nat.add_sub_cancel_left]
    exact ⟨cs, _, f1, g, rfl, rfl, h3, hg⟩
theorem Rd.take (h : Rd L w a xs) (l : Nat) : Rd L w a (xs.take l) := by
  obtain ⟨f, hm, h⟩ := h
  rcases h with ⟨rfl, _⟩ | ⟨b, o, g, cells, rfl, h2, rfl, h4, h5⟩
  · exact ⟨[], by rw [List.length_take]; omega, .inl ⟨by simp, rfl⟩⟩
  · obtain ⟨g', hg'⟩ := h4.take l
    refine ⟨b :: g', by rw [List.length_take]; omega, .inr ⟨b, o, g', _, rfl, h2, rfl, hg', fun j hj => ?_⟩⟩
    rw [List.length_take] at hj
    rw [h5 _ (by omega), List.getElem?_take, if_pos (by omega)]
end

theorem wr_of {x : Int} (h0 : -9223372036854775808 ≤ x) (h1 : x ≤ 9223372036854775807) : wr x = x := by
  exact IntWalk.i64_in x ⟨h0, h1⟩
theorem vi_wr {x : Int} (h0 : -9223372036854775808 ≤ x) (h1 : x ≤ 9223372036854775807) : vi (wr x) = vi x := by rw [wr_of h0 h1]
theorem vi_cast {x : Int} {n : Nat} (h : x = n) (h1 : n ≤ 9223372036854775807) : vi (wr x) = vi (n : Int) := by subst h; exact vi_wr (by omega) (by omega)

/-- the head of what is left of a list -/
theorem drop_cons {α : Type} {xs ys : List α} {k : Nat} (hd : xs.drop k = ys) (hl : k + ys.length = xs.length) (hk : k < xs.length) : ∃ y zs, ys = y :: zs ∧ xs[k]? = some y ∧ xs.drop (k + 1) = zs ∧ (k + 1) + zs.length = xs.length := by
  cases ys with
  | nil => simp at hl; omega
  | cons y zs =>
    refine ⟨y, zs, rfl, ?_, ?_, by simp at hl; omega⟩
    · have := congrArg (fun l => l[0]?) hd
      simpa using this
    · have := congrArg (List.drop 1) hd
      simpa [List.drop_drop, Nat.add_comm] using this
theorem drop_nil {α : Type} {xs ys : List α} {k : Nat} (hl : k + ys.length = xs.length) (hk : ¬ k < xs.length) : ys = [] := by
  apply List.eq_nil_of_length_eq_zero; omega
theorem notT {b : Bool} (h : (!b) = true) : b = false := by simpa using h
theorem notF {b : Bool} (h : (!b) = false) : b = true := by simpa using h
/-- FACT: what the memory shows -/
theorem FACT {N : Nat} {W : World} {S0 : List Nat} {K : Act → World → Prop} {T : Tm} {L : Bx} {C : List Ass} (p : Prop) (h : ∀ w, At W S0 C w → p) (k : p → G N W S0 K T L C) : G N W S0 K T L C := by
  rintro a w ⟨bs, fps, ht, hb, hm⟩
  exact k (h w hm.at_) a w ⟨bs, fps, ht, hb, hm⟩
abbrev HH := Option Addr × Nat
theorem flatRep {α : Type} {sz : Nat} {enc : α → List Value} {hh : ∀ x, (enc x).length = sz ∧ ∀ u ∈ enc x, isCell u = true} {cells : List Value} {xs : List α} (h : cells = xs.flatMap enc) : ∀ w fps, holds w [] fps → cellsRep (flat sz enc hh) true w cells xs fps.flatten := by
  intro w fps hf
  cases fps with
  | nil => subst h; exact cellsRep_flat xs
  | cons _ _ => exact hf.elim
end SX
end Go.Proofs.YtcbpmjfjdjpalaaGreat
