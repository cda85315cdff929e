/- Rows that are moved in place: cut out, cleared, copied, shifted. It imports no program. -/
import Derived.Test.YthnbaikmbgaddaaGreatSxs
import Derived.Laws.IdiomCopy
namespace Go.Proofs.YthnbaikmbgaddaaGreat
namespace SX
set_option linter.unusedVariables false
set_option linter.unusedSimpArgs false
open Go Go.RowKit
section lists
variable {α : Type} {sz : Nat} {enc : α → List Value}
theorem flatMap_take (hh : ∀ x, (enc x).length = sz) : ∀ (xs : List α) (k : Nat), (xs.flatMap enc).take (k * sz) = (xs.take k).flatMap enc
  | [], k => by simp
  | x :: xs, 0 => by simp
  | x :: xs, k + 1 => by
    have ih := flatMap_take hh xs k
    rw [List.flatMap_cons, List.take_succ_cons, List.flatMap_cons, List.take_append, hh x, List.take_of_length_le (by rw [hh x, Nat.add_mul]; omega), show (k + 1) * sz - sz = k * sz by rw [Nat.add_mul]; omega, ih]
theorem flatMap_drop (hh : ∀ x, (enc x).length = sz) : ∀ (xs : List α) (k : Nat), (xs.flatMap enc).drop (k * sz) = (xs.drop k).flatMap enc
  | [], k => by simp
  | x :: xs, 0 => by simp
  | x :: xs, k + 1 => by
    have ih := flatMap_drop hh xs k
    rw [List.flatMap_cons, List.drop_succ_cons, List.drop_append, hh x, List.drop_of_length_le (by rw [hh x, Nat.add_mul]; omega), show (k + 1) * sz - sz = k * sz by rw [Nat.add_mul]; omega, ih, List.nil_append]
theorem flatMap_len (hh : ∀ x, (enc x).length = sz) (xs : List α) : (xs.flatMap enc).length = xs.length * sz := by
  induction xs with
  | nil => simp
  | cons x xs ih => rw [List.flatMap_cons, List.length_append, ih, hh x, List.length_cons, Nat.add_mul]; omega
theorem setCells_keep : ∀ (vs cs : List Value) (off k : Nat), k ≤ off → (setCells cs off vs).take k = cs.take k
  | [], cs, off, k, _ => rfl
  | v :: vs, cs, off, k, h => by
    simp only [setCells]
    rw [setCells_keep vs _ (off + 1) k (by omega), List.take_set, List.set_eq_of_length_le (by rw [List.length_take]; omega)]
theorem setCells_mid (vs cs : List Value) (off : Nat) (h : off + vs.length ≤ cs.length) : setCells cs off vs = cs.take off ++ vs ++ cs.drop (off + vs.length) := by
  have hd : ∀ (vs cs : List Value) (off k : Nat), off + vs.length ≤ k → (setCells cs off vs).drop k = cs.drop k := by
    intro vs
    induction vs with
    | nil => intro cs off k _; rfl
    | cons v vs ih =>
      intro cs off k hk
      simp only [List.length_cons] at hk
      simp only [setCells]
      rw [ih _ (off + 1) k (by omega), List.drop_set_of_lt (by omega)]
  have h1 := setCells_take vs cs off h
  have h2 := hd vs cs off (off + vs.length) (Nat.le_refl _)
  rw [← List.take_append_drop (off + vs.length) (setCells cs off vs), h1, h2]
end lists
theorem run_append_fit {P : Program} {w : World} {t tx ty e : TypeId} {i : TypeInfo} (ht : P.underlying t = some (.slice e)) (hi : P.info? e = some i) {g n cap : Nat} {xs : List Value} (hown : ownsR w e i.size (.slice (some ⟨g, 0, none⟩) n cap) n xs)
    {x : Value} {m : Nat} {news : List Value} (hs : Src P i.size tx x m news w) (h1 : ∀ u ∈ news, isCell u = true) (hroom : n + m ≤ cap) :
    ∃ w', (Builtin.append_ #[t, tx] ty #[.slice (some ⟨g, 0, none⟩) n cap, x]).run P w = .ok (.slice (some ⟨g, 0, none⟩) (n + m) cap) w' ∧ ownsR w' e i.size (.slice (some ⟨g, 0, none⟩) (n + m) cap) (n + m) (xs ++ news) ∧ w.grownBy w' (some g) := by
  obtain ⟨full, hfull, hft, _, _⟩ := hown.all
  have hmul : (n + m) * i.size ≤ cap * i.size := Nat.mul_le_mul_right _ hroom
  have hfit : n * i.size + 0 + news.length ≤ full.length := by rw [hs.newsLen, hfull.1, Nat.add_zero, ← Nat.add_mul]; exact hmul
  obtain ⟨w', hr, hrow, hgr⟩ := run_storeCells_row (P := P) news w 0 (n * i.size) full hfull (by simpa [List.all_eq_true] using h1) (by omega)
  refine ⟨w', ?_, ?_, hgr⟩
  · rcases hs.kind with ⟨e', hk⟩ | hk <;> simp [Builtin.append_, run_underlying ht, run_underlying hk, sizeOf, typeInfo, hi, hs.len, hroom, hs.cells, add_lit, hr]
  · have := hrow.part hroom
    rw [Nat.add_zero] at this
    have hnl := hs.newsLen
    rw [show (n + m) * i.size = n * i.size + news.length by rw [hnl, Nat.add_mul], setCells_take _ _ _ (by omega), hft] at this
    exact this
section rules
variable {P : Program} {N : Nat} {W : World} {S0 : List Nat} {Q : Exit → Act → World → Prop} {T : Tm} {L : Bx} {C : List Ass} {ops : Array Oper}
/-- the source of an append, or of a copy, that can be read -/
theorem src_of {w : World} {α : Type} {sz : Nat} {enc : α → List Value} {hh : ∀ x, (enc x).length = sz ∧ ∀ u ∈ enc x, isCell u = true} {t e : TypeId} (hu : P.underlying t = some (.slice e)) {a2 : Option Addr} {ys : List α} (hrd : Rd (flat sz enc hh) w a2 ys) (c2 : Nat) :
    Src P sz t (.slice a2 ys.length c2) ys.length (ys.flatMap enc) w := by
  obtain ⟨fr2, hl2, hsl⟩ := hrd
  have hflen : (ys.flatMap enc).length = ys.length * sz := (cellsRep_flat (h := hh) (m := true) (w := w) ys).len
  have hmem : ∀ u ∈ ys.flatMap enc, isCell u = true := fun u hu => (cellsRep_flat (h := hh) (m := true) (w := w) ys).one u hu
  cases a2 with
  | some ad =>
    refine Src.ofSlice w hu ad ys.length c2 (ys.flatMap enc) hflen ?_ (fun u hu => isCell_one (hmem u hu))
    intro j u hj
    rcases hsl with ⟨h0, _⟩ | ⟨b, off, g, cells, h1, h2, h3, h4, h5⟩
    · subst h0; simp at hj
    · injection h1 with h1
      subst h1
      obtain ⟨rfl, _⟩ := flat_cells h4
      rw [add_lit, h5 j (List.getElem?_eq_some_iff.1 hj).1, hj]
  | none =>
    have h0 : ys = [] := by
      rcases hsl with ⟨h0, _⟩ | ⟨b, off, g, cells, h1, _⟩
      · exact h0
      · cases h1
    subst h0
    exact Src.ofNil w hu c2
/-- APPENDP: append(s[:k], ys...) where it fits into what s has: in place -/
theorem APPENDP {i : Nat} {K : Act → World → Prop} (t : TypeId) (s x : Operand) (d : Nat) (ty : TypeId) (ho : opAt ops T i = some (.call { callee := .builtin .append, args := #[s, x], argTypes := #[t, t] }, some d, ty)) (hd : d < N)
    {α : Type} {sz : Nat} {enc : α → List Value} {hh : ∀ x, (enc x).length = sz ∧ ∀ u ∈ enc x, isCell u = true}
    (a : Option Addr) (n c k : Nat) (a2 : Option Addr) (n2 c2 : Nat) (hs : evv T s = some (.slice a k c)) (hx : evv T x = some (.slice a2 n2 c2)) (e : TypeId) (hu : P.underlying t = some (.slice e)) (hi : (P.info? e).map (·.size) = some sz)
    (j : Nat) (xs ys : List α) (R : List Ass) (hp : pulls [j] C = some ([slA e (flat sz enc hh) (.slice a n c) xs], R)) (hn2 : ys.length = n2) (hrd : ∀ w, At W S0 C w → Rd (flat sz enc hh) w a2 ys) (ha : a.isSome = true) (hk : k ≤ xs.length) (hfit : k + n2 ≤ c)
    (kk : G N W S0 K ((d, .v (.slice a (k + n2) c)) :: T) L (R ++ [slA e (flat sz enc hh) (.slice a (k + n2) c) (xs.take k ++ ys)])) : OP P N W S0 ops Q i K T L C := by
  refine STEPM (js := [j]) (ι := Unit) (val := fun _ => .slice a (k + n2) c) (own := fun _ => [slA e (flat sz enc hh) (.slice a (k + n2) c) (xs.take k ++ ys)]) _ (some d) _ ho (by rintro _ ⟨⟩; exact hd) hp ?_ (fun _ => kk)
  intro ac o bs w fps hev hop hty hat hown hnd
  match fps, hown with
  | [fp], ⟨⟨cells, g, hrow, hfp, hrep, hlen⟩, _⟩ =>
    subst hn2
    rcases hrow.2 with ⟨hv, h0⟩ | ⟨b, cap', cur, fz, hv, _, _, hnc, hcm, _⟩
    · injection hv with e1 _ _; subst e1; cases ha
    · injection hv with e1 e2 e3
      subst e1; subst e2; subst e3
      obtain ⟨rfl, rfl⟩ := flat_cells hrep
      obtain ⟨inf, hi1, hi2⟩ := Option.map_eq_some_iff.1 hi
      have hhl : ∀ x, (enc x).length = sz := fun x => (hh x).1
      have hz : (flat sz enc hh).sz = sz := rfl
      rw [hz] at hrow
      obtain ⟨full, hfull, hft, _, _⟩ := hrow.all
      have hpart := hfull.part (k := k) (by omega)
      have hpx : full.take (k * sz) = (xs.take k).flatMap enc := by
        rw [← flatMap_take hhl, ← hft, List.take_take]
        congr 1
        have : k * sz ≤ xs.length * sz := Nat.mul_le_mul_right _ hk
        omega
      rw [hpx] at hpart
      have hsrc := src_of (P := P) hu (hrd w hat) c2
      have hmem : ∀ u ∈ ys.flatMap enc, isCell u = true := fun u hu => (cellsRep_flat (h := hh) (m := true) (w := w) ys).one u hu
      subst hi2
      obtain ⟨w', hr, hrow', hg⟩ := run_append_fit (P := P) (ty := o.type) hu hi1 hpart hsrc hmem hfit
      have e1 : ac.eval s = .slice (some ⟨b, 0, none⟩) k c := hev s _ (evo_of_evv hs)
      have e2 : ac.eval x = .slice a2 ys.length c2 := hev x _ (evo_of_evv hx)
      have hl2 : (xs.take k ++ ys).length = k + ys.length := by rw [List.length_append, List.length_take]; omega
      refine ⟨(), w', _, [[b]], ?_, .inl rfl, ⟨⟨(xs.take k ++ ys).flatMap enc, [], ?_, by simp [Value.ownBlock], cellsRep_flat _, by rw [hl2]; omega⟩, trivial⟩, by simp, ?_, ?_⟩
      · simp [execOp, hop, resolve, invoke, builtin, e1, e2, hr, Result.andThen]
      · rw [hl2, List.flatMap_append]; exact hrow'
      · intro c' hcm _
        simp only [List.flatten_cons, List.flatten_nil, List.append_nil, List.mem_singleton] at hcm
        subst hcm
        simp [hfp, Value.ownBlock]
      · refine ⟨hg.os, hg.tape, hg.output, hg.size, fun c' hc' hne => hg.block c' hc' (fun hce => hne ?_)⟩
        injection hce with hce
        subst hce
        simp [hfp, Value.ownBlock]
/-- the address of an element, or of the row's end -/
def elA (a : Option Addr) (c l sz : Nat) : Option Addr := if c = l then a else a.map (·.add (l * sz))
theorem CUTX {i : Nat} {K : Act → World → Prop} (t : TypeId) (x lo hi : Operand) (d : Nat) (ty : TypeId) (ho : opAt ops T i = some (.slice t x (some lo) (some hi) none, some d, ty)) (hd : d < N) (a : Option Addr) (n cap : Nat) (kl : IntKind) (l : Int) (kh : IntKind) (h : Int)
    (hx : evv T x = some (.slice a n cap)) (hl : evv T lo = some (.int kl l)) (hh : evv T hi = some (.int kh h)) (e : TypeId) (sz : Nat) (hu : P.underlying t = some (.slice e)) (hs : (P.info? e).map (·.size) = some sz) (h0 : 0 ≤ l) (h1 : l ≤ h) (h2 : h ≤ cap)
    (k : G N W S0 K ((d, .v (.slice (elA a cap l.toNat sz) (h.toNat - l.toNat) (cap - l.toNat))) :: T) L C) : OP P N W S0 ops Q i K T L C := by
  refine STEP _ _ _ ho (by rintro _ ⟨⟩; exact hd) (.v (.slice (elA a cap l.toNat sz) (h.toNat - l.toNat) (cap - l.toNat))) (by intro j off he; cases he) ?_ k
  intro ac o bs w hev hop _ _
  obtain ⟨inf, hi1, hsz⟩ := Option.map_eq_some_iff.1 hs
  have hel : P.elem t = e := by unfold Program.elem; rw [hu]
  have hu' : P.underlying t = some (.slice (P.elem t)) := by rw [hel]; exact hu
  have e1 : ac.eval x = .slice a n cap := hev x _ (evo_of_evv hx)
  have e2 : ac.eval lo = .int kl l := hev lo _ (evo_of_evv hl)
  have e3 : ac.eval hi = .int kh h := hev hi _ (evo_of_evv hh)
  simp only [execOp, hop, e1, e2, e3, Option.map_some, Option.map_none, Sem.run_bind, run_sliceAt_slice w t _ _ _ _ hu', run_slice_lh w t a n cap hu' kl kh l h h0 h1 h2, hel, run_sizeOf hi1, Result.andThen_ok, Sem.run_pure, hsz, sliced, elA, den]
theorem CUTLV {i : Nat} {K : Act → World → Prop} (t : TypeId) (x lo : Operand) (d : Nat) (ty : TypeId) (ho : opAt ops T i = some (.slice t x (some lo) none none, some d, ty)) (hd : d < N) (a : Option Addr) (n cap : Nat) (kl : IntKind) (l : Int)
    (hx : evv T x = some (.slice a n cap)) (hl : evv T lo = some (.int kl l)) (e : TypeId) (sz : Nat) (hu : P.underlying t = some (.slice e)) (hs : (P.info? e).map (·.size) = some sz) (h0 : 0 ≤ l) (h1 : l ≤ n)
    (k : G N W S0 K ((d, .v (.slice (elA a cap l.toNat sz) (n - l.toNat) (cap - l.toNat))) :: T) L C) : OP P N W S0 ops Q i K T L C := by
  refine STEP _ _ _ ho (by rintro _ ⟨⟩; exact hd) (.v (.slice (elA a cap l.toNat sz) (n - l.toNat) (cap - l.toNat))) (by intro j off he; cases he) ?_ k
  intro ac o bs w hev hop _ _
  obtain ⟨inf, hi, hsz⟩ := Option.map_eq_some_iff.1 hs
  have hel : P.elem t = e := by unfold Program.elem; rw [hu]
  have hu' : P.underlying t = some (.slice (P.elem t)) := by rw [hel]; exact hu
  have e1 : ac.eval x = .slice a n cap := hev x _ (evo_of_evv hx)
  have e2 : ac.eval lo = .int kl l := hev lo _ (evo_of_evv hl)
  simp only [execOp, hop, e1, e2, Option.map_some, Option.map_none, Sem.run_bind, run_sliceAt_slice w t _ _ _ _ hu', run_slice_l w t a n cap hu' kl l h0 h1, hel, run_sizeOf hi, Result.andThen_ok, Sem.run_pure, hsz, sliced, elA, den]
theorem CUTHV {i : Nat} {K : Act → World → Prop} (t : TypeId) (x hi : Operand) (d : Nat) (ty : TypeId) (ho : opAt ops T i = some (.slice t x none (some hi) none, some d, ty)) (hd : d < N) (a : Option Addr) (n cap : Nat) (kh : IntKind) (h : Int)
    (hx : evv T x = some (.slice a n cap)) (hl : evv T hi = some (.int kh h)) (e : TypeId) (sz : Nat) (hu : P.underlying t = some (.slice e)) (hs : (P.info? e).map (·.size) = some sz) (h0 : 0 ≤ h) (h1 : h ≤ cap)
    (k : G N W S0 K ((d, .v (.slice a h.toNat cap)) :: T) L C) : OP P N W S0 ops Q i K T L C := by
  have hz : a.map (·.add (0 * sz)) = a := by
    cases a with
    | none => rfl
    | some ad => simp only [Option.map_some, Nat.zero_mul]; congr 1
  refine STEP _ _ _ ho (by rintro _ ⟨⟩; exact hd) (.v (.slice a h.toNat cap)) (by intro j off he; cases he) ?_ k
  intro ac o bs w hev hop _ _
  obtain ⟨inf, hi1, hsz⟩ := Option.map_eq_some_iff.1 hs
  have hel : P.elem t = e := by unfold Program.elem; rw [hu]
  have hu' : P.underlying t = some (.slice (P.elem t)) := by rw [hel]; exact hu
  have e1 : ac.eval x = .slice a n cap := hev x _ (evo_of_evv hx)
  have e2 : ac.eval hi = .int kh h := hev hi _ (evo_of_evv hl)
  simp only [execOp, hop, e1, e2, Option.map_some, Option.map_none, Sem.run_bind, run_sliceAt_slice w t _ _ _ _ hu', run_slice_h w t a n cap hu' kh h h0 h1, hel, run_sizeOf hi1, Result.andThen_ok, Sem.run_pure, hsz, sliced, hz, ite_self, Nat.sub_zero, den]
/-- an owned flat row, of which all cells are seen -/
theorem flatRow {w : World} {α : Type} {sz : Nat} {enc : α → List Value} {hh : ∀ x, (enc x).length = sz ∧ ∀ u ∈ enc x, isCell u = true} {e : TypeId} {a : Option Addr} {n c : Nat} {xs : List α} {fp : List Nat} (h : SlO e (flat sz enc hh) w (.slice a n c) xs fp) (ha : a.isSome = true) :
    ∃ b full, a = some ⟨b, 0, none⟩ ∧ n = xs.length ∧ fp = [b] ∧ ownsR w e sz (.slice (some ⟨b, 0, none⟩) c c) c full ∧ full.take (n * sz) = xs.flatMap enc ∧ n ≤ c ∧ c ≤ maxLen := by
  obtain ⟨cells, g, hrow, hfp, hrep, hlen⟩ := h
  obtain ⟨rfl, rfl⟩ := flat_cells hrep
  rcases hrow.2 with ⟨hv, h0⟩ | ⟨b, cap', cur, fz, hv, _, _, hnc, hcm, _⟩
  · injection hv with e1 _ _; subst e1; cases ha
  · injection hv with e1 e2 e3
    subst e1; subst e2; subst e3
    obtain ⟨full, hfull, hft, h1, h2⟩ := hrow.all
    exact ⟨b, full, rfl, rfl, by simp [hfp, Value.ownBlock], hfull, hft, h1, h2⟩
theorem flatRow_back {w : World} {α : Type} {sz : Nat} {enc : α → List Value} {hh : ∀ x, (enc x).length = sz ∧ ∀ u ∈ enc x, isCell u = true} {e : TypeId} {b c : Nat} {full : List Value} (h : ownsR w e sz (.slice (some ⟨b, 0, none⟩) c c) c full) (xs : List α) (hf : full.take (xs.length * sz) = xs.flatMap enc)
    (hc : xs.length ≤ c) (hm : c ≤ maxLen) : SlO e (flat sz enc hh) w (.slice (some ⟨b, 0, none⟩) xs.length c) xs [b] := by
  have := h.part hc
  rw [hf] at this
  exact ⟨_, [], this, by simp [Value.ownBlock], cellsRep_flat _, by omega⟩
theorem mem_zeroCells {z : Array Value} {n : Nat} {u : Value} (h : u ∈ (Builtin.zeroCells z n).toList) : u ∈ z.toList := by
  simp only [Builtin.zeroCells, Array.toList_map, List.mem_map, Array.mem_toList_iff, Array.mem_range] at h
  obtain ⟨i, hi, rfl⟩ := h
  have hpos : 0 < z.size := by
    rcases Nat.eq_zero_or_pos z.size with h0 | h0
    · rw [h0, Nat.mul_zero] at hi; omega
    · exact h0
  have hlt := Nat.mod_lt i hpos
  rw [getElem!_pos z (i % z.size) hlt]
  exact Array.mem_toList_iff.2 (Array.getElem_mem hlt)
/-- clear(s[lo:hi]), beyond what s has -/
theorem CLEARX {i : Nat} {K : Act → World → Prop} (t : TypeId) (x : Operand) (dst : Option Nat) (ty : TypeId) (ho : opAt ops T i = some (.call { callee := .builtin .clear, args := #[x], argTypes := #[t] }, dst, ty)) (hd : ∀ k, dst = some k → k < N)
    {α : Type} {sz : Nat} {enc : α → List Value} {hh : ∀ x, (enc x).length = sz ∧ ∀ u ∈ enc x, isCell u = true}
    (a : Option Addr) (n c lo m c2 : Nat) (hx : evv T x = some (.slice (elA a c lo sz) m c2)) (e : TypeId) (z : Value) (hu : P.underlying t = some (.slice e)) (hi : (P.info? e).map (fun i => (i.zero, i.size)) = some (some z, sz)) (hz : z.cells.size = sz) (hzc : z.cells.toList.all isCell = true)
    (j : Nat) (xs : List α) (R : List Ass) (hp : pulls [j] C = some ([slA e (flat sz enc hh) (.slice a n c) xs], R)) (ha : a.isSome = true) (hlo : n ≤ lo) (hfit : lo + m ≤ c)
    (kk : G N W S0 K (putd dst (.v (.tuple #[])) T) L (R ++ [slA e (flat sz enc hh) (.slice a n c) xs])) : OP P N W S0 ops Q i K T L C := by
  refine STEPM (js := [j]) (ι := Unit) (val := fun _ => .tuple #[]) (own := fun _ => [slA e (flat sz enc hh) (.slice a n c) xs]) _ dst _ ho hd hp ?_ (fun _ => kk)
  intro ac o bs w fps hev hop hty hat hown hnd
  match fps, hown with
  | [fp], ⟨hso, _⟩ =>
    obtain ⟨b, full, rfl, rfl, rfl, hfull, hft, hnc, hcm⟩ := flatRow hso ha
    obtain ⟨inf, hi1, hi2⟩ := Option.map_eq_some_iff.1 hi
    injection hi2 with hi2 hi3
    have e1 : ac.eval x = .slice (elA (some ⟨b, 0, none⟩) c lo sz) m c2 := hev x _ (evo_of_evv hx)
    have hfr : Fr [b] w w := ⟨rfl, rfl, rfl, Nat.le_refl _, fun _ _ _ => rfl⟩
    by_cases hm : m = 0
    · subst hm
      refine ⟨(), w, .value (.tuple #[]), [[b]], ?_, .inl rfl, ⟨hso, trivial⟩, by simp, fun c' hc _ => hc, by simpa using hfr⟩
      simp only [execOp, hop, resolve, invoke, builtin, List.map_toArray, List.map_cons, List.map_nil, e1]
      cases hq : elA (some ⟨b, 0, none⟩) c lo sz <;> simp [Builtin.clear_, run_underlying hu, Sem.run_bind, Sem.run_pure, Result.andThen]
    · have hca : elA (some ⟨b, 0, none⟩) c lo sz = some ⟨b, lo * sz, none⟩ := by
        unfold elA
        rw [if_neg (by omega)]
        simp [add_lit]
      rw [hca] at e1
      have hzl : (Builtin.zeroCells z.cells m).toList.length = m * sz := by rw [Array.length_toList, size_zeroCells, hz]
      have hmul : (lo + m) * sz ≤ c * sz := Nat.mul_le_mul_right _ hfit
      have hall : (Builtin.zeroCells z.cells m).toList.all isCell = true := by
        rw [List.all_eq_true] at hzc ⊢
        intro u hu
        exact hzc u (mem_zeroCells hu)
      obtain ⟨w', hr, hrow', hg⟩ := run_storeCells_row (P := P) (Builtin.zeroCells z.cells m).toList w 0 (lo * sz) full hfull hall (by rw [hzl, hfull.1, Nat.add_zero, ← Nat.add_mul]; exact hmul)
      rw [Nat.add_zero] at hrow'
      have hback : SlO e (flat sz enc hh) w' (.slice (some ⟨b, 0, none⟩) xs.length c) xs [b] := by
        refine flatRow_back hrow' xs ?_ hnc hcm
        rw [setCells_keep _ _ _ _ (Nat.mul_le_mul_right _ hlo)]; exact hft
      refine ⟨(), w', .value (.tuple #[]), [[b]], ?_, .inl rfl, ⟨hback, trivial⟩, by simp, fun c' hc _ => hc, ?_⟩
      · simp only [execOp, hop, resolve, invoke, builtin, List.map_toArray, List.map_cons, List.map_nil, e1]
        have hzv : (zeroValue e).run P w = .ok z w := by simp [zeroValue, typeInfo, hi1, hi2]
        cases m with
        | zero => exact absurd rfl hm
        | succ m => simp [Builtin.clear_, run_underlying hu, hzv, hr, Sem.run_bind, Sem.run_pure, Result.andThen]
      · refine ⟨hg.os, hg.tape, hg.output, hg.size, fun c' hc' hne => hg.block c' hc' (fun hce => hne ?_)⟩
        injection hce with hce
        subst hce
        simp
theorem setCells_takeW : ∀ (vs cs : List Value) (off m : Nat), off + vs.length ≤ m → (setCells cs off vs).take m = setCells (cs.take m) off vs
  | [], cs, off, m, _ => rfl
  | v :: vs, cs, off, m, h => by
    simp only [List.length_cons] at h
    simp only [setCells]
    rw [setCells_takeW vs _ (off + 1) m (by omega), List.take_set]
theorem first_any {w : World} {sz m : Nat} {a2 : Option Addr} {n1 n2 c1 c2 : Nat} : (Builtin.firstCells sz m (.slice a2 n1 c1)).run P w = (Builtin.firstCells sz m (.slice a2 n2 c2)).run P w := by
  cases a2 <;> rfl
theorem fr_of {w w' : World} {b : Nat} (hg : w.grownBy w' (some b)) : Fr [b] w w' := by
  refine ⟨hg.os, hg.tape, hg.output, hg.size, fun c' hc' hne => hg.block c' hc' (fun hce => hne ?_)⟩
  injection hce with hce
  subst hce
  simp
theorem run_copy_of {w w' : World} {t e ty : TypeId} {sz : Nat} {inf : TypeInfo} (hu : P.underlying t = some (.slice e)) (hi : P.info? e = some inf) (hsz : inf.size = sz) {ad : Addr} {dl dc sl sc : Nat} {a2 : Option Addr} {news : List Value} (hc : (Builtin.firstCells sz (min sl dl) (.slice a2 sl sc)).run P w = .ok news.toArray w)
    (hst : (storeCells ad news).run P w = .ok () w') : (Builtin.copy_ #[t, t] ty #[.slice (some ad) dl dc, .slice a2 sl sc]).run P w = .ok (goInt ((min sl dl : Nat) : Int)) w' := by
  subst hsz
  have hc' : (Builtin.firstCells inf.size (Nat.min sl dl) (.slice a2 sl sc)).run P w = .ok news.toArray w := hc
  simp [Builtin.copy_, run_underlying hu, Builtin.lenOf, sizeOf, typeInfo, hi, hc', hst, Sem.run_bind, Sem.run_pure, Result.andThen]
/-- copy(s[l:], y) into a row that is owned -/
theorem COPYP {i : Nat} {K : Act → World → Prop} (t : TypeId) (x y : Operand) (dst : Option Nat) (ty : TypeId) (ho : opAt ops T i = some (.call { callee := .builtin .copy, args := #[x, y], argTypes := #[t, t] }, dst, ty)) (hd : ∀ k, dst = some k → k < N)
    {α : Type} {sz : Nat} {enc : α → List Value} {hh : ∀ x, (enc x).length = sz ∧ ∀ u ∈ enc x, isCell u = true}
    (a : Option Addr) (n c l dl dc : Nat) (hx : evv T x = some (.slice (elA a c l sz) dl dc)) (a2 : Option Addr) (n2 c2 : Nat) (hy : evv T y = some (.slice a2 n2 c2)) (e : TypeId) (hu : P.underlying t = some (.slice e)) (hi : (P.info? e).map (·.size) = some sz)
    (j : Nat) (zs ys : List α) (R : List Ass) (hp : pulls [j] C = some ([slA e (flat sz enc hh) (.slice a n c) zs], R)) (hcnt : min n2 dl = ys.length) (hrd : ∀ w, At W S0 C w → Rd (flat sz enc hh) w a2 ys) (ha : a.isSome = true) (hfit : l + ys.length ≤ zs.length)
    (kk : G N W S0 K (putd dst (.v (goInt ys.length)) T) L (R ++ [slA e (flat sz enc hh) (.slice a n c) (zs.take l ++ ys ++ zs.drop (l + ys.length))])) : OP P N W S0 ops Q i K T L C := by
  refine STEPM (js := [j]) (ι := Unit) (val := fun _ => goInt ys.length) (own := fun _ => [slA e (flat sz enc hh) (.slice a n c) (zs.take l ++ ys ++ zs.drop (l + ys.length))]) _ dst _ ho hd hp ?_ (fun _ => kk)
  intro ac o bs w fps hev hop hty hat hown hnd
  match fps, hown with
  | [fp], ⟨hso, _⟩ =>
    obtain ⟨b, full, rfl, rfl, rfl, hfull, hft, hnc, hcm⟩ := flatRow hso ha
    obtain ⟨inf, hi1, hi2⟩ := Option.map_eq_some_iff.1 hi
    have hhl : ∀ x, (enc x).length = sz := fun x => (hh x).1
    have e1 : ac.eval x = .slice (elA (some ⟨b, 0, none⟩) c l sz) dl dc := hev x _ (evo_of_evv hx)
    have e2 : ac.eval y = .slice a2 n2 c2 := hev y _ (evo_of_evv hy)
    have hsrc := src_of (P := P) hu (hrd w hat) c2
    have hc : (Builtin.firstCells sz (min n2 dl) (.slice a2 n2 c2)).run P w = .ok (ys.flatMap enc).toArray w := by rw [hcnt, first_any (n2 := ys.length) (c2 := c2)]; exact hsrc.cells
    have hmem : (ys.flatMap enc).all isCell = true := by rw [List.all_eq_true]; exact fun u hu => (cellsRep_flat (h := hh) (m := true) (w := w) ys).one u hu
    have hyl := flatMap_len hhl ys
    have hnew : (zs.take l ++ ys ++ zs.drop (l + ys.length)).length = zs.length := by simp only [List.length_append, List.length_take, List.length_drop]; omega
    have hmul : (l + ys.length) * sz ≤ zs.length * sz := Nat.mul_le_mul_right _ hfit
    have hmul2 : zs.length * sz ≤ c * sz := Nat.mul_le_mul_right _ hnc
    rw [Nat.add_mul] at hmul
    obtain ⟨w', hr, hrow', hg⟩ := run_storeCells_row (P := P) (ys.flatMap enc) w 0 (l * sz) full hfull hmem (by rw [hyl, hfull.1]; omega)
    rw [Nat.add_zero] at hrow'
    have hback : SlO e (flat sz enc hh) w' (.slice (some ⟨b, 0, none⟩) zs.length c) (zs.take l ++ ys ++ zs.drop (l + ys.length)) [b] := by
      have := flatRow_back (hh := hh) hrow' (zs.take l ++ ys ++ zs.drop (l + ys.length)) (by
        rw [hnew, setCells_takeW _ _ _ _ (by rw [hyl]; omega), hft, setCells_mid _ _ _ (by rw [hyl, flatMap_len hhl]; omega), flatMap_take hhl, hyl, ← Nat.add_mul, flatMap_drop hhl, List.flatMap_append, List.flatMap_append]) (by rw [hnew]; exact hnc) hcm
      rw [hnew] at this; exact this
    have hst : (storeCells ⟨b, l * sz, none⟩ (ys.flatMap enc)).run P w = .ok () w' := hr
    have hrun : ∃ w'', (Builtin.copy_ #[t, t] o.type #[.slice (elA (some ⟨b, 0, none⟩) c l sz) dl dc, .slice a2 n2 c2]).run P w = .ok (goInt ys.length) w'' ∧ SlO e (flat sz enc hh) w'' (.slice (some ⟨b, 0, none⟩) zs.length c) (zs.take l ++ ys ++ zs.drop (l + ys.length)) [b] ∧ Fr [b] w w'' := by
      by_cases hcl : c = l
      · have h0 : ys = [] := List.eq_nil_of_length_eq_zero (by omega)
        subst h0
        have hea : elA (some ⟨b, 0, none⟩) c l sz = some ⟨b, 0, none⟩ := by unfold elA; rw [if_pos hcl]
        rw [hea]
        refine ⟨w, ?_, ?_, ⟨rfl, rfl, rfl, Nat.le_refl _, fun _ _ _ => rfl⟩⟩
        · have := run_copy_of (w' := w) (ty := o.type) (ad := ⟨b, 0, none⟩) (dc := dc) hu hi1 hi2 hc (by simp [storeCells, Sem.run_pure])
          rw [hcnt] at this; exact this
        · have h9 : zs.take l ++ [] ++ zs.drop (l + ([] : List α).length) = zs := by simp
          rw [h9]; exact hso
      · have hea : elA (some ⟨b, 0, none⟩) c l sz = some ⟨b, l * sz, none⟩ := by
          unfold elA
          rw [if_neg hcl]
          simp [add_lit]
        rw [hea]
        refine ⟨w', ?_, hback, fr_of hg⟩
        have := run_copy_of (w' := w') (ty := o.type) (ad := ⟨b, l * sz, none⟩) (dc := dc) hu hi1 hi2 hc hst
        rw [hcnt] at this; exact this
    obtain ⟨w'', hr'', hb'', hf''⟩ := hrun
    refine ⟨(), w'', _, [[b]], ?_, .inl rfl, ⟨hb'', trivial⟩, by simp, fun c' hc _ => hc, by simpa using hf''⟩
    simp [execOp, hop, resolve, invoke, builtin, e1, e2, hr'', Result.andThen]
/-- copy(s[l+1:], s[l:]) within a row that has been made one longer -/
theorem SHIFTP {i : Nat} {K : Act → World → Prop} (t : TypeId) (x y : Operand) (dst : Option Nat) (ty : TypeId) (ho : opAt ops T i = some (.call { callee := .builtin .copy, args := #[x, y], argTypes := #[t, t] }, dst, ty)) (hd : ∀ k, dst = some k → k < N)
    {α : Type} {sz : Nat} {enc : α → List Value} {hh : ∀ x, (enc x).length = sz ∧ ∀ u ∈ enc x, isCell u = true}
    (a : Option Addr) (n c l dl dc : Nat) (hx : evv T x = some (.slice (elA a c (l + 1) sz) dl dc)) (n2 c2 : Nat) (hy : evv T y = some (.slice (elA a c l sz) n2 c2)) (e : TypeId) (hu : P.underlying t = some (.slice e)) (hi : (P.info? e).map (·.size) = some sz)
    (j : Nat) (zs : List α) (R : List Ass) (hp : pulls [j] C = some ([slA e (flat sz enc hh) (.slice a n c) zs], R)) (hl : l < zs.length) (hcnt : min n2 dl = zs.length - l) (ha : a.isSome = true) (hfit : zs.length + 1 ≤ c)
    (kk : G N W S0 K (putd dst (.v (goInt (zs.length - l : Nat))) T) L (R ++ [slA e (flat sz enc hh) (.slice a (n + 1) c) (zs.take (l + 1) ++ zs.drop l)])) : OP P N W S0 ops Q i K T L C := by
  refine STEPM (js := [j]) (ι := Unit) (val := fun _ => goInt (zs.length - l : Nat)) (own := fun _ => [slA e (flat sz enc hh) (.slice a (n + 1) c) (zs.take (l + 1) ++ zs.drop l)]) _ dst _ ho hd hp ?_ (fun _ => kk)
  intro ac o bs w fps hev hop hty hat hown hnd
  match fps, hown with
  | [fp], ⟨hso, _⟩ =>
    obtain ⟨b, full, rfl, rfl, rfl, hfull, hft, hnc, hcm⟩ := flatRow hso ha
    obtain ⟨inf, hi1, hi2⟩ := Option.map_eq_some_iff.1 hi
    have hhl : ∀ x, (enc x).length = sz := fun x => (hh x).1
    have e1 : ac.eval x = .slice (elA (some ⟨b, 0, none⟩) c (l + 1) sz) dl dc := hev x _ (evo_of_evv hx)
    have e2 : ac.eval y = .slice (elA (some ⟨b, 0, none⟩) c l sz) n2 c2 := hev y _ (evo_of_evv hy)
    have hrd : Rd (flat sz enc hh) w (elA (some ⟨b, 0, none⟩) c l sz) (zs.drop l) := (Rd.own ⟨_, hso⟩).drop hnc l (by omega)
    have hsrc := src_of (P := P) hu hrd c2
    have hdl : (zs.drop l).length = zs.length - l := List.length_drop
    have hc : (Builtin.firstCells sz (min n2 dl) (.slice (elA (some ⟨b, 0, none⟩) c l sz) n2 c2)).run P w = .ok ((zs.drop l).flatMap enc).toArray w := by rw [hcnt, ← hdl, first_any (n2 := (zs.drop l).length) (c2 := c2)]; exact hsrc.cells
    have hmem : ((zs.drop l).flatMap enc).all isCell = true := by rw [List.all_eq_true]; exact fun u hu => (cellsRep_flat (h := hh) (m := true) (w := w) (zs.drop l)).one u hu
    have hyl := flatMap_len hhl (zs.drop l)
    rw [hdl] at hyl
    have hnew : (zs.take (l + 1) ++ zs.drop l).length = zs.length + 1 := by simp only [List.length_append, List.length_take, List.length_drop]; omega
    have hend : (l + 1) * sz + (zs.length - l) * sz = (zs.length + 1) * sz := by rw [← Nat.add_mul]; congr 1; omega
    have hmul2 : (zs.length + 1) * sz ≤ c * sz := Nat.mul_le_mul_right _ hfit
    obtain ⟨w', hr, hrow', hg⟩ := run_storeCells_row (P := P) ((zs.drop l).flatMap enc) w 0 ((l + 1) * sz) full hfull hmem (by rw [hyl, hfull.1]; omega)
    rw [Nat.add_zero] at hrow'
    have hback : SlO e (flat sz enc hh) w' (.slice (some ⟨b, 0, none⟩) (zs.length + 1) c) (zs.take (l + 1) ++ zs.drop l) [b] := by
      have := flatRow_back (hh := hh) hrow' (zs.take (l + 1) ++ zs.drop l) (by
        have h1 := setCells_take ((zs.drop l).flatMap enc) full ((l + 1) * sz) (by rw [hyl, hfull.1]; omega)
        rw [hyl, hend] at h1
        have h2 : full.take ((l + 1) * sz) = (zs.take (l + 1)).flatMap enc := by
          rw [← flatMap_take hhl, ← hft, List.take_take]
          congr 1
          have : (l + 1) * sz ≤ zs.length * sz := Nat.mul_le_mul_right _ (by omega)
          omega
        rw [hnew, h1, h2, List.flatMap_append]) (by rw [hnew]; exact hfit) hcm
      rw [hnew] at this; exact this
    have hea : elA (some ⟨b, 0, none⟩) c (l + 1) sz = some ⟨b, (l + 1) * sz, none⟩ := by
      unfold elA
      rw [if_neg (by omega)]
      simp [add_lit]
    rw [hea] at e1
    have hrun := run_copy_of (w' := w') (ty := o.type) (ad := ⟨b, (l + 1) * sz, none⟩) (dc := dc) hu hi1 hi2 hc hr
    rw [hcnt] at hrun
    refine ⟨(), w', _, [[b]], ?_, .inl rfl, ⟨hback, trivial⟩, by simp, fun c' hc _ => hc, by simpa using fr_of hg⟩
    simp [execOp, hop, resolve, invoke, builtin, e1, e2, hrun, Result.andThen]
end rules
end SX
end Go.Proofs.YthnbaikmbgaddaaGreat
