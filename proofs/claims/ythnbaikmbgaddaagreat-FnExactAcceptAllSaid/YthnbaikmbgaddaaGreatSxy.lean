/- Texts of this claim, put together by program. -/
import Derived.Test.YthnbaikmbgaddaaGreatSxs
import Derived.Laws.IdiomCopy
import Derived.Test.YthnbaikmbgaddaaGreatSxc
import Derived.Lib.AppendZerosOnto
import Derived.Lib.Overlaps
/- Rows that are moved in place: cut out, cleared, copied, shifted. It imports no program. -/
namespace Go.Proofs.YthnbaikmbgaddaaGreat
namespace SX
set_option linter.unusedVariables false
set_option linter.unusedSimpArgs false
open Go Go.RowKit
section lists
variable {α : Type} {sz : Nat} {enc : α → List Value}
theorem flatMap_take (hh : ∀ x, (enc x).length = sz) : ∀ (xs : List α) (k : Nat), (xs.flatMap enc).take (k * sz) = (xs.take k).flatMap enc
  | [], k => by simp
  | x :: xs, 0 => by simp
  | x :: xs, k + 1 => by
    have ih := flatMap_take hh xs k
    rw [List.flatMap_cons, List.take_succ_cons, List.flatMap_cons, List.take_append, hh x, List.take_of_length_le (by rw [hh x, Nat.add_mul]; omega), show (k + 1) * sz - sz = k * sz by rw [Nat.add_mul]; omega, ih]
theorem setCells_keep : ∀ (vs cs : List Value) (off k : Nat), k ≤ off → (setCells cs off vs).take k = cs.take k
  | [], cs, off, k, _ => rfl
  | v :: vs, cs, off, k, h => by
    simp only [setCells]
    rw [setCells_keep vs _ (off + 1) k (by omega), List.take_set, List.set_eq_of_length_le (by rw [List.length_take]; omega)]
end lists
theorem run_append_fit {P : Program} {w : World} {t tx ty e : TypeId} {i : TypeInfo} (ht : P.underlying t = some (.slice e)) (hi : P.info? e = some i) {g n cap : Nat} {xs : List Value} (hown : ownsR w e i.size (.slice (some ⟨g, 0, none⟩) n cap) n xs)
    {x : Value} {m : Nat} {news : List Value} (hs : Src P i.size tx x m news w) (h1 : ∀ u ∈ news, isCell u = true) (hroom : n + m ≤ cap) :
    ∃ w', (Builtin.append_ #[t, tx] ty #[.slice (some ⟨g, 0, none⟩) n cap, x]).run P w = .ok (.slice (some ⟨g, 0, none⟩) (n + m) cap) w' ∧ ownsR w' e i.size (.slice (some ⟨g, 0, none⟩) (n + m) cap) (n + m) (xs ++ news) ∧ w.grownBy w' (some g) := by
  obtain ⟨full, hfull, hft, _, _⟩ := hown.all
  have hmul : (n + m) * i.size ≤ cap * i.size := Nat.mul_le_mul_right _ hroom
  have hfit : n * i.size + 0 + news.length ≤ full.length := by rw [hs.newsLen, hfull.1, Nat.add_zero, ← Nat.add_mul]; exact hmul
  obtain ⟨w', hr, hrow, hgr⟩ := run_storeCells_row (P := P) news w 0 (n * i.size) full hfull (by simpa [List.all_eq_true] using h1) (by omega)
  refine ⟨w', ?_, ?_, hgr⟩
  · rcases hs.kind with ⟨e', hk⟩ | hk <;> simp [Builtin.append_, run_underlying ht, run_underlying hk, sizeOf, typeInfo, hi, hs.len, hroom, hs.cells, add_lit, hr]
  · have := hrow.part hroom
    rw [Nat.add_zero] at this
    have hnl := hs.newsLen
    rw [show (n + m) * i.size = n * i.size + news.length by rw [hnl, Nat.add_mul], setCells_take _ _ _ (by omega), hft] at this
    exact this
section rules
variable {P : Program} {N : Nat} {W : World} {S0 : List Nat} {Q : Exit → Act → World → Prop} {T : Tm} {L : Bx} {C : List Ass} {ops : Array Oper}
/-- the source of an append, or of a copy, that can be read -/
theorem src_of {w : World} {α : Type} {sz : Nat} {enc : α → List Value} {hh : ∀ x, (enc x).length = sz ∧ ∀ u ∈ enc x, isCell u = true} {t e : TypeId} (hu : P.underlying t = some (.slice e)) {a2 : Option Addr} {ys : List α} (hrd : Rd (flat sz enc hh) w a2 ys) (c2 : Nat) :
    Src P sz t (.slice a2 ys.length c2) ys.length (ys.flatMap enc) w := by
  obtain ⟨fr2, hl2, hsl⟩ := hrd
  have hflen : (ys.flatMap enc).length = ys.length * sz := (cellsRep_flat (h := hh) (m := true) (w := w) ys).len
  have hmem : ∀ u ∈ ys.flatMap enc, isCell u = true := fun u hu => (cellsRep_flat (h := hh) (m := true) (w := w) ys).one u hu
  cases a2 with
  | some ad =>
    refine Src.ofSlice w hu ad ys.length c2 (ys.flatMap enc) hflen ?_ (fun u hu => isCell_one (hmem u hu))
    intro j u hj
    rcases hsl with ⟨h0, _⟩ | ⟨b, off, g, cells, h1, h2, h3, h4, h5⟩
    · subst h0; simp at hj
    · injection h1 with h1
      subst h1
      obtain ⟨rfl, _⟩ := flat_cells h4
      rw [add_lit, h5 j (List.getElem?_eq_some_iff.1 hj).1, hj]
  | none =>
    have h0 : ys = [] := by
      rcases hsl with ⟨h0, _⟩ | ⟨b, off, g, cells, h1, _⟩
      · exact h0
      · cases h1
    subst h0
    exact Src.ofNil w hu c2
/-- APPENDP: append(s[:k], ys...) where it fits into what s has: in place -/
theorem APPENDP {i : Nat} {K : Act → World → Prop} (t : TypeId) (s x : Operand) (d : Nat) (ty : TypeId) (ho : opAt ops T i = some (.call { callee := .builtin .append, args := #[s, x], argTypes := #[t, t] }, some d, ty)) (hd : d < N)
    {α : Type} {sz : Nat} {enc : α → List Value} {hh : ∀ x, (enc x).length = sz ∧ ∀ u ∈ enc x, isCell u = true}
    (a : Option Addr) (n c k : Nat) (a2 : Option Addr) (n2 c2 : Nat) (hs : evv T s = some (.slice a k c)) (hx : evv T x = some (.slice a2 n2 c2)) (e : TypeId) (hu : P.underlying t = some (.slice e)) (hi : (P.info? e).map (·.size) = some sz)
    (j : Nat) (xs ys : List α) (R : List Ass) (hp : pulls [j] C = some ([slA e (flat sz enc hh) (.slice a n c) xs], R)) (hn2 : ys.length = n2) (hrd : ∀ w, At W S0 C w → Rd (flat sz enc hh) w a2 ys) (ha : a.isSome = true) (hk : k ≤ xs.length) (hfit : k + n2 ≤ c)
    (kk : G N W S0 K ((d, .v (.slice a (k + n2) c)) :: T) L (R ++ [slA e (flat sz enc hh) (.slice a (k + n2) c) (xs.take k ++ ys)])) : OP P N W S0 ops Q i K T L C := by
  refine STEPM (js := [j]) (ι := Unit) (val := fun _ => .slice a (k + n2) c) (own := fun _ => [slA e (flat sz enc hh) (.slice a (k + n2) c) (xs.take k ++ ys)]) _ (some d) _ ho (by rintro _ ⟨⟩; exact hd) hp ?_ (fun _ => kk)
  intro ac o bs w fps hev hop hty hat hown hnd
  match fps, hown with
  | [fp], ⟨⟨cells, g, hrow, hfp, hrep, hlen⟩, _⟩ =>
    subst hn2
    rcases hrow.2 with ⟨hv, h0⟩ | ⟨b, cap', cur, fz, hv, _, _, hnc, hcm, _⟩
    · injection hv with e1 _ _; subst e1; cases ha
    · injection hv with e1 e2 e3
      subst e1; subst e2; subst e3
      obtain ⟨rfl, rfl⟩ := flat_cells hrep
      obtain ⟨inf, hi1, hi2⟩ := Option.map_eq_some_iff.1 hi
      have hhl : ∀ x, (enc x).length = sz := fun x => (hh x).1
      have hz : (flat sz enc hh).sz = sz := rfl
      rw [hz] at hrow
      obtain ⟨full, hfull, hft, _, _⟩ := hrow.all
      have hpart := hfull.part (k := k) (by omega)
      have hpx : full.take (k * sz) = (xs.take k).flatMap enc := by
        rw [← flatMap_take hhl, ← hft, List.take_take]
        congr 1
        have : k * sz ≤ xs.length * sz := Nat.mul_le_mul_right _ hk
        omega
      rw [hpx] at hpart
      have hsrc := src_of (P := P) hu (hrd w hat) c2
      have hmem : ∀ u ∈ ys.flatMap enc, isCell u = true := fun u hu => (cellsRep_flat (h := hh) (m := true) (w := w) ys).one u hu
      subst hi2
      obtain ⟨w', hr, hrow', hg⟩ := run_append_fit (P := P) (ty := o.type) hu hi1 hpart hsrc hmem hfit
      have e1 : ac.eval s = .slice (some ⟨b, 0, none⟩) k c := hev s _ (evo_of_evv hs)
      have e2 : ac.eval x = .slice a2 ys.length c2 := hev x _ (evo_of_evv hx)
      have hl2 : (xs.take k ++ ys).length = k + ys.length := by rw [List.length_append, List.length_take]; omega
      refine ⟨(), w', _, [[b]], ?_, .inl rfl, ⟨⟨(xs.take k ++ ys).flatMap enc, [], ?_, by simp [Value.ownBlock], cellsRep_flat _, by rw [hl2]; omega⟩, trivial⟩, by simp, ?_, ?_⟩
      · simp [execOp, hop, resolve, invoke, builtin, e1, e2, hr, Result.andThen]
      · rw [hl2, List.flatMap_append]; exact hrow'
      · intro c' hcm _
        simp only [List.flatten_cons, List.flatten_nil, List.append_nil, List.mem_singleton] at hcm
        subst hcm
        simp [hfp, Value.ownBlock]
      · refine ⟨hg.os, hg.tape, hg.output, hg.size, fun c' hc' hne => hg.block c' hc' (fun hce => hne ?_)⟩
        injection hce with hce
        subst hce
        simp [hfp, Value.ownBlock]
/-- the address of an element, or of the row's end -/
def elA (a : Option Addr) (c l sz : Nat) : Option Addr := if c = l then a else a.map (·.add (l * sz))
theorem CUTX {i : Nat} {K : Act → World → Prop} (t : TypeId) (x lo hi : Operand) (d : Nat) (ty : TypeId) (ho : opAt ops T i = some (.slice t x (some lo) (some hi) none, some d, ty)) (hd : d < N) (a : Option Addr) (n cap : Nat) (kl : IntKind) (l : Int) (kh : IntKind) (h : Int)
    (hx : evv T x = some (.slice a n cap)) (hl : evv T lo = some (.int kl l)) (hh : evv T hi = some (.int kh h)) (e : TypeId) (sz : Nat) (hu : P.underlying t = some (.slice e)) (hs : (P.info? e).map (·.size) = some sz) (h0 : 0 ≤ l) (h1 : l ≤ h) (h2 : h ≤ cap)
    (k : G N W S0 K ((d, .v (.slice (elA a cap l.toNat sz) (h.toNat - l.toNat) (cap - l.toNat))) :: T) L C) : OP P N W S0 ops Q i K T L C := by
  refine STEP _ _ _ ho (by rintro _ ⟨⟩; exact hd) (.v (.slice (elA a cap l.toNat sz) (h.toNat - l.toNat) (cap - l.toNat))) (by intro j off he; cases he) ?_ k
  intro ac o bs w hev hop _ _
  obtain ⟨inf, hi1, hsz⟩ := Option.map_eq_some_iff.1 hs
  have hel : P.elem t = e := by unfold Program.elem; rw [hu]
  have hu' : P.underlying t = some (.slice (P.elem t)) := by rw [hel]; exact hu
  have e1 : ac.eval x = .slice a n cap := hev x _ (evo_of_evv hx)
  have e2 : ac.eval lo = .int kl l := hev lo _ (evo_of_evv hl)
  have e3 : ac.eval hi = .int kh h := hev hi _ (evo_of_evv hh)
  simp only [execOp, hop, e1, e2, e3, Option.map_some, Option.map_none, Sem.run_bind, run_sliceAt_slice w t _ _ _ _ hu', run_slice_lh w t a n cap hu' kl kh l h h0 h1 h2, hel, run_sizeOf hi1, Result.andThen_ok, Sem.run_pure, hsz, sliced, elA, den]
/-- an owned flat row, of which all cells are seen -/
theorem flatRow {w : World} {α : Type} {sz : Nat} {enc : α → List Value} {hh : ∀ x, (enc x).length = sz ∧ ∀ u ∈ enc x, isCell u = true} {e : TypeId} {a : Option Addr} {n c : Nat} {xs : List α} {fp : List Nat} (h : SlO e (flat sz enc hh) w (.slice a n c) xs fp) (ha : a.isSome = true) :
    ∃ b full, a = some ⟨b, 0, none⟩ ∧ n = xs.length ∧ fp = [b] ∧ ownsR w e sz (.slice (some ⟨b, 0, none⟩) c c) c full ∧ full.take (n * sz) = xs.flatMap enc ∧ n ≤ c ∧ c ≤ maxLen := by
  obtain ⟨cells, g, hrow, hfp, hrep, hlen⟩ := h
  obtain ⟨rfl, rfl⟩ := flat_cells hrep
  rcases hrow.2 with ⟨hv, h0⟩ | ⟨b, cap', cur, fz, hv, _, _, hnc, hcm, _⟩
  · injection hv with e1 _ _; subst e1; cases ha
  · injection hv with e1 e2 e3
    subst e1; subst e2; subst e3
    obtain ⟨full, hfull, hft, h1, h2⟩ := hrow.all
    exact ⟨b, full, rfl, rfl, by simp [hfp, Value.ownBlock], hfull, hft, h1, h2⟩
theorem flatRow_back {w : World} {α : Type} {sz : Nat} {enc : α → List Value} {hh : ∀ x, (enc x).length = sz ∧ ∀ u ∈ enc x, isCell u = true} {e : TypeId} {b c : Nat} {full : List Value} (h : ownsR w e sz (.slice (some ⟨b, 0, none⟩) c c) c full) (xs : List α) (hf : full.take (xs.length * sz) = xs.flatMap enc)
    (hc : xs.length ≤ c) (hm : c ≤ maxLen) : SlO e (flat sz enc hh) w (.slice (some ⟨b, 0, none⟩) xs.length c) xs [b] := by
  have := h.part hc
  rw [hf] at this
  exact ⟨_, [], this, by simp [Value.ownBlock], cellsRep_flat _, by omega⟩
theorem mem_zeroCells {z : Array Value} {n : Nat} {u : Value} (h : u ∈ (Builtin.zeroCells z n).toList) : u ∈ z.toList := by
  simp only [Builtin.zeroCells, Array.toList_map, List.mem_map, Array.mem_toList_iff, Array.mem_range] at h
  obtain ⟨i, hi, rfl⟩ := h
  have hpos : 0 < z.size := by
    rcases Nat.eq_zero_or_pos z.size with h0 | h0
    · rw [h0, Nat.mul_zero] at hi; omega
    · exact h0
  have hlt := Nat.mod_lt i hpos
  rw [getElem!_pos z (i % z.size) hlt]
  exact Array.mem_toList_iff.2 (Array.getElem_mem hlt)
/-- clear(s[lo:hi]), beyond what s has -/
theorem CLEARX {i : Nat} {K : Act → World → Prop} (t : TypeId) (x : Operand) (dst : Option Nat) (ty : TypeId) (ho : opAt ops T i = some (.call { callee := .builtin .clear, args := #[x], argTypes := #[t] }, dst, ty)) (hd : ∀ k, dst = some k → k < N)
    {α : Type} {sz : Nat} {enc : α → List Value} {hh : ∀ x, (enc x).length = sz ∧ ∀ u ∈ enc x, isCell u = true}
    (a : Option Addr) (n c lo m c2 : Nat) (hx : evv T x = some (.slice (elA a c lo sz) m c2)) (e : TypeId) (z : Value) (hu : P.underlying t = some (.slice e)) (hi : (P.info? e).map (fun i => (i.zero, i.size)) = some (some z, sz)) (hz : z.cells.size = sz) (hzc : z.cells.toList.all isCell = true)
    (j : Nat) (xs : List α) (R : List Ass) (hp : pulls [j] C = some ([slA e (flat sz enc hh) (.slice a n c) xs], R)) (ha : a.isSome = true) (hlo : n ≤ lo) (hfit : lo + m ≤ c)
    (kk : G N W S0 K (putd dst (.v (.tuple #[])) T) L (R ++ [slA e (flat sz enc hh) (.slice a n c) xs])) : OP P N W S0 ops Q i K T L C := by
  refine STEPM (js := [j]) (ι := Unit) (val := fun _ => .tuple #[]) (own := fun _ => [slA e (flat sz enc hh) (.slice a n c) xs]) _ dst _ ho hd hp ?_ (fun _ => kk)
  intro ac o bs w fps hev hop hty hat hown hnd
  match fps, hown with
  | [fp], ⟨hso, _⟩ =>
    obtain ⟨b, full, rfl, rfl, rfl, hfull, hft, hnc, hcm⟩ := flatRow hso ha
    obtain ⟨inf, hi1, hi2⟩ := Option.map_eq_some_iff.1 hi
    injection hi2 with hi2 hi3
    have e1 : ac.eval x = .slice (elA (some ⟨b, 0, none⟩) c lo sz) m c2 := hev x _ (evo_of_evv hx)
    have hfr : Fr [b] w w := ⟨rfl, rfl, rfl, Nat.le_refl _, fun _ _ _ => rfl⟩
    by_cases hm : m = 0
    · subst hm
      refine ⟨(), w, .value (.tuple #[]), [[b]], ?_, .inl rfl, ⟨hso, trivial⟩, by simp, fun c' hc _ => hc, by simpa using hfr⟩
      simp only [execOp, hop, resolve, invoke, builtin, List.map_toArray, List.map_cons, List.map_nil, e1]
      cases hq : elA (some ⟨b, 0, none⟩) c lo sz <;> simp [Builtin.clear_, run_underlying hu, Sem.run_bind, Sem.run_pure, Result.andThen]
    · have hca : elA (some ⟨b, 0, none⟩) c lo sz = some ⟨b, lo * sz, none⟩ := by
        unfold elA
        rw [if_neg (by omega)]
        simp [add_lit]
      rw [hca] at e1
      have hzl : (Builtin.zeroCells z.cells m).toList.length = m * sz := by rw [Array.length_toList, size_zeroCells, hz]
      have hmul : (lo + m) * sz ≤ c * sz := Nat.mul_le_mul_right _ hfit
      have hall : (Builtin.zeroCells z.cells m).toList.all isCell = true := by
        rw [List.all_eq_true] at hzc ⊢
        intro u hu
        exact hzc u (mem_zeroCells hu)
      obtain ⟨w', hr, hrow', hg⟩ := run_storeCells_row (P := P) (Builtin.zeroCells z.cells m).toList w 0 (lo * sz) full hfull hall (by rw [hzl, hfull.1, Nat.add_zero, ← Nat.add_mul]; exact hmul)
      rw [Nat.add_zero] at hrow'
      have hback : SlO e (flat sz enc hh) w' (.slice (some ⟨b, 0, none⟩) xs.length c) xs [b] := by
        refine flatRow_back hrow' xs ?_ hnc hcm
        rw [setCells_keep _ _ _ _ (Nat.mul_le_mul_right _ hlo)]; exact hft
      refine ⟨(), w', .value (.tuple #[]), [[b]], ?_, .inl rfl, ⟨hback, trivial⟩, by simp, fun c' hc _ => hc, ?_⟩
      · simp only [execOp, hop, resolve, invoke, builtin, List.map_toArray, List.map_cons, List.map_nil, e1]
        have hzv : (zeroValue e).run P w = .ok z w := by simp [zeroValue, typeInfo, hi1, hi2]
        cases m with
        | zero => exact absurd rfl hm
        | succ m => simp [Builtin.clear_, run_underlying hu, hzv, hr, Sem.run_bind, Sem.run_pure, Result.andThen]
      · refine ⟨hg.os, hg.tape, hg.output, hg.size, fun c' hc' hne => hg.block c' hc' (fun hce => hne ?_)⟩
        injection hce with hce
        subst hce
        simp
end rules
end SX
end Go.Proofs.YthnbaikmbgaddaaGreat
/- Rows whose memory bears no mark; the library's test whether two rows overlap; zeros put behind a row; capacities. It imports no program. -/
namespace Go.Proofs.YthnbaikmbgaddaaGreat
namespace SX
set_option linter.unusedVariables false
set_option linter.unusedSimpArgs false
open Go Go.RowKit
/-- a slice that is owned, and whose block bears no mark -/
def slP {α : Type} (e : TypeId) (L : Lay α) (v : Value) (xs : List α) : Ass :=
  ⟨fun w f => SlO e L w v xs f ∧ ∀ g, v.ownBlock = some g → ∃ cur, w.heap[g]? = some (.cells cur e (0, 0)),
    fun w w' f h hb => by
      refine ⟨h.1.st hb, fun g hg => ?_⟩
      obtain ⟨cur, hc⟩ := h.2 g hg
      obtain ⟨cells, g', h1, h2, h3, h4⟩ := h.1
      exact ⟨cur, (hb g (by rw [h2, hg]; simp)).trans hc⟩,
    fun w f h => h.1.lt⟩
section rules
variable {P : Program} {N : Nat} {W : World} {S0 : List Nat} {Q : Exit → Go.Act → World → Prop} {T : Tm} {L : Bx} {C : List Ass} {ops : Array Oper}
theorem CUT3V {i : Nat} {K : Go.Act → World → Prop} (t : TypeId) (x lo hi mx : Operand) (d : Nat) (ty : TypeId) (ho : opAt ops T i = some (.slice t x (some lo) (some hi) (some mx), some d, ty)) (hd : d < N) (a : Option Addr) (n cap : Nat) (kl : IntKind) (l : Int) (kh : IntKind) (h : Int) (km : IntKind) (m : Int)
    (hx : evv T x = some (.slice a n cap)) (hl : evv T lo = some (.int kl l)) (hh : evv T hi = some (.int kh h)) (hm : evv T mx = some (.int km m)) (e : TypeId) (sz : Nat) (hu : P.underlying t = some (.slice e)) (hs : (P.info? e).map (·.size) = some sz) (h0 : 0 ≤ l) (h1 : l ≤ h) (h2 : h ≤ m) (h3 : m ≤ cap)
    (k : G N W S0 K ((d, .v (.slice (elA a m.toNat l.toNat sz) (h.toNat - l.toNat) (m.toNat - l.toNat))) :: T) L C) : OP P N W S0 ops Q i K T L C := by
  refine STEP _ _ _ ho (by rintro _ ⟨⟩; exact hd) (.v (.slice (elA a m.toNat l.toNat sz) (h.toNat - l.toNat) (m.toNat - l.toNat))) (by intro j off he; cases he) ?_ k
  intro ac o bs w hev hop _ _
  obtain ⟨inf, hi1, hsz⟩ := Option.map_eq_some_iff.1 hs
  have hel : P.elem t = e := by unfold Program.elem; rw [hu]
  have hu' : P.underlying t = some (.slice (P.elem t)) := by rw [hel]; exact hu
  have e1 : ac.eval x = .slice a n cap := hev x _ (evo_of_evv hx)
  have e2 : ac.eval lo = .int kl l := hev lo _ (evo_of_evv hl)
  have e3 : ac.eval hi = .int kh h := hev hi _ (evo_of_evv hh)
  have e4 : ac.eval mx = .int km m := hev mx _ (evo_of_evv hm)
  simp only [execOp, hop, e1, e2, e3, e4, Option.map_some, Option.map_none, Sem.run_bind, run_sliceAt_slice w t _ _ _ _ hu', run_slice_lhm w t a n cap hu' kl kh km l h m h0 h1 h2 h3, hel, run_sizeOf hi1, Result.andThen_ok, Sem.run_pure, hsz, sliced, elA, den]
end rules
section hrules
variable {P : Program} {N : Nat} {W : World} {S0 : List Nat} {Q : Exit → Go.Act → World → Prop} {T : Tm} {L : Bx} {C C0 : List Ass} {ops : Array Oper}
/-! ### A store into an element of a slice that is owned -/
theorem HCUTLV {fuel : Nat} {listed : Array Bool} {i : Nat} (t : TypeId) (x lo : Operand) (d : Nat) (ty : TypeId) (ho : opAt ops T i = some (.slice t x (some lo) none none, some d, ty)) (hd : d < N) (a : Option Addr) (n cap : Nat) (kl : IntKind) (l : Int)
    (hx : evv T x = some (.slice a n cap)) (hl : evv T lo = some (.int kl l)) (e : TypeId) (sz : Nat) (hu : P.underlying t = some (.slice e)) (hs : (P.info? e).map (·.size) = some sz) (h0 : 0 ≤ l) (h1 : l ≤ n)
    (hk : (Region.noSelect ops && Region.free .any ops listed i && (Region.ready .any ops listed).contains i) = true) {js : List Nat} (hC : (pulls js C).map (·.1) = some C0)
    (k : H P N W S0 ops Q C0 fuel (listed.setIfInBounds i true) ((d, .v (.slice (elA a cap l.toNat sz) (n - l.toNat) (cap - l.toNat))) :: T) L C) : H P N W S0 ops Q C0 (fuel + 1) listed T L C := by
  refine HTAKE _ _ _ ho (by rintro _ ⟨⟩; exact hd) (.v (.slice (elA a cap l.toNat sz) (n - l.toNat) (cap - l.toNat))) (by intro j off he; cases he) hk hC ?_ k
  intro ac o bs w hev hop _ _
  obtain ⟨inf, hi, hsz⟩ := Option.map_eq_some_iff.1 hs
  have hel : P.elem t = e := by unfold Program.elem; rw [hu]
  have hu' : P.underlying t = some (.slice (P.elem t)) := by rw [hel]; exact hu
  have e1 : ac.eval x = .slice a n cap := hev x _ (evo_of_evv hx)
  have e2 : ac.eval lo = .int kl l := hev lo _ (evo_of_evv hl)
  simp only [execOp, hop, e1, e2, Option.map_some, Option.map_none, Sem.run_bind, run_sliceAt_slice w t _ _ _ _ hu', run_slice_l w t a n cap hu' kl l h0 h1, hel, run_sizeOf hi, Result.andThen_ok, Sem.run_pure, hsz, sliced, elA, den]
theorem HCUTHV {fuel : Nat} {listed : Array Bool} {i : Nat} (t : TypeId) (x hi : Operand) (d : Nat) (ty : TypeId) (ho : opAt ops T i = some (.slice t x none (some hi) none, some d, ty)) (hd : d < N) (a : Option Addr) (n cap : Nat) (kh : IntKind) (h : Int)
    (hx : evv T x = some (.slice a n cap)) (hl : evv T hi = some (.int kh h)) (e : TypeId) (sz : Nat) (hu : P.underlying t = some (.slice e)) (hs : (P.info? e).map (·.size) = some sz) (h0 : 0 ≤ h) (h1 : h ≤ cap)
    (hk : (Region.noSelect ops && Region.free .any ops listed i && (Region.ready .any ops listed).contains i) = true) {js : List Nat} (hC : (pulls js C).map (·.1) = some C0)
    (k : H P N W S0 ops Q C0 fuel (listed.setIfInBounds i true) ((d, .v (.slice a h.toNat cap)) :: T) L C) : H P N W S0 ops Q C0 (fuel + 1) listed T L C := by
  have hz : a.map (·.add (0 * sz)) = a := by
    cases a with
    | none => rfl
    | some ad => simp only [Option.map_some, Nat.zero_mul]; congr 1
  refine HTAKE _ _ _ ho (by rintro _ ⟨⟩; exact hd) (.v (.slice a h.toNat cap)) (by intro j off he; cases he) hk hC ?_ k
  intro ac o bs w hev hop _ _
  obtain ⟨inf, hi1, hsz⟩ := Option.map_eq_some_iff.1 hs
  have hel : P.elem t = e := by unfold Program.elem; rw [hu]
  have hu' : P.underlying t = some (.slice (P.elem t)) := by rw [hel]; exact hu
  have e1 : ac.eval x = .slice a n cap := hev x _ (evo_of_evv hx)
  have e2 : ac.eval hi = .int kh h := hev hi _ (evo_of_evv hl)
  simp only [execOp, hop, e1, e2, Option.map_some, Option.map_none, Sem.run_bind, run_sliceAt_slice w t _ _ _ _ hu', run_slice_h w t a n cap hu' kh h h0 h1, hel, run_sizeOf hi1, Result.andThen_ok, Sem.run_pure, hsz, sliced, hz, ite_self, Nat.sub_zero, den]
end hrules
end SX
end Go.Proofs.YthnbaikmbgaddaaGreat
