/- Rules for memory that the call makes and writes: make, buildSlice, append, stores into elements. It imports no program. -/
import Derived.Test.YtapbooddmdkgjaaGreatSx6
import Derived.Laws.Slices
import Derived.Laws.MakeOwn
namespace Go.Proofs.YtapbooddmdkgjaaGreat
namespace SX
set_option linter.unusedVariables false
set_option linter.unusedSimpArgs false
open Go Go.RowKit

section rules
variable {P : Program} {N : Nat} {W : World} {S0 : List Nat} {Q : Exit → Act → World → Prop} {T : Tm} {L : Bx} {C : List Ass} {ops : Array Oper}

/-- a step that makes or writes memory -/
theorem STEPM {i : Nat} {K : Act → World → Prop} (op : Op) (d : Option Nat) (ty : TypeId) (ho : opAt ops T i = some (op, d, ty)) (hd : ∀ k, d = some k → k < N) {js : List Nat} {pre R : List Ass} (hp : pulls js C = some (pre, R))
    {ι : Type} {val : ι → Value} {own : ι → List Ass}
    (hrun : ∀ (a : Act) (o : Oper) (bs : List Nat) (w : World) (fps : List (List Nat)), (∀ x s, evo T x = some s → a.eval x = den bs s) → o.op = op → o.type = ty → At W S0 C w → holds w pre fps → fps.flatten.Nodup →
      ∃ (x : ι) (w' : World) (r : Next) (nps : List (List Nat)), (execOp a.eval o).run P w = .ok r w' ∧ (r = .value (val x) ∨ r = .skip ∧ val x = undef) ∧ holds w' (own x) nps ∧ nps.flatten.Nodup ∧ (∀ b ∈ nps.flatten, b < w.heap.size → b ∈ fps.flatten) ∧ Fr fps.flatten w w')
    (k : ∀ x : ι, G N W S0 K (putd d (.v (val x)) T) L (R ++ own x)) : OP P N W S0 ops Q i K T L C := by
  rintro a w ⟨bs, fps, ht, hb, hm⟩
  obtain ⟨o, hi, hw, hop, hdst, hty⟩ := opAt_ok ho ht
  refine op_step hi ?_
  rw [hw, if_pos rfl]
  obtain ⟨xps, hx, hnx, hex⟩ := hm.exch hp
  obtain ⟨x, w', r, nps, hr, hv, hn, hnn, hnew, hfr⟩ := hrun a o bs w xps (fun x s hx => ht.evo hx) hop hty hm.at_ hx hnx
  obtain ⟨fps', hmem⟩ := hex w' _ nps hn hnn hnew hfr
  have hfin : Sat N W S0 (putd d (.v (val x)) T) L (R ++ own x) (a.put o.dst (val x)) w' := by
    refine ⟨bs, fps', ?_, ?_, hmem⟩
    · subst hdst
      exact ht.put (put_putd hd) rfl
    · cases d with
      | none => exact hb
      | some kk => exact hb
  unfold Oper.wp
  rw [hr]
  rcases hv with rfl | ⟨rfl, hv⟩
  · exact k x _ _ hfin
  · rw [hv] at hfin
    rw [← hv] at hfin
    have := k x _ _ hfin
    rw [hv] at this
    exact this

/-- an empty slice, owned -/
theorem NIL {K : Act → World → Prop} {α : Type} (e : TypeId) (La : Lay α) (k : G N W S0 K T L (C ++ [slA e La (.slice none 0 0) []])) : G N W S0 K T L C := by
  rintro a w ⟨bs, fps, ht, hb, hm⟩
  refine k a w ⟨bs, fps ++ [[]], ht, hb, ⟨hm.fr, hm.bx, hm.ch.append ⟨⟨[], [], ownsR_nil w e La.sz, by simp [Value.ownBlock], ⟨rfl, rfl⟩, by simp [maxLen]⟩, trivial⟩, by simpa using hm.nd, by simpa using hm.new⟩⟩

theorem info_at {e : TypeId} {z : Value} {size bytes : Nat} (h : (P.info? e).map (fun i => (i.zero, i.size, i.bytes)) = some (some z, size, bytes)) : ∃ i, P.info? e = some i ∧ i.zero = some z ∧ i.size = size ∧ i.bytes = bytes := info_parts h

theorem made_rows (zs : List Value) (hz : 0 < zs.length) : ∀ n, (madeCells zs.toArray (n * zs.length)).toList = (List.replicate n zs).flatten := by
  intro n
  apply List.ext_getElem?
  intro i
  have hlen : (madeCells zs.toArray (n * zs.length)).toList.length = n * zs.length := by rw [Array.length_toList, size_madeCells]
  have hlen2 : (List.replicate n zs).flatten.length = n * zs.length := by simp
  rcases Nat.lt_or_ge i (n * zs.length) with h | h
  · have hq : i / zs.length < n := Nat.div_lt_of_lt_mul (by rw [Nat.mul_comm]; exact h)
    have hr : i % zs.length < zs.length := Nat.mod_lt _ hz
    have hi : i = (i / zs.length) * zs.length + i % zs.length := by rw [Nat.mul_comm]; exact (Nat.div_add_mod i zs.length).symm
    have key : ∀ (m q r : Nat), q < m → r < zs.length → (List.replicate m zs).flatten[q * zs.length + r]? = zs[r]? := by
      intro m
      induction m with
      | zero => intro q r hq _; omega
      | succ m ih =>
        intro q r hq hr
        rw [List.replicate_succ, List.flatten_cons]
        cases q with
        | zero => rw [Nat.zero_mul, Nat.zero_add, List.getElem?_append_left hr]
        | succ q =>
          rw [List.getElem?_append_right (by rw [Nat.add_mul]; omega), show (q + 1) * zs.length + r - zs.length = q * zs.length + r by rw [Nat.add_mul]; omega]
          exact ih q r (by omega) hr
    have h2 := key n (i / zs.length) (i % zs.length) hq hr
    rw [← hi] at h2
    rw [h2]
    unfold madeCells
    simp only [Array.toList_map, Array.toList_range, List.getElem?_map, List.getElem?_range h, Option.map_some, List.size_toArray]
    rw [List.getElem?_eq_getElem hr]
    simp [hr]
  · rw [List.getElem?_eq_none (by omega), List.getElem?_eq_none (by omega)]

/-- s[lo:] -/
theorem CUTL {i : Nat} {K : Act → World → Prop} (t : TypeId) (x lo : Operand) (d : Nat) (ty : TypeId) (ho : opAt ops T i = some (.slice t x (some lo) none none, some d, ty)) (hd : d < N) (a : Option Addr) (n cap : Nat) (kl : IntKind) (l : Int)
    (hx : evv T x = some (.slice a n cap)) (hl : evv T lo = some (.int kl l)) (e : TypeId) {α : Type} (La : Lay α) (xs : List α) (hu : P.underlying t = some (.slice e)) (hs : (P.info? e).map (·.size) = some La.sz) (h0 : 0 ≤ l) (h1 : l ≤ n) (hn : n = xs.length) (hcap : n ≤ cap)
    (k : ∀ a' : Option Addr, (∀ w, Rd La w a xs → Rd La w a' (xs.drop l.toNat)) → G N W S0 K ((d, .v (.slice a' (n - l.toNat) (cap - l.toNat))) :: T) L C) : OP P N W S0 ops Q i K T L C := by
  refine STEP _ _ _ ho (by rintro _ ⟨⟩; exact hd) (.v (.slice (if cap = l.toNat then a else a.map (·.add (l.toNat * La.sz))) (n - l.toNat) (cap - l.toNat))) (by intro j off he; cases he) ?_ (k _ fun w h => h.drop (by omega) _ (by omega))
  intro ac o bs w hev hop _ _
  obtain ⟨inf, hi, hsz⟩ := Option.map_eq_some_iff.1 hs
  have hel : P.elem t = e := by unfold Program.elem; rw [hu]
  have hu' : P.underlying t = some (.slice (P.elem t)) := by rw [hel]; exact hu
  have e1 : ac.eval x = .slice a n cap := hev x _ (evo_of_evv hx)
  have e2 : ac.eval lo = .int kl l := hev lo _ (evo_of_evv hl)
  simp only [execOp, hop, e1, e2, Option.map_some, Option.map_none, Sem.run_bind, run_sliceAt_slice w t _ _ _ _ hu', run_slice_l w t a n cap hu' kl l h0 h1, hel, run_sizeOf hi, Result.andThen_ok, Sem.run_pure, hsz, sliced, den]
/-- s[:hi] -/
theorem CUTH {i : Nat} {K : Act → World → Prop} (t : TypeId) (x hi : Operand) (d : Nat) (ty : TypeId) (ho : opAt ops T i = some (.slice t x none (some hi) none, some d, ty)) (hd : d < N) (a : Option Addr) (n cap : Nat) (kl : IntKind) (l : Int)
    (hx : evv T x = some (.slice a n cap)) (hl : evv T hi = some (.int kl l)) (e : TypeId) {α : Type} (La : Lay α) (xs : List α) (hu : P.underlying t = some (.slice e)) (hs : (P.info? e).map (·.size) = some La.sz) (h0 : 0 ≤ l) (h1 : l ≤ n) (hn : n = xs.length) (hcap : n ≤ cap)
    (k : ∀ a' : Option Addr, (∀ w, Rd La w a xs → Rd La w a' (xs.take l.toNat)) → G N W S0 K ((d, .v (.slice a' l.toNat cap)) :: T) L C) : OP P N W S0 ops Q i K T L C := by
  have hz : a.map (·.add (0 * La.sz)) = a := by
    cases a with
    | none => rfl
    | some ad => simp only [Option.map_some, Nat.zero_mul]; congr 1
  refine STEP _ _ _ ho (by rintro _ ⟨⟩; exact hd) (.v (.slice a l.toNat cap)) (by intro j off he; cases he) ?_ (k _ fun w h => h.take _)
  intro ac o bs w hev hop _ _
  obtain ⟨inf, hi, hsz⟩ := Option.map_eq_some_iff.1 hs
  have hel : P.elem t = e := by unfold Program.elem; rw [hu]
  have hu' : P.underlying t = some (.slice (P.elem t)) := by rw [hel]; exact hu
  have e1 : ac.eval x = .slice a n cap := hev x _ (evo_of_evv hx)
  have e2 := hev _ _ (evo_of_evv hl)
  simp only [den] at e2
  simp only [execOp, hop, e1, e2, Option.map_some, Option.map_none, Sem.run_bind, run_sliceAt_slice w t _ _ _ _ hu', run_slice_h w t a n cap hu' kl l h0 (by omega), hel, run_sizeOf hi, Result.andThen_ok, Sem.run_pure, hsz, sliced, hz, ite_self, Nat.sub_zero, den]

/-! ### A store into an element of a slice that is owned -/
theorem cellsRep_set {α : Type} {sz : Nat} {enc : α → List Value} {hh : ∀ x, (enc x).length = sz ∧ ∀ u ∈ enc x, isCell u = true} (y : α) : ∀ (xs : List α) (k : Nat), k < xs.length →
    ∀ (off : Nat) (cs : List Value), True → (xs.set k y).flatMap enc = (xs.flatMap enc).take (k * sz) ++ enc y ++ (xs.flatMap enc).drop ((k + 1) * sz)
  | [], k, hk, _, _, _ => by simp at hk
  | x :: xs, 0, hk, _, _, _ => by
    have h := (hh x).1
    simp [List.drop_append, h]
  | x :: xs, k + 1, hk, off, cs, _ => by
    have ih := cellsRep_set (hh := hh) y xs k (by simpa using hk) off cs trivial
    have h := (hh x).1
    simp only [List.set_cons_succ, List.flatMap_cons, ih]
    rw [List.take_append, List.drop_append, h]
    have e1 : (enc x).take ((k + 1) * sz) = enc x := List.take_of_length_le (by rw [h, Nat.add_mul]; omega)
    have e2 : (enc x).drop ((k + 1 + 1) * sz) = [] := List.drop_eq_nil_of_le (by rw [h]; simp only [Nat.add_mul]; omega)
    have e3 : (k + 1) * sz - sz = k * sz := by rw [Nat.add_mul]; omega
    have e4 : (k + 1 + 1) * sz - sz = (k + 1) * sz := by simp only [Nat.add_mul]; omega
    rw [e1, e2, e3, e4]
    simp

theorem setCells_append (cs ds : List Value) : ∀ (vs : List Value) (off : Nat), setCells (cs ++ ds) (cs.length + off) vs = cs ++ setCells ds off vs
  | [], _ => rfl
  | v :: vs, off => by
    simp only [setCells]
    rw [List.set_append_right (h := by omega)]
    have := setCells_append cs (ds.set off v) vs (off + 1)
    rw [show cs.length + off - cs.length = off by omega, show cs.length + off + 1 = cs.length + (off + 1) by omega]
    exact this
theorem setCells_left (cs ds : List Value) : ∀ (vs : List Value) (off : Nat), off + vs.length ≤ cs.length → setCells (cs ++ ds) off vs = setCells cs off vs ++ ds
  | [], _, _ => rfl
  | v :: vs, off, h => by
    simp only [List.length_cons] at h
    simp only [setCells]
    rw [List.set_append_left (h := by omega)]
    exact setCells_left (cs.set off v) ds vs (off + 1) (by simp; omega)
theorem setCells_length : ∀ (vs : List Value) (cs : List Value) (off : Nat), (setCells cs off vs).length = cs.length
  | [], _, _ => rfl
  | v :: vs, cs, off => by simp [setCells, setCells_length vs]

/-- cells stored one behind the other into an owned row -/
theorem run_storeCells_row {e : TypeId} {g ob n cap : Nat} {sz : Nat} : ∀ (vs : List Value) (w : World) (i off : Nat) (xs : List Value), ownsR w e sz (.slice (some ⟨g, ob, none⟩) n cap) n xs →
    vs.all isCell = true → off + i + vs.length ≤ xs.length →
    ∃ w', (storeCells ⟨g, ob + off, none⟩ vs i).run P w = .ok () w' ∧ ownsR w' e sz (.slice (some ⟨g, ob, none⟩) n cap) n (setCells xs (off + i) vs) ∧ w.grownBy w' (some g)
  | [], w, i, off, xs, h, _, _ => ⟨w, by simp [storeCells, Sem.run_pure], h, World.grownBy.refl w _⟩
  | v :: vs, w, i, off, xs, h, ha, hl => by
    simp only [List.all_cons, Bool.and_eq_true] at ha
    simp only [List.length_cons] at hl
    obtain ⟨h1, hg1⟩ := h.stored (off + i) v
    obtain ⟨w', hr, h2, hg2⟩ := run_storeCells_row vs (w.setCell ⟨g, ob + (off + i), none⟩ v) (i + 1) off (xs.set (off + i) v) h1 ha.2 (by rw [List.length_set]; omega)
    refine ⟨w', ?_, by simpa [setCells, Nat.add_assoc] using h2, ⟨hg2.os.trans hg1.os, hg2.tape.trans hg1.tape, hg2.output.trans hg1.output, Nat.le_trans hg1.size hg2.size, fun k hk hne => (hg2.block k (Nat.lt_of_lt_of_le hk hg1.size) hne).trans (hg1.block k hk hne)⟩⟩
    have hst : (store ((⟨g, ob + off, none⟩ : Addr).add i) v).run P w = .ok () (w.setCell ⟨g, ob + (off + i), none⟩ v) := by
      rw [add_lit, Nat.add_assoc]
      have hlen : off + i < n * sz := by have := h.1; omega
      have hc : w.cell? ⟨g, ob + (off + i), none⟩ = some (xs[off + i]'(by omega)) := by rw [h.cellAt (off + i) hlen]; exact List.getElem?_eq_getElem (by omega)
      have hf := h.frozenAt (off + i) hlen
      cases v <;> simp_all [store, Sem.run, isCell]
    simp only [storeCells, Sem.run_bind, hst, Result.andThen_ok]
    exact hr

theorem flatMap_split {α : Type} {sz : Nat} {enc : α → List Value} (hh : ∀ x, (enc x).length = sz ∧ ∀ u ∈ enc x, isCell u = true) : ∀ (xs : List α) (k : Nat) (x : α), xs[k]? = some x →
    xs.flatMap enc = (xs.flatMap enc).take (k * sz) ++ (enc x ++ (xs.flatMap enc).drop ((k + 1) * sz)) ∧ ((xs.flatMap enc).take (k * sz)).length = k * sz
  | [], k, x, h => by simp at h
  | y :: xs, 0, x, h => by
    simp at h; subst h
    have h := (hh y).1
    simp [List.drop_append, h]
  | y :: xs, k + 1, x, h => by
    have h' := (hh y).1
    obtain ⟨ih1, ih2⟩ := flatMap_split hh xs k x (by simpa using h)
    simp only [List.flatMap_cons]
    rw [List.take_append, List.drop_append, h']
    have e1 : (enc y).take ((k + 1) * sz) = enc y := List.take_of_length_le (by rw [h', Nat.add_mul]; omega)
    have e2 : (enc y).drop ((k + 1 + 1) * sz) = [] := List.drop_eq_nil_of_le (by rw [h']; simp only [Nat.add_mul]; omega)
    have e3 : (k + 1) * sz - sz = k * sz := by rw [Nat.add_mul]; omega
    have e4 : (k + 1 + 1) * sz - sz = (k + 1) * sz := by simp only [Nat.add_mul]; omega
    rw [e1, e2, e3, e4]
    refine ⟨?_, by rw [List.length_append, h', ih2, Nat.add_mul]; omega⟩
    rw [List.append_assoc, List.nil_append, ← ih1]

/-- STOREF: a store into the k-th element of a slice that is owned, its data without addresses -/
theorem STOREF {i : Nat} {K : Act → World → Prop} (t : TypeId) (x y : Operand) (ty : TypeId) (ho : opAt ops T i = some (.store t x y, none, ty)) (j : Nat) (R : List Ass) {α : Type} {sz : Nat} {enc : α → List Value} {hh : ∀ x, (enc x).length = sz ∧ ∀ u ∈ enc x, isCell u = true}
    (e : TypeId) (a : Option Addr) (n cap k off : Nat) (xs : List α) (hp : pulls [j] C = some ([slA e (flat sz enc hh) (.slice a n cap) xs], R)) (x0 x1 : α) (hk : xs[k]? = some x0) (v : Value) (hx : evo T x = some (.e a (k * sz) off)) (hy : evv T y = some v)
    (hst : storeOf P t (enc x0) off v = some (enc x1)) (k' : G N W S0 K T L (R ++ [slA e (flat sz enc hh) (.slice a n cap) (xs.set k x1)])) : OP P N W S0 ops Q i K T L C := by
  refine STEPM (js := [j]) (ι := Unit) (val := fun _ => undef) (own := fun _ => [slA e (flat sz enc hh) (.slice a n cap) (xs.set k x1)]) _ none _ ho (by rintro _ ⟨⟩) hp ?_ (fun _ => k')
  intro ac o bs w fps hev hop hty hat hown hnd
  match fps, hown with
  | [fp], ⟨⟨cells, g, hrow, hfp, hrep, hlen⟩, _⟩ =>
    have hkl : k < xs.length := (List.getElem?_eq_some_iff.1 hk).1
    -- the row lies in a block
    rcases hrow.2 with ⟨hv, h0⟩ | ⟨b, ob, cap', cur, fz, hv, _, _⟩
    · omega
    · injection hv with e1 e2 e3
      subst e1; subst e2; subst e3
      have hflat : ∀ (xs : List α) (cells : List Value) (g : List Nat), cellsRep (flat sz enc hh) true w cells xs g → cells = xs.flatMap enc ∧ g = [] := by
        intro xs
        induction xs with
        | nil => intro cells g h; simpa [cellsRep] using h
        | cons z zs ih =>
          rintro cells g ⟨cs, rest, f1, f2, rfl, rfl, ⟨rfl, rfl⟩, h4⟩
          obtain ⟨rfl, rfl⟩ := ih _ _ h4
          simp
      obtain ⟨rfl, rfl⟩ := hflat _ _ _ hrep
      obtain ⟨hs1, hs2⟩ := flatMap_split hh xs k x0 hk
      unfold storeOf at hst
      split at hst
      · rename_i inf hinf
        split at hst
        · rename_i hc
          simp only [Option.some.injEq] at hst
          have hx0 := (hh x0).1
          have hx1 := (hh x1).1
          have hlen2 : k * sz + off + v.cells.toList.length ≤ (xs.flatMap enc).length := by
            rw [hs1, List.length_append, hs2, List.length_append, hx0]
            have := hc.2.1
            simp only [Array.length_toList]
            omega
          obtain ⟨w', hr, hrow', hg⟩ := run_storeCells_row (P := P) v.cells.toList w 0 (k * sz + off) _ hrow hc.2.2 (by simpa using hlen2)
          refine ⟨(), w', .skip, [[b]], ?_, .inr ⟨rfl, rfl⟩, ⟨⟨(xs.set k x1).flatMap enc, [], ?_, by simp [Value.ownBlock], cellsRep_flat _, by simpa using hlen⟩, trivial⟩, by simp, ?_, ?_⟩
          · have h1 : ac.eval x = .pointer (some ⟨b, ob + (k * sz + off), none⟩) := by
              rw [hev x _ hx]; simp [den, addrOf, add_lit]
            have h2 : ac.eval y = v := hev y _ (evo_of_evv hy)
            simp only [execOp, hop, h1, h2, Instr.storeAt, Instr.sureAddr, Sem.run_bind, Sem.run_pure, Result.andThen_ok, storeVar, run_sizeOf hinf, hc.1]
            simp [hr, Sem.run_pure]
          · have : setCells (xs.flatMap enc) (k * sz + off + 0) v.cells.toList = (xs.set k x1).flatMap enc := by
              rw [cellsRep_set (hh := hh) x1 xs k hkl 0 [] trivial, Nat.add_zero]
              generalize hA : (xs.flatMap enc).take (k * sz) = A at *
              generalize hB : (xs.flatMap enc).drop ((k + 1) * sz) = B at *
              rw [hs1, ← hs2, setCells_append, setCells_left _ _ _ _ (by rw [hx0]; have := hc.2.1; simp only [Array.length_toList]; omega), hst]
              rw [List.append_assoc]
            rw [this] at hrow'
            simpa using hrow'
          · intro c hcm _
            simp only [List.flatten_cons, List.flatten_nil, List.append_nil, List.mem_singleton] at hcm
            subst hcm
            simp [hfp, Value.ownBlock]
          · refine ⟨hg.os, hg.tape, hg.output, hg.size, fun c hc' hne => hg.block c hc' (fun hce => hne ?_)⟩
            injection hce with hce
            subst hce
            simp [hfp, Value.ownBlock]
        · cases hst
      · cases hst

/-! ### Slices that are built, and appended -/
theorem isCell_one {u : Value} (h : isCell u = true) : u.oneCell' = true := by cases u <;> simp_all [isCell, Value.oneCell']

def bsOf (P : Program) (t : TypeId) (len : Nat) (parts : List (Nat × Value)) : Option (TypeId × List Value) :=
  match P.underlying t with
  | some (.slice e) =>
    match P.info? e with
    | some i =>
      if len * i.size > 2 ^ 24 then none
      else if len * i.size = 0 then (if len = 0 ∧ parts = [] then some (e, []) else none)
      else match i.zero with
        | some z => match Instr.fill (fun k => some (k * i.size, i.size)) ((Array.range (len * i.size)).map (z.cells[· % z.cells.size]!)) parts with
          | some cells => some (e, cells.toList)
          | none => none
        | none => none
    | none => none
  | _ => none

theorem bsOf_run {t e : TypeId} {len : Nat} {parts : List (Nat × Value)} {cells : List Value} (h : bsOf P t len parts = some (e, cells)) (w : World) :
    (Instr.buildSlice t len parts.toArray).run P w = .ok (.slice (some ⟨w.heap.size, 0, none⟩) len len) (w.alloc (.cells cells.toArray e)) := by
  unfold bsOf at h
  split at h
  · rename_i e' hu
    split at h
    · rename_i i hi
      split at h
      · cases h
      · rename_i h24
        split at h
        · split at h
          · rename_i h0 hc
            obtain ⟨rfl, rfl⟩ := hc
            simp only [Option.some.injEq, Prod.mk.injEq] at h
            obtain ⟨rfl, rfl⟩ := h
            unfold Instr.buildSlice
            rw [Sem.run_bind, run_underlying hu w]
            simp only [Result.andThen_ok]
            rw [Sem.run_bind, run_sizeOf hi]
            simp only [Result.andThen_ok, if_neg h24, if_pos h0]
            simp only [Sem.run_bind, Sem.run_pure, Result.andThen_ok]
            simp [Instr.fill, newRow]
            rw [show ∀ f : Nat → Value, Array.map f (Array.range 0) = #[] from fun f => Array.eq_empty_of_size_eq_zero (by simp)]
          · cases h
        · rename_i h0
          split at h
          · rename_i z hz
            split at h
            · rename_i cs hf
              simp only [Option.some.injEq, Prod.mk.injEq] at h
              obtain ⟨rfl, rfl⟩ := h
              unfold Instr.buildSlice
              rw [Sem.run_bind, run_underlying hu w]
              simp only [Result.andThen_ok]
              rw [Sem.run_bind, run_sizeOf hi]
              simp only [Result.andThen_ok, if_neg h24, if_neg h0]
              have hz' : (zeroValue e').run P w = .ok z w := by simp [zeroValue, typeInfo, hi, hz]
              simp only [Sem.run_bind, hz', Result.andThen_ok, Sem.run_pure]
              rw [hf]
              rfl
            · cases h
          · cases h
    · cases h
  · cases h

def partsOf (T : Tm) : List (Nat × Operand) → Option (List (Nat × Value))
  | [] => some []
  | (i, x) :: r => match evv T x, partsOf T r with
    | some v, some l => some ((i, v) :: l)
    | _, _ => none

theorem partsOf_ok {ac : Act} {bs : List Nat} (hev : ∀ x s, evo T x = some s → ac.eval x = den bs s) : ∀ {l : List (Nat × Operand)} {r}, partsOf T l = some r → l.map (fun (p : Nat × Operand) => (p.1, ac.eval p.2)) = r
  | [], r, h => by simp [partsOf] at h; subst h; rfl
  | (i, x) :: l, r, h => by
    simp only [partsOf] at h
    split at h
    · rename_i v l' hv hl
      simp only [Option.some.injEq] at h
      subst h
      have h1 : ac.eval x = v := hev x _ (evo_of_evv hv)
      simp [partsOf_ok hev hl, h1]
    · cases h

theorem take_set_here : ∀ (cs : List Value) (off : Nat) (v : Value), off < cs.length → (cs.set off v).take (off + 1) = cs.take off ++ [v]
  | [], off, v, h => by simp at h
  | c :: cs, 0, v, _ => by simp
  | c :: cs, off + 1, v, h => by simp [take_set_here cs off v (by simpa using h)]
theorem setCells_take : ∀ (vs cs : List Value) (off : Nat), off + vs.length ≤ cs.length → (setCells cs off vs).take (off + vs.length) = cs.take off ++ vs
  | [], cs, off, _ => by simp [setCells]
  | v :: vs, cs, off, h => by
    simp only [List.length_cons] at h
    have ih := setCells_take vs (cs.set off v) (off + 1) (by simp; omega)
    simp only [setCells, List.length_cons]
    rw [show off + (vs.length + 1) = off + 1 + vs.length by omega, ih, take_set_here cs off v (by omega)]
    simp

/-- append onto what is owned, whatever is appended -/
theorem run_append_R {w : World} {t tx ty e : TypeId} {i : TypeInfo} {z : Value} {size bytes : Nat} (ht : P.underlying t = some (.slice e)) (hi : P.info? e = some i) (hz : i.zero = some z)
    (hsize : i.size = size) (hby : i.bytes = bytes) (hzs : z.cells.size = size) {v : Value} {n : Nat} {xs : List Value} (hown : ownsR w e size v n xs)
    {x : Value} {m : Nat} {news : List Value} (hs : Src P size tx x m news w) (h1 : ∀ u ∈ news, isCell u = true) (h63 : n + m ≤ maxLen) (hbytes : (n + m) * bytes ≤ 140737488355328) :
    ∃ v' w', (Builtin.append_ #[t, tx] ty #[v, x]).run P w = .ok v' w' ∧ ownsR w' e size v' (n + m) (xs ++ news) ∧ w.grownBy w' v.ownBlock ∧ (v'.ownBlock = v.ownBlock ∨ v'.ownBlock = some w.heap.size) := by
  subst hsize
  subst hby
  have hlen : (xs ++ news).length = (n + m) * i.size := by rw [List.length_append, hown.1, hs.newsLen, Nat.add_mul]
  have hsmall : n + m ≤ 9223372036854775807 := by simp only [maxLen] at h63; omega
  have grown : ∀ (base : Option Addr) (cap : Nat), v = .slice base n cap → cap < n + m → Builtin.nextslicecap (n + m) cap * i.bytes ≤ 281474976710656 →
      (Builtin.firstCells i.size n (.slice base n cap)).run P w.drew = .ok xs.toArray w.drew → ∃ v' w', (Builtin.append_ #[t, tx] ty #[v, x]).run P w = .ok v' w' ∧ ownsR w' e i.size v' (n + m) (xs ++ news) ∧ w.grownBy w' v.ownBlock ∧ (v'.ownBlock = v.ownBlock ∨ v'.ownBlock = some w.heap.size) := by
    intro base cap hv hlt hfit hold
    subst hv
    have hr := run_append_grow_src (P := P) w t tx ty e i z ht hi hz base n cap xs hold x m news hs hlt (by omega) hfit
    have hge := grownCap_ge w (n + m) cap e
    have hcm : grownCap w (n + m) cap e ≤ maxLen := grownCap_le_maxLen w (n + m) cap e h63
    refine ⟨_, _, hr, ⟨hlen, .inr ⟨w.heap.size, 0, _, _, (0, 0), rfl, heap_alloc_new w.drew _, .inl (Nat.le_refl _), hge, hcm, ?_, ?_⟩⟩, ⟨rfl, rfl, rfl, by simp, fun k hk _ => Below.heap_alloc w.drew _ k hk⟩, .inr rfl⟩
    · refine Nat.le_of_eq (Eq.symm ?_)
      simp only [Array.size_append, List.size_toArray, size_zeroCells, hzs, hlen, ← Nat.add_mul, Nat.zero_add]
      congr 1
      omega
    · simp only [Array.toList_append, List.drop_zero]
      rw [← hlen]
      exact List.take_left
  rcases hown.2 with ⟨rfl, rfl⟩ | ⟨g, ob, cap, cur, fz, rfl, hg, hfz, hnc, hcm, hcs, htake⟩
  · have hx : xs = [] := List.eq_nil_of_length_eq_zero (by simpa using hown.1)
    subst hx
    by_cases hm : m = 0
    · subst hm
      have hn : news = [] := List.eq_nil_of_length_eq_zero (by simpa using hs.newsLen)
      subst hn
      refine ⟨.slice none 0 0, w, ?_, ownsR_nil w e i.size, ⟨rfl, rfl, rfl, Nat.le_refl _, fun _ _ _ => rfl⟩, Or.inl rfl⟩
      rcases hs.kind with ⟨e', hk⟩ | hk <;> simp [Builtin.append_, run_underlying ht, run_underlying hk, sizeOf, typeInfo, hi, hs.len, hs.cells]
    · exact grown none 0 rfl (by omega) (by rw [nextslicecap_zero (by omega)]; omega) (by simp [Builtin.firstCells])
  · by_cases hroom : n + m ≤ cap
    · obtain ⟨full, hfull, hft, _, _⟩ := hown.all
      have hmul : (n + m) * i.size ≤ cap * i.size := Nat.mul_le_mul_right _ hroom
      have hfit : n * i.size + 0 + news.length ≤ full.length := by rw [hs.newsLen, hfull.1, Nat.add_zero, ← Nat.add_mul]; exact hmul
      obtain ⟨w', hr, hrow, hgr⟩ := run_storeCells_row (P := P) news w 0 (n * i.size) full hfull (by simpa [List.all_eq_true] using h1) (by omega)
      refine ⟨.slice (some ⟨g, ob, none⟩) (n + m) cap, w', ?_, ?_, hgr, Or.inl rfl⟩
      · rcases hs.kind with ⟨e', hk⟩ | hk <;> simp [Builtin.append_, run_underlying ht, run_underlying hk, sizeOf, typeInfo, hi, hs.len, hroom, hs.cells, add_lit, hr]
      · have := hrow.part hroom
        rw [Nat.add_zero] at this
        have hnl := hs.newsLen
        rw [show (n + m) * i.size = n * i.size + news.length by rw [hnl, Nat.add_mul], setCells_take _ _ _ (by omega), hft] at this
        exact this
    · exact grown (some ⟨g, ob, none⟩) cap rfl (by omega) (growslice_fits (by omega) (by omega)) (run_firstCells_some w.drew i.size n _ n cap xs hown.1 (by simpa using hown.cells))

/-- BUILDS: []T{..}: a new slice of the elements xs; the places js are what those elements own -/
theorem BUILDS {i : Nat} {K : Act → World → Prop} (t : TypeId) (len : Nat) (parts : Array (Nat × Operand)) (d : Nat) (ty : TypeId) (ho : opAt ops T i = some (.buildSlice t len parts, some d, ty)) (hd : d < N) (e : TypeId) (cells : List Value)
    (hb : (partsOf T parts.toList).bind (bsOf P t len) = some (e, cells)) {α : Type} (La : Lay α) (xs : List α) (hl : xs.length = len) (hm : len ≤ maxLen) (js : List Nat) (pre R : List Ass) (hp : pulls js C = some (pre, R))
    (hrep : ∀ w fps, holds w pre fps → cellsRep La true w cells xs fps.flatten)
    (k : ∀ a : Option Addr, a.isSome = true → G N W S0 K ((d, .v (.slice a len len)) :: T) L (R ++ [slA e La (.slice a len len) xs])) : OP P N W S0 ops Q i K T L C := by
  refine STEPM (js := js) (ι := {a : Option Addr // a.isSome = true}) (val := fun a => .slice a.1 len len) (own := fun a => [slA e La (.slice a.1 len len) xs]) _ (some d) _ ho (by rintro _ ⟨⟩; exact hd) hp ?_ (fun a => k a.1 a.2)
  intro ac o bs w fps hev hop hty hat hown hnd
  obtain ⟨pl, hpl, hbs⟩ := Option.bind_eq_some_iff.1 hb
  have hr := bsOf_run hbs w
  have hmap : parts.map (fun (p : Nat × Operand) => (p.1, ac.eval p.2)) = pl.toArray := by
    rw [← partsOf_ok hev hpl]
    rcases parts with ⟨l⟩
    simp
  have hrep' := hrep w fps hown
  have hlt := holds.lt hown
  have hcl := hrep'.len
  have hold : ∀ b, b < w.heap.size → (w.alloc (.cells cells.toArray e)).heap[b]? = w.heap[b]? := fun b hb => Below.heap_alloc _ _ _ hb
  refine ⟨⟨some ⟨w.heap.size, 0, none⟩, rfl⟩, w.alloc (.cells cells.toArray e), _, [w.heap.size :: fps.flatten], ?_, .inl rfl, ⟨⟨cells, fps.flatten, ?_, by simp [Value.ownBlock], hrep'.st fun b hbm => hold b (hlt b hbm), by rw [hl]; exact hm⟩, trivial⟩, ?_, ?_, ?_⟩
  · simp only [execOp, hop, hmap, Sem.run_bind, hr, Result.andThen_ok, Sem.run_pure]
  · rw [hl]
    exact ownsR.of (World.ownsRow_lit w cells.toArray len (Nat.zero_le _) hm (by simp [hcl, hl]))
  · simp only [List.flatten_cons, List.flatten_nil, List.append_nil, List.nodup_cons]
    exact ⟨fun hbm => by have := hlt _ hbm; omega, hnd⟩
  · intro b hbm hb
    simp only [List.flatten_cons, List.flatten_nil, List.append_nil, List.mem_cons] at hbm
    rcases hbm with rfl | hbm
    · omega
    · exact hbm
  · exact ⟨rfl, rfl, rfl, by simp, fun b hb _ => hold b hb⟩

/-- APPENDO: append(s, x...), both owned -/
theorem APPENDO {i : Nat} {K : Act → World → Prop} (t : TypeId) (s x : Operand) (d : Nat) (ty : TypeId) (ho : opAt ops T i = some (.call { callee := .builtin .append, args := #[s, x], argTypes := #[t, t] }, some d, ty)) (hd : d < N)
    (v : Value) (a2 : Option Addr) (n2 c2 : Nat) (hs : evv T s = some v) (hx : evv T x = some (.slice a2 n2 c2)) (ha2 : a2.isSome = true) (e : TypeId) (hu : P.underlying t = some (.slice e)) {α : Type} (La : Lay α) (z : Value) (bytes : Nat)
    (hi : (P.info? e).map (fun i => (i.zero, i.size, i.bytes)) = some (some z, La.sz, bytes)) (hz : z.cells.size = La.sz) (hsz : 0 < La.sz) (j1 j2 : Nat) (xs ys : List α) (R : List Ass) (hp : pulls [j1, j2] C = some ([slA e La v xs, slA e La (.slice a2 n2 c2) ys], R))
    (hn2 : ys.length = n2) (hlen : (xs.length + n2) * bytes ≤ 140737488355328) (hlen' : xs.length + n2 ≤ maxLen)
    (k : ∀ (a : Option Addr) (c : Nat), (a = none → (xs ++ ys).length = 0) → G N W S0 K ((d, .v (.slice a (xs ++ ys).length c)) :: T) L (R ++ [slA e La (.slice a (xs ++ ys).length c) (xs ++ ys)])) : OP P N W S0 ops Q i K T L C := by
  have hxy : (xs ++ ys).length = xs.length + n2 := by rw [List.length_append, hn2]
  rw [hxy] at k
  obtain ⟨inf, h1, h2, h3, h4⟩ := info_at hi
  refine STEPM (js := [j1, j2]) (ι := {p : Option Addr × Nat // p.1 = none → xs.length + n2 = 0}) (val := fun p => .slice p.1.1 (xs.length + n2) p.1.2) (own := fun p => [slA e La (.slice p.1.1 (xs.length + n2) p.1.2) (xs ++ ys)]) _ (some d) _ ho (by rintro _ ⟨⟩; exact hd) hp ?_ (fun p => k p.1.1 p.1.2 p.2)
  intro ac o bs w fps hev hop hty hat hown hnd
  match fps, hown with
  | [f1, f2], ⟨⟨cells1, g1, hrow1, hf1, hrep1, hl1⟩, ⟨cells2, g2, hrow2, hf2, hrep2, hl2⟩, _⟩ =>
    subst hn2
    obtain ⟨ad, rfl⟩ := Option.isSome_iff_exists.1 ha2
    have hblk2 : ∃ b o9, ad = ⟨b, o9, none⟩ ∧ ∀ (j : Nat) (u : Value), cells2[j]? = some u → w.cell? (ad.add j) = some u := by
      rcases hrow2.2 with ⟨hv, _⟩ | ⟨b, ob, cap', cur, fz, hv, _⟩
      · cases hv
      · injection hv with e1 e2 e3
        injection e1 with e1
        subst e1
        exact ⟨b, ob, rfl, fun j u hj => hrow2.cells j u hj⟩
    obtain ⟨b2, o9, rfl, hcell2⟩ := hblk2
    obtain ⟨v', w', hr, hown', hg, hblk⟩ := run_append_R (P := P) (ty := o.type) hu h1 h2 h3 h4 hz hrow1 (Src.ofSlice w hu ⟨b2, o9, none⟩ ys.length c2 cells2 hrow2.1 hcell2 (fun u hu => isCell_one (hrep2.one u hu))) hrep2.one hlen' hlen
    have hf1lt : ∀ b ∈ f1, b < w.heap.size := (slA e La v xs).lt w f1 ⟨cells1, g1, hrow1, hf1, hrep1, hl1⟩
    have hf2lt : ∀ b ∈ f2, b < w.heap.size := (slA e La _ ys).lt w f2 ⟨cells2, g2, hrow2, hf2, hrep2, hl2⟩
    -- the blocks of the elements are none of the row's
    have hnd12 : (f1 ++ f2).Nodup := by simpa using hnd
    have hkeep : ∀ b ∈ g1 ++ g2, w'.heap[b]? = w.heap[b]? := by
      intro b hb
      have hin : b ∈ f1 ++ f2 := by
        rcases List.mem_append.1 hb with hb | hb
        · exact List.mem_append.2 (.inl (by rw [hf1]; exact List.mem_append.2 (.inr hb)))
        · exact List.mem_append.2 (.inr (by rw [hf2]; exact List.mem_append.2 (.inr hb)))
      refine hg.block b ?_ ?_
      · rcases List.mem_append.1 hin with h | h
        · exact hf1lt b h
        · exact hf2lt b h
      · intro hbv
        have hv : b ∈ v.ownBlock.toList := by simp [← hbv]
        have hd12 := List.nodup_append.1 hnd12
        rcases List.mem_append.1 hb with hb | hb
        · have := hd12.1
          rw [hf1] at this
          exact (List.nodup_append.1 this).2.2 b hv b hb rfl
        · exact hd12.2.2 b (by rw [hf1]; exact List.mem_append.2 (.inl hv)) b (by rw [hf2]; exact List.mem_append.2 (.inr hb)) rfl
    have hform : ∃ a c, v' = .slice a (xs.length + ys.length) c ∧ (a = none → xs.length + ys.length = 0) := by
      rcases hown'.2 with ⟨rfl, h0⟩ | ⟨b, ob, cap', cur, fz, rfl, _⟩
      · exact ⟨none, 0, by rw [h0], fun _ => h0⟩
      · exact ⟨_, _, rfl, by intro h; cases h⟩
    obtain ⟨a', c', rfl, hnone⟩ := hform
    have hg12 : (g1 ++ g2).Nodup := by
      have hd12 := List.nodup_append.1 hnd12
      refine List.nodup_append.2 ⟨?_, ?_, fun p hp q hq => hd12.2.2 p (by rw [hf1]; exact List.mem_append.2 (.inr hp)) q (by rw [hf2]; exact List.mem_append.2 (.inr hq))⟩
      · have := hd12.1; rw [hf1] at this; exact (List.nodup_append.1 this).2.1
      · have := hd12.2.1; rw [hf2] at this; exact (List.nodup_append.1 this).2.1
    have hnewblk : ∀ b, (Value.slice a' (xs.length + ys.length) c').ownBlock = some b → b ∈ v.ownBlock.toList ∨ b = w.heap.size := by
      intro b hb
      rcases hblk with h | h
      · left; rw [← h, hb]; simp
      · right; rw [hb] at h; injection h
    refine ⟨⟨(a', c'), hnone⟩, w', _, [(Value.slice a' (xs.length + ys.length) c').ownBlock.toList ++ (g1 ++ g2)], ?_, .inl rfl, ⟨⟨cells1 ++ cells2, g1 ++ g2, by simpa using hown', rfl, (hrep1.append hrep2).st hkeep, by simpa using hlen'⟩, trivial⟩, ?_, ?_, ?_⟩
    · have e1 : ac.eval s = v := hev s _ (evo_of_evv hs)
      have e2 : ac.eval x = .slice (some ⟨b2, o9, none⟩) ys.length c2 := hev x _ (evo_of_evv hx)
      simp [execOp, hop, resolve, invoke, builtin, e1, e2, hr, Result.andThen]
    · simp only [List.flatten_cons, List.flatten_nil, List.append_nil]
      refine List.nodup_append.2 ⟨by cases (Value.slice a' (xs.length + ys.length) c').ownBlock <;> simp, hg12, ?_⟩
      rintro p hp q hq rfl
      have hq' : p ∈ f1 ++ f2 := by
        rcases List.mem_append.1 hq with h | h
        · exact List.mem_append.2 (.inl (by rw [hf1]; exact List.mem_append.2 (.inr h)))
        · exact List.mem_append.2 (.inr (by rw [hf2]; exact List.mem_append.2 (.inr h)))
      rcases hnewblk p (by simpa using hp) with h | h
      · have hd12 := List.nodup_append.1 hnd12
        rcases List.mem_append.1 hq with hq | hq
        · have := hd12.1
          rw [hf1] at this
          exact (List.nodup_append.1 this).2.2 p h p hq rfl
        · exact hd12.2.2 p (by rw [hf1]; exact List.mem_append.2 (.inl h)) p (by rw [hf2]; exact List.mem_append.2 (.inr hq)) rfl
      · rcases List.mem_append.1 hq' with h' | h'
        · have := hf1lt p h'; omega
        · have := hf2lt p h'; omega
    · intro b hbm hlt
      simp only [List.flatten_cons, List.flatten_nil, List.append_nil] at hbm ⊢
      rcases List.mem_append.1 hbm with h | h
      · rcases hnewblk b (by simpa using h) with h | h
        · exact List.mem_append.2 (.inl (by rw [hf1]; exact List.mem_append.2 (.inl h)))
        · omega
      · rcases List.mem_append.1 h with h | h
        · exact List.mem_append.2 (.inl (by rw [hf1]; exact List.mem_append.2 (.inr h)))
        · exact List.mem_append.2 (.inr (by rw [hf2]; exact List.mem_append.2 (.inr h)))
    · refine ⟨hg.os, hg.tape, hg.output, hg.size, fun b hb hne => hg.block b hb (fun hbv => hne ?_)⟩
      simp only [List.flatten_cons, List.flatten_nil, List.append_nil]
      exact List.mem_append.2 (.inl (by rw [hf1]; exact List.mem_append.2 (.inl (by simp [← hbv]))))
end rules
end SX
end Go.Proofs.YtapbooddmdkgjaaGreat
