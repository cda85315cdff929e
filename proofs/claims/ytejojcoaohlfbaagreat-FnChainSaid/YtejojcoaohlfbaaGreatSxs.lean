/- Texts of this claim, put together by program. -/
import Derived.Test.YtejojcoaohlfbaaGreatSx6
import Derived.Laws.Slices
import Derived.Laws.MakeOwn
import Derived.Deep.Quiet
import Derived.Laws.IdiomStrings
import Derived.Laws.Strings3
import Derived.Laws.Concat
import Derived.Laws.OwnMore
import Derived.Lib.AppendStr
namespace Go.Proofs.YtejojcoaohlfbaaGreat
namespace SX
set_option linter.unusedVariables false
set_option linter.unusedSimpArgs false
open Go Go.RowKit
section rules
variable {P : Program} {N : Nat} {W : World} {S0 : List Nat} {Q : Exit → Act → World → Prop} {T : Tm} {L : Bx} {C : List Ass} {ops : Array Oper}
theorem STEPM {i : Nat} {K : Act → World → Prop} (op : Op) (d : Option Nat) (ty : TypeId) (ho : opAt ops T i = some (op, d, ty)) (hd : ∀ k, d = some k → k < N) {js : List Nat} {pre R : List Ass} (hp : pulls js C = some (pre, R))
 {ι : Type} {val : ι → Value} {own : ι → List Ass}
 (hrun : ∀ (a : Act) (o : Oper) (bs : List Nat) (w : World) (fps : List (List Nat)), (∀ x s, evo T x = some s → a.eval x = den bs s) → o.op = op → o.type = ty → At W S0 C w → holds w pre fps → fps.flatten.Nodup →
   ∃ (x : ι) (w' : World) (r : Next) (nps : List (List Nat)), (execOp a.eval o).run P w = .ok r w' ∧ (r = .value (val x) ∨ r = .skip ∧ val x = undef) ∧ holds w' (own x) nps ∧ nps.flatten.Nodup ∧ (∀ b ∈ nps.flatten, b < w.heap.size → b ∈ fps.flatten) ∧ Fr fps.flatten w w')
 (k : ∀ x : ι, G N W S0 K (putd d (.v (val x)) T) L (R ++ own x)) : OP P N W S0 ops Q i K T L C := by
 rintro a w ⟨bs, fps, ht, hb, hm⟩
 obtain ⟨o, hi, hw, hop, hdst, hty⟩ := opAt_ok ho ht
 refine op_step hi ?_
 rw [hw, if_pos rfl]
 obtain ⟨xps, hx, hnx, hex⟩ := hm.exch hp
 obtain ⟨x, w', r, nps, hr, hv, hn, hnn, hnew, hfr⟩ := hrun a o bs w xps (fun x s hx => ht.evo hx) hop hty hm.at_ hx hnx
 obtain ⟨fps', hmem⟩ := hex w' _ nps hn hnn hnew hfr
 have hfin : Sat N W S0 (putd d (.v (val x)) T) L (R ++ own x) (a.put o.dst (val x)) w' := by
  refine ⟨bs, fps', ?_, ?_, hmem⟩
  · subst hdst
    exact ht.put (put_putd hd) rfl
  · cases d with
    | none => exact hb
    | some kk => exact hb
 unfold Oper.wp
 rw [hr]
 rcases hv with rfl | ⟨rfl, hv⟩
 · exact k x _ _ hfin
 · rw [hv] at hfin
   rw [← hv] at hfin
   have := k x _ _ hfin
   rw [hv] at this
   exact this
theorem NIL {K : Act → World → Prop} {α : Type} (e : TypeId) (La : Lay α) (k : G N W S0 K T L (C ++ [slA e La (.slice none 0 0) []])) : G N W S0 K T L C := by
 rintro a w ⟨bs, fps, ht, hb, hm⟩
 refine k a w ⟨bs, fps ++ [[]], ht, hb, ⟨hm.fr, hm.bx, hm.ch.append ⟨⟨[], [], ownsR_nil w e La.sz, by simp [Value.ownBlock], ⟨rfl, rfl⟩, by simp [maxLen]⟩, trivial⟩, by simpa using hm.nd, by simpa using hm.new⟩⟩
theorem info_at {e : TypeId} {z : Value} {size bytes : Nat} (h : (P.info? e).map (fun i => (i.zero, i.size, i.bytes)) = some (some z, size, bytes)) : ∃ i, P.info? e = some i ∧ i.zero = some z ∧ i.size = size ∧ i.bytes = bytes := info_parts h
theorem made_rows (zs : List Value) (hz : 0 < zs.length) : ∀ n, (madeCells zs.toArray (n * zs.length)).toList = (List.replicate n zs).flatten := by
 intro n
 apply List.ext_getElem?
 intro i
 have hlen : (madeCells zs.toArray (n * zs.length)).toList.length = n * zs.length := by rw [Array.length_toList, size_madeCells]
 have hlen2 : (List.replicate n zs).flatten.length = n * zs.length := by simp
 rcases Nat.lt_or_ge i (n * zs.length) with h | h
 · have hq : i / zs.length < n := Nat.div_lt_of_lt_mul (by rw [Nat.mul_comm]; exact h)
   have hr : i % zs.length < zs.length := Nat.mod_lt _ hz
   have hi : i = (i / zs.length) * zs.length + i % zs.length := by rw [Nat.mul_comm]; exact (Nat.div_add_mod i zs.length).symm
   have key : ∀ (m q r : Nat), q < m → r < zs.length → (List.replicate m zs).flatten[q * zs.length + r]? = zs[r]? := by
    intro m
    induction m with
    | zero => intro q r hq _; omega
    | succ m ih =>
      intro q r hq hr
      rw [List.replicate_succ, List.flatten_cons]
      cases q with
      | zero => rw [Nat.zero_mul, Nat.zero_add, List.getElem?_append_left hr]
      | succ q =>
        rw [List.getElem?_append_right (by rw [Nat.add_mul]; omega), show (q + 1) * zs.length + r - zs.length = q * zs.length + r by rw [Nat.add_mul]; omega]
        exact ih q r (by omega) hr
   have h2 := key n (i / zs.length) (i % zs.length) hq hr
   rw [← hi] at h2
   rw [h2]
   unfold madeCells
   simp only [Array.toList_map, Array.toList_range, List.getElem?_map, List.getElem?_range h, Option.map_some, List.size_toArray]
   rw [List.getElem?_eq_getElem hr]
   simp [hr]
 · rw [List.getElem?_eq_none (by omega), List.getElem?_eq_none (by omega)]
theorem MAKE {i : Nat} {K : Act → World → Prop} (t : TypeId) (l c : Operand) (d : Nat) (ty : TypeId) (ho : opAt ops T i = some (.makeSlice t l c, some d, ty)) (hd : d < N) (n : Nat)
 (hl : evv T l = some (vi n)) (hc : evv T c = some (vi n)) (e : TypeId) (hu : P.underlying t = some (.slice e)) {α : Type} {sz : Nat} (enc : α → List Value) (hh : ∀ x, (enc x).length = sz ∧ ∀ u ∈ enc x, isCell u = true)
 (x0 : α) (z : Value) (bytes : Nat) (hz : z.cells.toList = enc x0) (hi : (P.info? e).map (fun i => (i.zero, i.size, i.bytes)) = some (some z, sz, bytes)) (hsz : 0 < sz) (hn : bytes * n ≤ 281474976710656) (hn' : n ≤ maxLen)
 (k : ∀ a : Option Addr, a.isSome = true → G N W S0 K ((d, .v (.slice a n n)) :: T) L (C ++ [slA e (flat sz enc hh) (.slice a n n) (List.replicate n x0)])) : OP P N W S0 ops Q i K T L C := by
 obtain ⟨inf, h1, h2, h3, h4⟩ := info_at hi
 refine STEPM (js := []) (pre := []) (R := C) (ι := {a : Option Addr // a.isSome = true}) (val := fun a => .slice a.1 n n) (own := fun a => [slA e (flat sz enc hh) (.slice a.1 n n) (List.replicate n x0)]) _ (some d) _ ho (by rintro _ ⟨⟩; exact hd) rfl ?_ (fun a => k a.1 a.2)
 intro a o bs w fps hev hop hty hat hh' hnd
 obtain ⟨w', hr, hown, hg⟩ := run_make_full (P := P) w 0 t e inf z sz hu h1 h2 h3 .i64 .i64 n (by rw [h4]; exact hn) hn' (Nat.zero_le _)
 refine ⟨⟨some ⟨w.heap.size, 0, none⟩, rfl⟩, w', _, [[w.heap.size]], ?_, .inl rfl, ⟨⟨_, [], by simpa [flat] using ownsR.of hown, by simp [Value.ownBlock], ?_, by simpa using hn'⟩, trivial⟩, by simp, ?_, ?_⟩
 · simp only [execOp, hop, hev l _ (evo_of_evv hl), hev c _ (evo_of_evv hc), den, Sem.run_bind, hr, Result.andThen_ok, Sem.run_pure]
 · have hzl : z.cells.toList.length = sz := by rw [hz]; exact (hh x0).1
   have hm := made_rows z.cells.toList (by omega) n
   rw [hzl, Array.toArray_toList] at hm
   rw [hm, hz]
   have : (List.replicate n (enc x0)).flatten = (List.replicate n x0).flatMap enc := by rw [List.flatMap_replicate]
   rw [this]
   exact cellsRep_flat _
 · intro b hb hlt; simp at hb; omega
 · exact ⟨hg.os, hg.tape, hg.output, hg.size, fun b hb _ => hg.block b hb (by simp)⟩
theorem CUTL {i : Nat} {K : Act → World → Prop} (t : TypeId) (x lo : Operand) (d : Nat) (ty : TypeId) (ho : opAt ops T i = some (.slice t x (some lo) none none, some d, ty)) (hd : d < N) (a : Option Addr) (n cap : Nat) (kl : IntKind) (l : Int)
 (hx : evv T x = some (.slice a n cap)) (hl : evv T lo = some (.int kl l)) (e : TypeId) {α : Type} (La : Lay α) (xs : List α) (hu : P.underlying t = some (.slice e)) (hs : (P.info? e).map (·.size) = some La.sz) (h0 : 0 ≤ l) (h1 : l ≤ n) (hn : n = xs.length) (hcap : n ≤ cap)
 (k : ∀ a' : Option Addr, (∀ w, Rd La w a xs → Rd La w a' (xs.drop l.toNat)) → G N W S0 K ((d, .v (.slice a' (n - l.toNat) (cap - l.toNat))) :: T) L C) : OP P N W S0 ops Q i K T L C := by
 refine STEP _ _ _ ho (by rintro _ ⟨⟩; exact hd) (.v (.slice (if cap = l.toNat then a else a.map (·.add (l.toNat * La.sz))) (n - l.toNat) (cap - l.toNat))) (by intro j off he; cases he) ?_ (k _ fun w h => h.drop (by omega) _ (by omega))
 intro ac o bs w hev hop _ _
 obtain ⟨inf, hi, hsz⟩ := Option.map_eq_some_iff.1 hs
 have hel : P.elem t = e := by unfold Program.elem; rw [hu]
 have hu' : P.underlying t = some (.slice (P.elem t)) := by rw [hel]; exact hu
 have e1 : ac.eval x = .slice a n cap := hev x _ (evo_of_evv hx)
 have e2 : ac.eval lo = .int kl l := hev lo _ (evo_of_evv hl)
 simp only [execOp, hop, e1, e2, Option.map_some, Option.map_none, Sem.run_bind, run_sliceAt_slice w t _ _ _ _ hu', run_slice_l w t a n cap hu' kl l h0 h1, hel, run_sizeOf hi, Result.andThen_ok, Sem.run_pure, hsz, sliced, den]
theorem CUTH {i : Nat} {K : Act → World → Prop} (t : TypeId) (x hi : Operand) (d : Nat) (ty : TypeId) (ho : opAt ops T i = some (.slice t x none (some hi) none, some d, ty)) (hd : d < N) (a : Option Addr) (n cap : Nat) (kl : IntKind) (l : Int)
 (hx : evv T x = some (.slice a n cap)) (hl : evv T hi = some (.int kl l)) (e : TypeId) {α : Type} (La : Lay α) (xs : List α) (hu : P.underlying t = some (.slice e)) (hs : (P.info? e).map (·.size) = some La.sz) (h0 : 0 ≤ l) (h1 : l ≤ n) (hn : n = xs.length) (hcap : n ≤ cap)
 (k : ∀ a' : Option Addr, (∀ w, Rd La w a xs → Rd La w a' (xs.take l.toNat)) → G N W S0 K ((d, .v (.slice a' l.toNat cap)) :: T) L C) : OP P N W S0 ops Q i K T L C := by
 have hz : a.map (·.add (0 * La.sz)) = a := by
  cases a with
  | none => rfl
  | some ad => simp only [Option.map_some, Nat.zero_mul]; congr 1
 refine STEP _ _ _ ho (by rintro _ ⟨⟩; exact hd) (.v (.slice a l.toNat cap)) (by intro j off he; cases he) ?_ (k _ fun w h => h.take _)
 intro ac o bs w hev hop _ _
 obtain ⟨inf, hi, hsz⟩ := Option.map_eq_some_iff.1 hs
 have hel : P.elem t = e := by unfold Program.elem; rw [hu]
 have hu' : P.underlying t = some (.slice (P.elem t)) := by rw [hel]; exact hu
 have e1 : ac.eval x = .slice a n cap := hev x _ (evo_of_evv hx)
 have e2 := hev _ _ (evo_of_evv hl)
 simp only [den] at e2
 simp only [execOp, hop, e1, e2, Option.map_some, Option.map_none, Sem.run_bind, run_sliceAt_slice w t _ _ _ _ hu', run_slice_h w t a n cap hu' kl l h0 (by omega), hel, run_sizeOf hi, Result.andThen_ok, Sem.run_pure, hsz, sliced, hz, ite_self, Nat.sub_zero, den]
theorem cellsRep_set {α : Type} {sz : Nat} {enc : α → List Value} {hh : ∀ x, (enc x).length = sz ∧ ∀ u ∈ enc x, isCell u = true} (y : α) : ∀ (xs : List α) (k : Nat), k < xs.length →
 ∀ (off : Nat) (cs : List Value), True → (xs.set k y).flatMap enc = (xs.flatMap enc).take (k * sz) ++ enc y ++ (xs.flatMap enc).drop ((k + 1) * sz)
 | [], k, hk, _, _, _ => by simp at hk
 | x :: xs, 0, hk, _, _, _ => by
   have h := (hh x).1
   simp [List.drop_append, h]
 | x :: xs, k + 1, hk, off, cs, _ => by
   have ih := cellsRep_set (hh := hh) y xs k (by simpa using hk) off cs trivial
   have h := (hh x).1
   simp only [List.set_cons_succ, List.flatMap_cons, ih]
   rw [List.take_append, List.drop_append, h]
   have e1 : (enc x).take ((k + 1) * sz) = enc x := List.take_of_length_le (by rw [h, Nat.add_mul]; omega)
   have e2 : (enc x).drop ((k + 1 + 1) * sz) = [] := List.drop_eq_nil_of_le (by rw [h]; simp only [Nat.add_mul]; omega)
   have e3 : (k + 1) * sz - sz = k * sz := by rw [Nat.add_mul]; omega
   have e4 : (k + 1 + 1) * sz - sz = (k + 1) * sz := by simp only [Nat.add_mul]; omega
   rw [e1, e2, e3, e4]
   simp
theorem setCells_append (cs ds : List Value) : ∀ (vs : List Value) (off : Nat), setCells (cs ++ ds) (cs.length + off) vs = cs ++ setCells ds off vs
 | [], _ => rfl
 | v :: vs, off => by
   simp only [setCells]
   rw [List.set_append_right (h := by omega)]
   have := setCells_append cs (ds.set off v) vs (off + 1)
   rw [show cs.length + off - cs.length = off by omega, show cs.length + off + 1 = cs.length + (off + 1) by omega]
   exact this
theorem setCells_left (cs ds : List Value) : ∀ (vs : List Value) (off : Nat), off + vs.length ≤ cs.length → setCells (cs ++ ds) off vs = setCells cs off vs ++ ds
 | [], _, _ => rfl
 | v :: vs, off, h => by
   simp only [List.length_cons] at h
   simp only [setCells]
   rw [List.set_append_left (h := by omega)]
   exact setCells_left (cs.set off v) ds vs (off + 1) (by simp; omega)
theorem setCells_length : ∀ (vs : List Value) (cs : List Value) (off : Nat), (setCells cs off vs).length = cs.length
 | [], _, _ => rfl
 | v :: vs, cs, off => by simp [setCells, setCells_length vs]
theorem run_storeCells_row {e : TypeId} {g ob n cap : Nat} {sz : Nat} : ∀ (vs : List Value) (w : World) (i off : Nat) (xs : List Value), ownsR w e sz (.slice (some ⟨g, ob, none⟩) n cap) n xs →
 vs.all isCell = true → off + i + vs.length ≤ xs.length →
 ∃ w', (storeCells ⟨g, ob + off, none⟩ vs i).run P w = .ok () w' ∧ ownsR w' e sz (.slice (some ⟨g, ob, none⟩) n cap) n (setCells xs (off + i) vs) ∧ w.grownBy w' (some g)
 | [], w, i, off, xs, h, _, _ => ⟨w, by simp [storeCells, Sem.run_pure], h, World.grownBy.refl w _⟩
 | v :: vs, w, i, off, xs, h, ha, hl => by
   simp only [List.all_cons, Bool.and_eq_true] at ha
   simp only [List.length_cons] at hl
   obtain ⟨h1, hg1⟩ := h.stored (off + i) v
   obtain ⟨w', hr, h2, hg2⟩ := run_storeCells_row vs (w.setCell ⟨g, ob + (off + i), none⟩ v) (i + 1) off (xs.set (off + i) v) h1 ha.2 (by rw [List.length_set]; omega)
   refine ⟨w', ?_, by simpa [setCells, Nat.add_assoc] using h2, ⟨hg2.os.trans hg1.os, hg2.tape.trans hg1.tape, hg2.output.trans hg1.output, Nat.le_trans hg1.size hg2.size, fun k hk hne => (hg2.block k (Nat.lt_of_lt_of_le hk hg1.size) hne).trans (hg1.block k hk hne)⟩⟩
   have hst : (store ((⟨g, ob + off, none⟩ : Addr).add i) v).run P w = .ok () (w.setCell ⟨g, ob + (off + i), none⟩ v) := by
    rw [add_lit, Nat.add_assoc]
    have hlen : off + i < n * sz := by have := h.1; omega
    have hc : w.cell? ⟨g, ob + (off + i), none⟩ = some (xs[off + i]'(by omega)) := by rw [h.cellAt (off + i) hlen]; exact List.getElem?_eq_getElem (by omega)
    have hf := h.frozenAt (off + i) hlen
    cases v <;> simp_all [store, Sem.run, isCell]
   simp only [storeCells, Sem.run_bind, hst, Result.andThen_ok]
   exact hr
theorem flatMap_split {α : Type} {sz : Nat} {enc : α → List Value} (hh : ∀ x, (enc x).length = sz ∧ ∀ u ∈ enc x, isCell u = true) : ∀ (xs : List α) (k : Nat) (x : α), xs[k]? = some x →
 xs.flatMap enc = (xs.flatMap enc).take (k * sz) ++ (enc x ++ (xs.flatMap enc).drop ((k + 1) * sz)) ∧ ((xs.flatMap enc).take (k * sz)).length = k * sz
 | [], k, x, h => by simp at h
 | y :: xs, 0, x, h => by
   simp at h; subst h
   have h := (hh y).1
   simp [List.drop_append, h]
 | y :: xs, k + 1, x, h => by
   have h' := (hh y).1
   obtain ⟨ih1, ih2⟩ := flatMap_split hh xs k x (by simpa using h)
   simp only [List.flatMap_cons]
   rw [List.take_append, List.drop_append, h']
   have e1 : (enc y).take ((k + 1) * sz) = enc y := List.take_of_length_le (by rw [h', Nat.add_mul]; omega)
   have e2 : (enc y).drop ((k + 1 + 1) * sz) = [] := List.drop_eq_nil_of_le (by rw [h']; simp only [Nat.add_mul]; omega)
   have e3 : (k + 1) * sz - sz = k * sz := by rw [Nat.add_mul]; omega
   have e4 : (k + 1 + 1) * sz - sz = (k + 1) * sz := by simp only [Nat.add_mul]; omega
   rw [e1, e2, e3, e4]
   refine ⟨?_, by rw [List.length_append, h', ih2, Nat.add_mul]; omega⟩
   rw [List.append_assoc, List.nil_append, ← ih1]
theorem STOREF {i : Nat} {K : Act → World → Prop} (t : TypeId) (x y : Operand) (ty : TypeId) (ho : opAt ops T i = some (.store t x y, none, ty)) (j : Nat) (R : List Ass) {α : Type} {sz : Nat} {enc : α → List Value} {hh : ∀ x, (enc x).length = sz ∧ ∀ u ∈ enc x, isCell u = true}
 (e : TypeId) (a : Option Addr) (n cap k off : Nat) (xs : List α) (hp : pulls [j] C = some ([slA e (flat sz enc hh) (.slice a n cap) xs], R)) (x0 x1 : α) (hk : xs[k]? = some x0) (v : Value) (hx : evo T x = some (.e a (k * sz) off)) (hy : evv T y = some v)
 (hst : storeOf P t (enc x0) off v = some (enc x1)) (k' : G N W S0 K T L (R ++ [slA e (flat sz enc hh) (.slice a n cap) (xs.set k x1)])) : OP P N W S0 ops Q i K T L C := by
 refine STEPM (js := [j]) (ι := Unit) (val := fun _ => undef) (own := fun _ => [slA e (flat sz enc hh) (.slice a n cap) (xs.set k x1)]) _ none _ ho (by rintro _ ⟨⟩) hp ?_ (fun _ => k')
 intro ac o bs w fps hev hop hty hat hown hnd
 match fps, hown with
 | [fp], ⟨⟨cells, g, hrow, hfp, hrep, hlen⟩, _⟩ =>
   have hkl : k < xs.length := (List.getElem?_eq_some_iff.1 hk).1
   rcases hrow.2 with ⟨hv, h0⟩ | ⟨b, ob, cap', cur, fz, hv, _, _⟩
   · omega
   · injection hv with e1 e2 e3
     subst e1; subst e2; subst e3
     have hflat : ∀ (xs : List α) (cells : List Value) (g : List Nat), cellsRep (flat sz enc hh) true w cells xs g → cells = xs.flatMap enc ∧ g = [] := by
      intro xs
      induction xs with
      | nil => intro cells g h; simpa [cellsRep] using h
      | cons z zs ih =>
        rintro cells g ⟨cs, rest, f1, f2, rfl, rfl, ⟨rfl, rfl⟩, h4⟩
        obtain ⟨rfl, rfl⟩ := ih _ _ h4
        simp
     obtain ⟨rfl, rfl⟩ := hflat _ _ _ hrep
     obtain ⟨hs1, hs2⟩ := flatMap_split hh xs k x0 hk
     unfold storeOf at hst
     split at hst
     · rename_i inf hinf
       split at hst
       · rename_i hc
         simp only [Option.some.injEq] at hst
         have hx0 := (hh x0).1
         have hx1 := (hh x1).1
         have hlen2 : k * sz + off + v.cells.toList.length ≤ (xs.flatMap enc).length := by
          rw [hs1, List.length_append, hs2, List.length_append, hx0]
          have := hc.2.1
          simp only [Array.length_toList]
          omega
         obtain ⟨w', hr, hrow', hg⟩ := run_storeCells_row (P := P) v.cells.toList w 0 (k * sz + off) _ hrow hc.2.2 (by simpa using hlen2)
         refine ⟨(), w', .skip, [[b]], ?_, .inr ⟨rfl, rfl⟩, ⟨⟨(xs.set k x1).flatMap enc, [], ?_, by simp [Value.ownBlock], cellsRep_flat _, by simpa using hlen⟩, trivial⟩, by simp, ?_, ?_⟩
         · have h1 : ac.eval x = .pointer (some ⟨b, ob + (k * sz + off), none⟩) := by
            rw [hev x _ hx]; simp [den, addrOf, add_lit]
           have h2 : ac.eval y = v := hev y _ (evo_of_evv hy)
           simp only [execOp, hop, h1, h2, Instr.storeAt, Instr.sureAddr, Sem.run_bind, Sem.run_pure, Result.andThen_ok, storeVar, run_sizeOf hinf, hc.1]
           simp [hr, Sem.run_pure]
         · have : setCells (xs.flatMap enc) (k * sz + off + 0) v.cells.toList = (xs.set k x1).flatMap enc := by
            rw [cellsRep_set (hh := hh) x1 xs k hkl 0 [] trivial, Nat.add_zero]
            generalize hA : (xs.flatMap enc).take (k * sz) = A at *
            generalize hB : (xs.flatMap enc).drop ((k + 1) * sz) = B at *
            rw [hs1, ← hs2, setCells_append, setCells_left _ _ _ _ (by rw [hx0]; have := hc.2.1; simp only [Array.length_toList]; omega), hst]
            rw [List.append_assoc]
           rw [this] at hrow'
           simpa using hrow'
         · intro c hcm _
           simp only [List.flatten_cons, List.flatten_nil, List.append_nil, List.mem_singleton] at hcm
           subst hcm
           simp [hfp, Value.ownBlock]
         · refine ⟨hg.os, hg.tape, hg.output, hg.size, fun c hc' hne => hg.block c hc' (fun hce => hne ?_)⟩
           injection hce with hce
           subst hce
           simp [hfp, Value.ownBlock]
       · cases hst
     · cases hst
theorem isCell_one {u : Value} (h : isCell u = true) : u.oneCell' = true := by cases u <;> simp_all [isCell, Value.oneCell']
def bsOf (P : Program) (t : TypeId) (len : Nat) (parts : List (Nat × Value)) : Option (TypeId × List Value) :=
 match P.underlying t with
 | some (.slice e) =>
   match P.info? e with
   | some i =>
     if len * i.size > 2 ^ 24 then none
     else if len * i.size = 0 then (if len = 0 ∧ parts = [] then some (e, []) else none)
     else match i.zero with
      | some z => match Instr.fill (fun k => some (k * i.size, i.size)) ((Array.range (len * i.size)).map (z.cells[· % z.cells.size]!)) parts with
        | some cells => some (e, cells.toList)
        | none => none
      | none => none
   | none => none
 | _ => none
theorem bsOf_run {t e : TypeId} {len : Nat} {parts : List (Nat × Value)} {cells : List Value} (h : bsOf P t len parts = some (e, cells)) (w : World) :
 (Instr.buildSlice t len parts.toArray).run P w = .ok (.slice (some ⟨w.heap.size, 0, none⟩) len len) (w.alloc (.cells cells.toArray e)) := by
 unfold bsOf at h
 split at h
 · rename_i e' hu
   split at h
   · rename_i i hi
     split at h
     · cases h
     · rename_i h24
       split at h
       · split at h
         · rename_i h0 hc
           obtain ⟨rfl, rfl⟩ := hc
           simp only [Option.some.injEq, Prod.mk.injEq] at h
           obtain ⟨rfl, rfl⟩ := h
           unfold Instr.buildSlice
           rw [Sem.run_bind, run_underlying hu w]
           simp only [Result.andThen_ok]
           rw [Sem.run_bind, run_sizeOf hi]
           simp only [Result.andThen_ok, if_neg h24, if_pos h0]
           simp only [Sem.run_bind, Sem.run_pure, Result.andThen_ok]
           simp [Instr.fill, newRow]
           rw [show ∀ f : Nat → Value, Array.map f (Array.range 0) = #[] from fun f => Array.eq_empty_of_size_eq_zero (by simp)]
         · cases h
       · rename_i h0
         split at h
         · rename_i z hz
           split at h
           · rename_i cs hf
             simp only [Option.some.injEq, Prod.mk.injEq] at h
             obtain ⟨rfl, rfl⟩ := h
             unfold Instr.buildSlice
             rw [Sem.run_bind, run_underlying hu w]
             simp only [Result.andThen_ok]
             rw [Sem.run_bind, run_sizeOf hi]
             simp only [Result.andThen_ok, if_neg h24, if_neg h0]
             have hz' : (zeroValue e').run P w = .ok z w := by simp [zeroValue, typeInfo, hi, hz]
             simp only [Sem.run_bind, hz', Result.andThen_ok, Sem.run_pure]
             rw [hf]
             rfl
           · cases h
         · cases h
   · cases h
 · cases h
def partsOf (T : Tm) : List (Nat × Operand) → Option (List (Nat × Value))
 | [] => some []
 | (i, x) :: r => match evv T x, partsOf T r with
   | some v, some l => some ((i, v) :: l)
   | _, _ => none
theorem partsOf_ok {ac : Act} {bs : List Nat} (hev : ∀ x s, evo T x = some s → ac.eval x = den bs s) : ∀ {l : List (Nat × Operand)} {r}, partsOf T l = some r → l.map (fun (p : Nat × Operand) => (p.1, ac.eval p.2)) = r
 | [], r, h => by simp [partsOf] at h; subst h; rfl
 | (i, x) :: l, r, h => by
   simp only [partsOf] at h
   split at h
   · rename_i v l' hv hl
     simp only [Option.some.injEq] at h
     subst h
     have h1 : ac.eval x = v := hev x _ (evo_of_evv hv)
     simp [partsOf_ok hev hl, h1]
   · cases h
theorem take_set_here : ∀ (cs : List Value) (off : Nat) (v : Value), off < cs.length → (cs.set off v).take (off + 1) = cs.take off ++ [v]
 | [], off, v, h => by simp at h
 | c :: cs, 0, v, _ => by simp
 | c :: cs, off + 1, v, h => by simp [take_set_here cs off v (by simpa using h)]
theorem setCells_take : ∀ (vs cs : List Value) (off : Nat), off + vs.length ≤ cs.length → (setCells cs off vs).take (off + vs.length) = cs.take off ++ vs
 | [], cs, off, _ => by simp [setCells]
 | v :: vs, cs, off, h => by
   simp only [List.length_cons] at h
   have ih := setCells_take vs (cs.set off v) (off + 1) (by simp; omega)
   simp only [setCells, List.length_cons]
   rw [show off + (vs.length + 1) = off + 1 + vs.length by omega, ih, take_set_here cs off v (by omega)]
   simp
theorem run_append_R {w : World} {t tx ty e : TypeId} {i : TypeInfo} {z : Value} {size bytes : Nat} (ht : P.underlying t = some (.slice e)) (hi : P.info? e = some i) (hz : i.zero = some z)
 (hsize : i.size = size) (hby : i.bytes = bytes) (hzs : z.cells.size = size) {v : Value} {n : Nat} {xs : List Value} (hown : ownsR w e size v n xs)
 {x : Value} {m : Nat} {news : List Value} (hs : Src P size tx x m news w) (h1 : ∀ u ∈ news, isCell u = true) (h63 : n + m ≤ maxLen) (hbytes : (n + m) * bytes ≤ 140737488355328) :
 ∃ v' w', (Builtin.append_ #[t, tx] ty #[v, x]).run P w = .ok v' w' ∧ ownsR w' e size v' (n + m) (xs ++ news) ∧ w.grownBy w' v.ownBlock ∧ (v'.ownBlock = v.ownBlock ∨ v'.ownBlock = some w.heap.size) := by
 subst hsize
 subst hby
 have hlen : (xs ++ news).length = (n + m) * i.size := by rw [List.length_append, hown.1, hs.newsLen, Nat.add_mul]
 have hsmall : n + m ≤ 9223372036854775807 := by simp only [maxLen] at h63; omega
 have grown : ∀ (base : Option Addr) (cap : Nat), v = .slice base n cap → cap < n + m → Builtin.nextslicecap (n + m) cap * i.bytes ≤ 281474976710656 →
  (Builtin.firstCells i.size n (.slice base n cap)).run P w.drew = .ok xs.toArray w.drew → ∃ v' w', (Builtin.append_ #[t, tx] ty #[v, x]).run P w = .ok v' w' ∧ ownsR w' e i.size v' (n + m) (xs ++ news) ∧ w.grownBy w' v.ownBlock ∧ (v'.ownBlock = v.ownBlock ∨ v'.ownBlock = some w.heap.size) := by
  intro base cap hv hlt hfit hold
  subst hv
  have hr := run_append_grow_src (P := P) w t tx ty e i z ht hi hz base n cap xs hold x m news hs hlt (by omega) hfit
  have hge := grownCap_ge w (n + m) cap e
  have hcm : grownCap w (n + m) cap e ≤ maxLen := grownCap_le_maxLen w (n + m) cap e h63
  refine ⟨_, _, hr, ⟨hlen, .inr ⟨w.heap.size, 0, _, _, (0, 0), rfl, heap_alloc_new w.drew _, .inl (Nat.le_refl _), hge, hcm, ?_, ?_⟩⟩, ⟨rfl, rfl, rfl, by simp, fun k hk _ => Below.heap_alloc w.drew _ k hk⟩, .inr rfl⟩
  · refine Nat.le_of_eq (Eq.symm ?_)
    simp only [Array.size_append, List.size_toArray, size_zeroCells, hzs, hlen, ← Nat.add_mul, Nat.zero_add]
    congr 1
    omega
  · simp only [Array.toList_append, List.drop_zero]
    rw [← hlen]
    exact List.take_left
 rcases hown.2 with ⟨rfl, rfl⟩ | ⟨g, ob, cap, cur, fz, rfl, hg, hfz, hnc, hcm, hcs, htake⟩
 · have hx : xs = [] := List.eq_nil_of_length_eq_zero (by simpa using hown.1)
   subst hx
   by_cases hm : m = 0
   · subst hm
     have hn : news = [] := List.eq_nil_of_length_eq_zero (by simpa using hs.newsLen)
     subst hn
     refine ⟨.slice none 0 0, w, ?_, ownsR_nil w e i.size, ⟨rfl, rfl, rfl, Nat.le_refl _, fun _ _ _ => rfl⟩, Or.inl rfl⟩
     rcases hs.kind with ⟨e', hk⟩ | hk <;> simp [Builtin.append_, run_underlying ht, run_underlying hk, sizeOf, typeInfo, hi, hs.len, hs.cells]
   · exact grown none 0 rfl (by omega) (by rw [nextslicecap_zero (by omega)]; omega) (by simp [Builtin.firstCells])
 · by_cases hroom : n + m ≤ cap
   · obtain ⟨full, hfull, hft, _, _⟩ := hown.all
     have hmul : (n + m) * i.size ≤ cap * i.size := Nat.mul_le_mul_right _ hroom
     have hfit : n * i.size + 0 + news.length ≤ full.length := by rw [hs.newsLen, hfull.1, Nat.add_zero, ← Nat.add_mul]; exact hmul
     obtain ⟨w', hr, hrow, hgr⟩ := run_storeCells_row (P := P) news w 0 (n * i.size) full hfull (by simpa [List.all_eq_true] using h1) (by omega)
     refine ⟨.slice (some ⟨g, ob, none⟩) (n + m) cap, w', ?_, ?_, hgr, Or.inl rfl⟩
     · rcases hs.kind with ⟨e', hk⟩ | hk <;> simp [Builtin.append_, run_underlying ht, run_underlying hk, sizeOf, typeInfo, hi, hs.len, hroom, hs.cells, add_lit, hr]
     · have := hrow.part hroom
       rw [Nat.add_zero] at this
       have hnl := hs.newsLen
       rw [show (n + m) * i.size = n * i.size + news.length by rw [hnl, Nat.add_mul], setCells_take _ _ _ (by omega), hft] at this
       exact this
   · exact grown (some ⟨g, ob, none⟩) cap rfl (by omega) (growslice_fits (by omega) (by omega)) (run_firstCells_some w.drew i.size n _ n cap xs hown.1 (by simpa using hown.cells))
theorem BUILDS {i : Nat} {K : Act → World → Prop} (t : TypeId) (len : Nat) (parts : Array (Nat × Operand)) (d : Nat) (ty : TypeId) (ho : opAt ops T i = some (.buildSlice t len parts, some d, ty)) (hd : d < N) (e : TypeId) (cells : List Value)
 (hb : (partsOf T parts.toList).bind (bsOf P t len) = some (e, cells)) {α : Type} (La : Lay α) (xs : List α) (hl : xs.length = len) (hm : len ≤ maxLen) (js : List Nat) (pre R : List Ass) (hp : pulls js C = some (pre, R))
 (hrep : ∀ w fps, holds w pre fps → cellsRep La true w cells xs fps.flatten)
 (k : ∀ a : Option Addr, a.isSome = true → G N W S0 K ((d, .v (.slice a len len)) :: T) L (R ++ [slA e La (.slice a len len) xs])) : OP P N W S0 ops Q i K T L C := by
 refine STEPM (js := js) (ι := {a : Option Addr // a.isSome = true}) (val := fun a => .slice a.1 len len) (own := fun a => [slA e La (.slice a.1 len len) xs]) _ (some d) _ ho (by rintro _ ⟨⟩; exact hd) hp ?_ (fun a => k a.1 a.2)
 intro ac o bs w fps hev hop hty hat hown hnd
 obtain ⟨pl, hpl, hbs⟩ := Option.bind_eq_some_iff.1 hb
 have hr := bsOf_run hbs w
 have hmap : parts.map (fun (p : Nat × Operand) => (p.1, ac.eval p.2)) = pl.toArray := by
  rw [← partsOf_ok hev hpl]
  rcases parts with ⟨l⟩
  simp
 have hrep' := hrep w fps hown
 have hlt := holds.lt hown
 have hcl := hrep'.len
 have hold : ∀ b, b < w.heap.size → (w.alloc (.cells cells.toArray e)).heap[b]? = w.heap[b]? := fun b hb => Below.heap_alloc _ _ _ hb
 refine ⟨⟨some ⟨w.heap.size, 0, none⟩, rfl⟩, w.alloc (.cells cells.toArray e), _, [w.heap.size :: fps.flatten], ?_, .inl rfl, ⟨⟨cells, fps.flatten, ?_, by simp [Value.ownBlock], hrep'.st fun b hbm => hold b (hlt b hbm), by rw [hl]; exact hm⟩, trivial⟩, ?_, ?_, ?_⟩
 · simp only [execOp, hop, hmap, Sem.run_bind, hr, Result.andThen_ok, Sem.run_pure]
 · rw [hl]
   exact ownsR.of (World.ownsRow_lit w cells.toArray len (Nat.zero_le _) hm (by simp [hcl, hl]))
 · simp only [List.flatten_cons, List.flatten_nil, List.append_nil, List.nodup_cons]
   exact ⟨fun hbm => by have := hlt _ hbm; omega, hnd⟩
 · intro b hbm hb
   simp only [List.flatten_cons, List.flatten_nil, List.append_nil, List.mem_cons] at hbm
   rcases hbm with rfl | hbm
   · omega
   · exact hbm
 · exact ⟨rfl, rfl, rfl, by simp, fun b hb _ => hold b hb⟩
theorem APPENDO {i : Nat} {K : Act → World → Prop} (t : TypeId) (s x : Operand) (d : Nat) (ty : TypeId) (ho : opAt ops T i = some (.call { callee := .builtin .append, args := #[s, x], argTypes := #[t, t] }, some d, ty)) (hd : d < N)
 (v : Value) (a2 : Option Addr) (n2 c2 : Nat) (hs : evv T s = some v) (hx : evv T x = some (.slice a2 n2 c2)) (ha2 : a2.isSome = true) (e : TypeId) (hu : P.underlying t = some (.slice e)) {α : Type} (La : Lay α) (z : Value) (bytes : Nat)
 (hi : (P.info? e).map (fun i => (i.zero, i.size, i.bytes)) = some (some z, La.sz, bytes)) (hz : z.cells.size = La.sz) (hsz : 0 < La.sz) (j1 j2 : Nat) (xs ys : List α) (R : List Ass) (hp : pulls [j1, j2] C = some ([slA e La v xs, slA e La (.slice a2 n2 c2) ys], R))
 (hn2 : ys.length = n2) (hlen : (xs.length + n2) * bytes ≤ 140737488355328) (hlen' : xs.length + n2 ≤ maxLen)
 (k : ∀ (a : Option Addr) (c : Nat), (a = none → (xs ++ ys).length = 0) → G N W S0 K ((d, .v (.slice a (xs ++ ys).length c)) :: T) L (R ++ [slA e La (.slice a (xs ++ ys).length c) (xs ++ ys)])) : OP P N W S0 ops Q i K T L C := by
 have hxy : (xs ++ ys).length = xs.length + n2 := by rw [List.length_append, hn2]
 rw [hxy] at k
 obtain ⟨inf, h1, h2, h3, h4⟩ := info_at hi
 refine STEPM (js := [j1, j2]) (ι := {p : Option Addr × Nat // p.1 = none → xs.length + n2 = 0}) (val := fun p => .slice p.1.1 (xs.length + n2) p.1.2) (own := fun p => [slA e La (.slice p.1.1 (xs.length + n2) p.1.2) (xs ++ ys)]) _ (some d) _ ho (by rintro _ ⟨⟩; exact hd) hp ?_ (fun p => k p.1.1 p.1.2 p.2)
 intro ac o bs w fps hev hop hty hat hown hnd
 match fps, hown with
 | [f1, f2], ⟨⟨cells1, g1, hrow1, hf1, hrep1, hl1⟩, ⟨cells2, g2, hrow2, hf2, hrep2, hl2⟩, _⟩ =>
   subst hn2
   obtain ⟨ad, rfl⟩ := Option.isSome_iff_exists.1 ha2
   have hblk2 : ∃ b o9, ad = ⟨b, o9, none⟩ ∧ ∀ (j : Nat) (u : Value), cells2[j]? = some u → w.cell? (ad.add j) = some u := by
    rcases hrow2.2 with ⟨hv, _⟩ | ⟨b, ob, cap', cur, fz, hv, _⟩
    · cases hv
    · injection hv with e1 e2 e3
      injection e1 with e1
      subst e1
      exact ⟨b, ob, rfl, fun j u hj => hrow2.cells j u hj⟩
   obtain ⟨b2, o9, rfl, hcell2⟩ := hblk2
   obtain ⟨v', w', hr, hown', hg, hblk⟩ := run_append_R (P := P) (ty := o.type) hu h1 h2 h3 h4 hz hrow1 (Src.ofSlice w hu ⟨b2, o9, none⟩ ys.length c2 cells2 hrow2.1 hcell2 (fun u hu => isCell_one (hrep2.one u hu))) hrep2.one hlen' hlen
   have hf1lt : ∀ b ∈ f1, b < w.heap.size := (slA e La v xs).lt w f1 ⟨cells1, g1, hrow1, hf1, hrep1, hl1⟩
   have hf2lt : ∀ b ∈ f2, b < w.heap.size := (slA e La _ ys).lt w f2 ⟨cells2, g2, hrow2, hf2, hrep2, hl2⟩
   have hnd12 : (f1 ++ f2).Nodup := by simpa using hnd
   have hkeep : ∀ b ∈ g1 ++ g2, w'.heap[b]? = w.heap[b]? := by
    intro b hb
    have hin : b ∈ f1 ++ f2 := by
     rcases List.mem_append.1 hb with hb | hb
     · exact List.mem_append.2 (.inl (by rw [hf1]; exact List.mem_append.2 (.inr hb)))
     · exact List.mem_append.2 (.inr (by rw [hf2]; exact List.mem_append.2 (.inr hb)))
    refine hg.block b ?_ ?_
    · rcases List.mem_append.1 hin with h | h
      · exact hf1lt b h
      · exact hf2lt b h
    · intro hbv
      have hv : b ∈ v.ownBlock.toList := by simp [← hbv]
      have hd12 := List.nodup_append.1 hnd12
      rcases List.mem_append.1 hb with hb | hb
      · have := hd12.1
        rw [hf1] at this
        exact (List.nodup_append.1 this).2.2 b hv b hb rfl
      · exact hd12.2.2 b (by rw [hf1]; exact List.mem_append.2 (.inl hv)) b (by rw [hf2]; exact List.mem_append.2 (.inr hb)) rfl
   have hform : ∃ a c, v' = .slice a (xs.length + ys.length) c ∧ (a = none → xs.length + ys.length = 0) := by
    rcases hown'.2 with ⟨rfl, h0⟩ | ⟨b, ob, cap', cur, fz, rfl, _⟩
    · exact ⟨none, 0, by rw [h0], fun _ => h0⟩
    · exact ⟨_, _, rfl, by intro h; cases h⟩
   obtain ⟨a', c', rfl, hnone⟩ := hform
   have hg12 : (g1 ++ g2).Nodup := by
    have hd12 := List.nodup_append.1 hnd12
    refine List.nodup_append.2 ⟨?_, ?_, fun p hp q hq => hd12.2.2 p (by rw [hf1]; exact List.mem_append.2 (.inr hp)) q (by rw [hf2]; exact List.mem_append.2 (.inr hq))⟩
    · have := hd12.1; rw [hf1] at this; exact (List.nodup_append.1 this).2.1
    · have := hd12.2.1; rw [hf2] at this; exact (List.nodup_append.1 this).2.1
   have hnewblk : ∀ b, (Value.slice a' (xs.length + ys.length) c').ownBlock = some b → b ∈ v.ownBlock.toList ∨ b = w.heap.size := by
    intro b hb
    rcases hblk with h | h
    · left; rw [← h, hb]; simp
    · right; rw [hb] at h; injection h
   refine ⟨⟨(a', c'), hnone⟩, w', _, [(Value.slice a' (xs.length + ys.length) c').ownBlock.toList ++ (g1 ++ g2)], ?_, .inl rfl, ⟨⟨cells1 ++ cells2, g1 ++ g2, by simpa using hown', rfl, (hrep1.append hrep2).st hkeep, by simpa using hlen'⟩, trivial⟩, ?_, ?_, ?_⟩
   · have e1 : ac.eval s = v := hev s _ (evo_of_evv hs)
     have e2 : ac.eval x = .slice (some ⟨b2, o9, none⟩) ys.length c2 := hev x _ (evo_of_evv hx)
     simp [execOp, hop, resolve, invoke, builtin, e1, e2, hr, Result.andThen]
   · simp only [List.flatten_cons, List.flatten_nil, List.append_nil]
     refine List.nodup_append.2 ⟨by cases (Value.slice a' (xs.length + ys.length) c').ownBlock <;> simp, hg12, ?_⟩
     rintro p hp q hq rfl
     have hq' : p ∈ f1 ++ f2 := by
      rcases List.mem_append.1 hq with h | h
      · exact List.mem_append.2 (.inl (by rw [hf1]; exact List.mem_append.2 (.inr h)))
      · exact List.mem_append.2 (.inr (by rw [hf2]; exact List.mem_append.2 (.inr h)))
     rcases hnewblk p (by simpa using hp) with h | h
     · have hd12 := List.nodup_append.1 hnd12
       rcases List.mem_append.1 hq with hq | hq
       · have := hd12.1
         rw [hf1] at this
         exact (List.nodup_append.1 this).2.2 p h p hq rfl
       · exact hd12.2.2 p (by rw [hf1]; exact List.mem_append.2 (.inl h)) p (by rw [hf2]; exact List.mem_append.2 (.inr hq)) rfl
     · rcases List.mem_append.1 hq' with h' | h'
       · have := hf1lt p h'; omega
       · have := hf2lt p h'; omega
   · intro b hbm hlt
     simp only [List.flatten_cons, List.flatten_nil, List.append_nil] at hbm ⊢
     rcases List.mem_append.1 hbm with h | h
     · rcases hnewblk b (by simpa using h) with h | h
       · exact List.mem_append.2 (.inl (by rw [hf1]; exact List.mem_append.2 (.inl h)))
       · omega
     · rcases List.mem_append.1 h with h | h
       · exact List.mem_append.2 (.inl (by rw [hf1]; exact List.mem_append.2 (.inr h)))
       · exact List.mem_append.2 (.inr (by rw [hf2]; exact List.mem_append.2 (.inr h)))
   · refine ⟨hg.os, hg.tape, hg.output, hg.size, fun b hb hne => hg.block b hb (fun hbv => hne ?_)⟩
     simp only [List.flatten_cons, List.flatten_nil, List.append_nil]
     exact List.mem_append.2 (.inl (by rw [hf1]; exact List.mem_append.2 (.inl (by simp [← hbv]))))
end rules
section rules
variable {P : Program} {N : Nat} {W : World} {S0 : List Nat} {Q : Exit → Act → World → Prop} {T : Tm} {L : Bx} {C : List Ass} {ops : Array Oper}
def Cls (W : World) (S0 : List Nat) (L : Bx) (C : List Ass) (bs : List Nat) (w : World) : Prop := ∃ fps, Mem W S0 L C bs fps w
def QO (P : Program) (N : Nat) (W : World) (S0 : List Nat) (ops : Array Oper) (Q : Exit → Act → World → Prop) (i : Nat) (T : Tm) (L : Bx) (C : List Ass) : Prop :=
 ∀ bs a, Tms N T bs a → bounded L.length T → bs.length = L.length → wpQuiet P ops (Cls W S0 L C bs) (fun a' => ∀ w', Cls W S0 L C bs w' → Q .normal a' w') (ops.toList.drop i) a
theorem REGIONQ {id : Nat} (hm : P.follows .mixedOrders = true) (hB : Region.lexB .any ops = true) (k : QO P N W S0 ops Q 0 T L C) : CODE P N W S0 (.region id ops true) Q T L C := by
 rintro a w ⟨bs, fps, ht, hb, hmem⟩
 have hd : Sat N W S0 T L C a { w with drawn := w.drawn + 1 } := Sat.drew_ ⟨bs, fps, ht, hb, hmem⟩
 refine wp_region_quiet (C := Cls W S0 L C bs) hm hB ?_ (by simpa using k bs a ht hb (boxes_len hmem.bx))
 exact ⟨fps, ⟨hmem.fr.os, hmem.fr.tape, hmem.fr.output, hmem.fr.size, hmem.fr.block⟩, boxes.st hmem.bx fun _ _ => rfl, holds.st hmem.ch fun _ _ => rfl, hmem.nd, hmem.new⟩
theorem QEND {i : Nat} (hi : ops.size = i) (k : DONE N W S0 Q .normal T L C) : QO P N W S0 ops Q i T L C := by
 intro bs a ht hb hl
 rw [List.drop_eq_nil_of_le (by simp [hi])]
 exact wpQuiet_nil fun w' ⟨fps, hm⟩ => k a w' ⟨bs, fps, ht, hb, hm⟩
theorem q_step {i : Nat} {o : Oper} (hi : ops[i]? = some o) {Cw : World → Prop} {K : Act → Prop} {a : Act} (h : if Region.wanted o (yielded ops a.tmps) then o.quiet P a Cw (wpQuiet P ops Cw K (ops.toList.drop (i + 1))) else wpQuiet P ops Cw K (ops.toList.drop (i + 1)) (a.put o.dst undef)) :
 wpQuiet P ops Cw K (ops.toList.drop i) a := by
 have hlt : i < ops.toList.length := by simpa using (Array.getElem?_eq_some_iff.1 hi).1
 have he : ops.toList[i] = o := by
  have := (Array.getElem?_eq_some_iff.1 hi).2
  simpa using this
 rw [List.drop_eq_getElem_cons hlt, he]
 exact h
def quietOp : Op → Bool
 | .store .. | .box .. | .alloc .. => false
 | _ => true
theorem go1q {o : Oper} (hq : quietOp o.op = true) {T' : Tm} {L' : Bx} (h : go1 P N T L o = some (T', L')) {bs : List Nat} {a : Act} (ht : Tms N T bs a) (hbd : bounded L.length T) :
 L' = L ∧ ∃ v, (∀ w fps, Mem W S0 L C bs fps w → (execOp a.eval o).run P w = .ok (.value v) w) ∧ Tms N T' bs (a.put o.dst v) ∧ bounded L.length T' := by
 obtain ⟨dst, op, ty, pos, after, guard⟩ := o
 have rest : ∀ l, opnds op = some l → (if l.all (fun x => (evv T x).isSome) then
       match pureOf P (execOp (evw T) ⟨dst, op, ty, pos, after, guard⟩) with
       | some (.value v) => (put N T dst (.v v)).map (·, L)
       | _ => none
  else none) = some (T', L') →
  L' = L ∧ ∃ v, (∀ w fps, Mem W S0 L C bs fps w → (execOp a.eval ⟨dst, op, ty, pos, after, guard⟩).run P w = .ok (.value v) w) ∧ Tms N T' bs (a.put dst v) ∧ bounded L.length T' := by
  intro l hl h
  split at h
  · rename_i hall
    split at h
    · rename_i v hp
      obtain ⟨T1, hput, he⟩ := Option.map_eq_some_iff.1 h
      simp only [Prod.mk.injEq] at he
      obtain ⟨rfl, rfl⟩ := he
      have hc : execOp a.eval ⟨dst, op, ty, pos, after, guard⟩ = execOp (evw T) ⟨dst, op, ty, pos, after, guard⟩ := exec_congr _ l hl _ _ fun x hx => by
       have := List.all_eq_true.1 hall x hx
       cases hv : evv T x with
       | none => simp [hv] at this
       | some y => rw [ht.evv hv]; simp [evw, hv]
      exact ⟨rfl, v, fun w _ _ => by rw [hc]; exact pureOf_run _ hp w, ht.put hput rfl, hbd.put (by intro i off he; cases he) hput⟩
    · cases h
  · cases h
 cases op with
 | move x =>
   simp only [go1] at h
   obtain ⟨s, hs, h⟩ := Option.bind_eq_some_iff.1 h
   obtain ⟨T1, hput, he⟩ := Option.map_eq_some_iff.1 h
   simp only [Prod.mk.injEq] at he
   obtain ⟨rfl, rfl⟩ := he
   exact ⟨rfl, den bs s, fun w _ _ => by simp [execOp, Sem.run_pure, ht.evo hs], ht.put hput rfl, hbd.put (by rintro i off rfl; exact hbd.evo hs) hput⟩
 | assign x =>
   simp only [go1] at h
   obtain ⟨s, hs, h⟩ := Option.bind_eq_some_iff.1 h
   obtain ⟨T1, hput, he⟩ := Option.map_eq_some_iff.1 h
   simp only [Prod.mk.injEq] at he
   obtain ⟨rfl, rfl⟩ := he
   exact ⟨rfl, den bs s, fun w _ _ => by simp [execOp, Sem.run_pure, ht.evo hs], ht.put hput rfl, hbd.put (by rintro i off rfl; exact hbd.evo hs) hput⟩
 | fieldAddr s x f =>
   simp only [go1] at h
   split at h
   · rename_i i off k hx hf
     obtain ⟨T1, hput, he⟩ := Option.map_eq_some_iff.1 h
     simp only [Prod.mk.injEq] at he
     obtain ⟨rfl, rfl⟩ := he
     refine ⟨rfl, den bs (.p i (off + k)), fun w _ _ => ?_, ht.put hput rfl, hbd.put ?_ hput⟩
     · simp only [execOp, ht.evo hx, den, Sem.run_bind, fieldOff_run hf, Result.andThen_ok, Sem.run_pure, add_lit]
     · intro j o' he; injection he with h1 h2; subst h1; exact hbd.evo hx
   · rename_i a' c off k hx hf
     obtain ⟨T1, hput, he⟩ := Option.map_eq_some_iff.1 h
     simp only [Prod.mk.injEq] at he
     obtain ⟨rfl, rfl⟩ := he
     refine ⟨rfl, den bs (.e a' c (off + k)), fun w _ _ => ?_, ht.put hput rfl, hbd.put (by intro i o' he; cases he) hput⟩
     simp only [execOp, ht.evo hx, den, Sem.run_bind, fieldOff_run hf, Result.andThen_ok, Sem.run_pure, add_add, Nat.add_assoc]
   · cases h
 | nilCheck x =>
   simp only [go1] at h
   split at h
   · rename_i i off hx
     obtain ⟨T1, hput, he⟩ := Option.map_eq_some_iff.1 h
     simp only [Prod.mk.injEq] at he
     obtain ⟨rfl, rfl⟩ := he
     refine ⟨rfl, den bs (.p i off), fun w _ _ => ?_, ht.put hput rfl, hbd.put ?_ hput⟩
     · simp [execOp, ht.evo hx, den, Sem.run_pure]
     · intro j o' he; injection he with h1 h2; subst h1; exact hbd.evo hx
   · rename_i a' c off hx
     obtain ⟨T1, hput, he⟩ := Option.map_eq_some_iff.1 h
     simp only [Prod.mk.injEq] at he
     obtain ⟨rfl, rfl⟩ := he
     refine ⟨rfl, den bs (.e a' c off), fun w _ _ => ?_, ht.put hput rfl, hbd.put (by intro j o' he; cases he) hput⟩
     simp [execOp, ht.evo hx, den, Sem.run_pure]
   · cases h
 | load t x =>
   simp only [go1] at h
   split at h
   · rename_i i off hx
     split at h
     · rename_i b hb
       obtain ⟨v, hv, h⟩ := Option.bind_eq_some_iff.1 h
       obtain ⟨T1, hput, he⟩ := Option.map_eq_some_iff.1 h
       simp only [Prod.mk.injEq] at he
       obtain ⟨rfl, rfl⟩ := he
       obtain ⟨bt, bcs⟩ := b
       refine ⟨rfl, v, fun w fps hm => ?_, ht.put hput rfl, hbd.put (by intro i o' he; cases he) hput⟩
       obtain ⟨bk, hbk, hheap⟩ := boxes.at hm.bx hb
       have hd : den bs (.p i off) = .pointer (some ⟨bk, off, none⟩) := by simp [den, hbk]
       simp only [execOp, ht.evo hx, hd, Instr.loadAt, Instr.sureAddr, Sem.run_bind, Sem.run_pure, Result.andThen_ok, loadOf_run hheap hv]
     · cases h
   · cases h
 | store t x y => simp [quietOp] at hq
 | box t x => simp [quietOp] at hq
 | alloc t => simp [quietOp] at hq
 | pick c x y => exact rest _ rfl h
 | binOp b t x y z => exact rest _ rfl h
 | unOp b t x => exact rest _ rfl h
 | convert b t x => exact rest _ rfl h
 | build t parts => exact rest _ rfl h
 | field t x f => exact rest _ rfl h
 | index t x i => exact rest _ rfl h
 | extract x i => exact rest _ rfl h
 | slice t x lo hi mx => exact rest _ rfl h
 | makeFunc f first cap => exact rest _ rfl h
 | makeInterface t x => exact rest _ rfl h
 | call c => exact rest _ rfl h
 | _ => simp [go1, opnds] at h
def runQ (P : Program) (N : Nat) (ops : Array Oper) (L : Bx) : (n i : Nat) → Tm → Option Tm
 | 0, _, T => some T
 | n + 1, i, T =>
   match ops[i]? with
   | some o =>
     match wants ops T o with
     | some true => if quietOp o.op then (match go1 P N T L o with | some (T', _) => runQ P N ops L n (i + 1) T' | none => none) else none
     | some false => match put N T o.dst (.v undef) with | some T' => runQ P N ops L n (i + 1) T' | none => none
     | none => none
   | none => none
theorem runQ_ok : ∀ (n i : Nat) {T T' : Tm}, runQ P N ops L n i T = some T' → QO P N W S0 ops Q (i + n) T' L C → QO P N W S0 ops Q i T L C
 | 0, i, T, T', h, k => by simp [runQ] at h; subst h; exact k
 | n + 1, i, T, T', h, k => by
   simp only [runQ] at h
   split at h
   · rename_i o hi
     split at h
     · rename_i hw
       split at h
       · rename_i hq
         split at h
         · rename_i T1 L1 h1
           intro bs a ht hb hl
           refine q_step hi ?_
           rw [wants_ok hw ht, if_pos rfl]
           obtain ⟨_, v, hr, ht', hb'⟩ := go1q (W := W) (S0 := S0) (C := C) hq h1 ht hb
           refine ⟨v, fun w ⟨fps, hm⟩ => ?_, runQ_ok n (i + 1) h (by rw [show i + 1 + n = i + (n + 1) by omega]; exact k) bs _ ht' hb' hl⟩
           unfold Oper.quietAt
           rw [hr w fps hm]
           exact ⟨rfl, rfl⟩
         · cases h
       · cases h
     · rename_i hw
       split at h
       · rename_i T1 hput
         intro bs a ht hb hl
         refine q_step hi ?_
         rw [wants_ok hw ht, if_neg (by simp)]
         exact runQ_ok n (i + 1) h (by rw [show i + 1 + n = i + (n + 1) by omega]; exact k) bs _ (ht.put hput rfl) (hb.put (by intro i o' he; cases he) hput) hl
       · cases h
     · cases h
   · cases h
theorem QSPLIT {i d : Nat} (b : Bool) (hd : lk T d = some (.v (.bool b))) (k1 : b = true → QO P N W S0 ops Q i ((d, .v (.bool true)) :: T) L C) (k2 : b = false → QO P N W S0 ops Q i ((d, .v (.bool false)) :: T) L C) : QO P N W S0 ops Q i T L C := by
 intro bs a ht hb hl
 have key : ∀ c, b = c → Tms N ((d, .v (.bool c)) :: T) bs a := by
  rintro c rfl
  refine ⟨ht.1, ht.2.1, fun i x hx => ?_⟩
  simp only [lk] at hx
  by_cases hk : d = i
  · subst hk; simp at hx; subst hx; exact ht.2.2 d _ hd
  · have : (d == i) = false := by simpa using hk
    simp only [this, Bool.false_eq_true, if_false] at hx
    exact ht.2.2 i x hx
 cases hbb : b
 · exact k2 hbb bs a (key _ hbb) hb hl
 · exact k1 hbb bs a (key _ hbb) hb hl
theorem QSTEP {i : Nat} (op : Op) (d : Option Nat) (ty : TypeId) (ho : opAt ops T i = some (op, d, ty)) (hd : ∀ k, d = some k → k < N) (s : SV) (hs : ∀ j off, s = .p j off → j < L.length)
 (hrun : ∀ (a : Act) (o : Oper) (bs : List Nat) (w : World), (∀ x s, evo T x = some s → a.eval x = den bs s) → o.op = op → o.type = ty → At W S0 C w → (execOp a.eval o).run P w = .ok (.value (den bs s)) w)
 (k : QO P N W S0 ops Q (i + 1) (putd d s T) L C) : QO P N W S0 ops Q i T L C := by
 intro bs a ht hb hl
 obtain ⟨o, hi, hw, hop, hdst, hty⟩ := opAt_ok ho ht
 refine q_step hi ?_
 rw [hw, if_pos rfl]
 subst hdst
 refine ⟨den bs s, fun w ⟨fps, hm⟩ => ?_, k bs _ (ht.put (put_putd hd) rfl) (hb.put hs (put_putd hd)) hl⟩
 unfold Oper.quietAt
 rw [hrun a o bs w (fun x s hx => ht.evo hx) hop hty hm.at_]
 exact ⟨rfl, rfl⟩
theorem QINDEX {i : Nat} (t : TypeId) (x ix : Operand) (d : Nat) (ty : TypeId) (ho : opAt ops T i = some (.indexAddr t x ix, some d, ty)) (hd : d < N) (a : Option Addr) (n cap : Nat) (kd : IntKind) (z : Int) (e : TypeId) (sz : Nat)
 (hx : evv T x = some (.slice a n cap)) (hix : evv T ix = some (.int kd z)) (hu : P.underlying t = some (.slice e)) (hsz : (P.info? e).map (·.size) = some sz) (ha : a.isSome = true) (h0 : 0 ≤ z) (hn : z < n)
 (k : QO P N W S0 ops Q (i + 1) ((d, .e a (z.toNat * sz) 0) :: T) L C) : QO P N W S0 ops Q i T L C := by
 refine QSTEP _ _ _ ho (by rintro _ ⟨⟩; exact hd) (.e a (z.toNat * sz) 0) (by intro j off he; cases he) ?_ k
 intro ac o bs w hev hop _ _
 obtain ⟨ad, rfl⟩ := Option.isSome_iff_exists.1 ha
 obtain ⟨inf, hi, hs⟩ := Option.map_eq_some_iff.1 hsz
 have h1 : ac.eval x = .slice (some ad) n cap := hev x _ (evo_of_evv hx)
 have h2 : ac.eval ix = .int kd z := hev ix _ (evo_of_evv hix)
 simp only [execOp, hop, h1, h2, Instr.indexAt, asIntOf, Sem.run_bind, Sem.run_pure, Result.andThen_ok, run_underlying hu]
 rw [if_pos ⟨h0, hn⟩]
 simp [Sem.run_bind, run_sizeOf hi, Sem.run_pure, hs, den, addrOf]
theorem QLOADE {i : Nat} (t : TypeId) (x : Operand) (d : Nat) (ty : TypeId) (ho : opAt ops T i = some (.load t x, some d, ty)) (hd : d < N) (a : Option Addr) (c off : Nat) (cs : List Value) (v : Value)
 (hx : evo T x = some (.e a c off)) (he : ∀ w, At W S0 C w → ElemAt w a c cs) (hv : loadOf P t cs off = some v)
 (k : QO P N W S0 ops Q (i + 1) ((d, .v v) :: T) L C) : QO P N W S0 ops Q i T L C := by
 refine QSTEP _ _ _ ho (by rintro _ ⟨⟩; exact hd) (.v v) (by intro j off he; cases he) ?_ k
 intro ac o bs w hev hop _ hat
 have h1 : ac.eval x = .pointer (some ((addrOf a).add (c + off))) := hev x _ hx
 simp only [execOp, hop, h1, Instr.loadAt, Instr.sureAddr, Sem.run_bind, Sem.run_pure, Result.andThen_ok, (he w hat).load hv, den]
theorem QCALL {i : Nat} (f : FuncId) (vs : Array Value) (d : Option Nat) (hc : callOf P ops T i = some (f, vs, d)) (v : Value)
 (hcon : ∀ w, At W S0 C w → Spec P w [] f vs (RV v)) (hd : ∀ k, d = some k → k < N) (k : QO P N W S0 ops Q (i + 1) (putd d (.v v) T) L C) : QO P N W S0 ops Q i T L C := by
 intro bs a ht hb hl
 obtain ⟨o, hi, hw, hdst, hrun⟩ := callOf_ok hc ht
 refine q_step hi ?_
 rw [hw, if_pos rfl]
 subst hdst
 refine ⟨v, fun w ⟨fps, hm⟩ => ?_, k bs _ (ht.put (put_putd hd) rfl) (hb.put (by intro j off he; cases he) (put_putd hd)) hl⟩
 unfold Oper.quietAt
 rw [hrun w]
 refine ⟨rfl, (hcon w hm.at_ [] trivial (by simp)).mono ?_⟩
 rintro e w' ⟨x, nps, rfl, hn, hnn, hnew, hfr⟩
 refine ⟨rfl, ?_⟩
 obtain ⟨xps, hx, hnx, hex⟩ := hm.exch (js := []) rfl
 match xps, hx with
 | [], _ =>
   obtain ⟨fps', hm'⟩ := hex w' [] [] trivial (by simp) (by simp) hfr
   exact ⟨fps', by simpa using hm'⟩
end rules
def eqFs (P : Program) (xs ys : List Value) : List Field → Option Bool
 | [] => some true
 | f :: fs =>
   if f.name == "_" then none
   else match aggOf P f.type, P.underlying f.type, xs[f.offset]?, ys[f.offset]? with
    | some false, some (.int _), some (.int k a), some (.int k' b) => if k = k' then (eqFs P xs ys fs).map ((a == b) && ·) else none
    | some false, some .string, some (.string a), some (.string b) => (eqFs P xs ys fs).map ((a.toList == b.toList) && ·)
    | some false, some .bool, some (.bool a), some (.bool b) => (eqFs P xs ys fs).map ((a == b) && ·)
    | _, _, _, _ => none
theorem part_run {P : Program} {w : World} {t : TypeId} {cs : List Value} {off : Nat} {v : Value} (h : aggOf P t = some false) (hc : cs[off]? = some v) : (part t cs.toArray off).run P w = .ok v w := by
 unfold part
 rw [Sem.run_bind, run_isAgg h]
 simp [hc, Sem.run_pure]
theorem eqFs_run {P : Program} {w : World} (d : Nat) (xs ys : List Value) : ∀ (fs : List Field) (r : Bool), eqFs P xs ys fs = some r → (Op.eqFields (d + 1) xs.toArray ys.toArray fs).run P w = .ok r w
 | [], r, h => by simp [eqFs] at h; subst h; simp [Op.eqFields, Sem.run_pure]
 | f :: fs, r, h => by
   simp only [eqFs] at h
   split at h
   · cases h
   · rename_i hn
     have hn' : f.name ≠ "_" := by simpa using hn
     have key : ∀ (a b : Value) (c : Bool) (r' : Bool), aggOf P f.type = some false → xs[f.offset]? = some a → ys[f.offset]? = some b → (∀ w, (Op.equalIn (d + 1) f.type a b).run P w = .ok c w) → eqFs P xs ys fs = some r' →
      (Op.eqFields (d + 1) xs.toArray ys.toArray (f :: fs)).run P w = .ok (c && r') w := by
      intro a b c r' hg ha hb he hr
      have ih := eqFs_run (w := w) d xs ys fs r' hr
      simp only [Op.eqFields, hn', ne_eq, not_false_eq_true, if_true, Sem.run_bind, part_run hg ha, part_run hg hb, Result.andThen_ok, he w]
      cases c
      · simp [Sem.run_pure]
      · simpa using ih
     split at h
     · rename_i k0 k a k' b hg hu ha hb
       split at h
       · rename_i hk
         subst hk
         obtain ⟨r', hr, rfl⟩ := Option.map_eq_some_iff.1 h
         exact key _ _ (a == b) r' hg ha hb (fun w => run_equalIn_int w d f.type k _ a b hu) hr
       · cases h
     · rename_i a b hg hu ha hb
       obtain ⟨r', hr, rfl⟩ := Option.map_eq_some_iff.1 h
       exact key _ _ _ r' hg ha hb (fun w => run_equalIn_string w d f.type a b hu) hr
     · rename_i a b hg hu ha hb
       obtain ⟨r', hr, rfl⟩ := Option.map_eq_some_iff.1 h
       exact key _ _ (a == b) r' hg ha hb (fun w => run_equalIn_bool' w d f.type a b hu) hr
     · cases h
def steqOf (P : Program) (t : TypeId) (xs ys : List Value) : Option Bool :=
 match P.underlying t with
 | some (.struct fs) => if P.stoodInHeld t = false ∧ P.eqGuardType P.depth t = false then eqFs P xs ys fs.toList else none
 | _ => none
theorem steqOf_run {P : Program} {w : World} {t : TypeId} {xs ys : List Value} {r : Bool} (h : steqOf P t xs ys = some r) (x y : Operand) :
 ((do eqGuard .eql t x y (.agg xs.toArray) (.agg ys.toArray); binOp .eql t (.agg xs.toArray) (.agg ys.toArray)) : Sem Value).run P w = .ok (.bool r) w ∧
 ((do eqGuard .neq t x y (.agg xs.toArray) (.agg ys.toArray); binOp .neq t (.agg xs.toArray) (.agg ys.toArray)) : Sem Value).run P w = .ok (.bool (!r)) w := by
 unfold steqOf at h
 split at h
 · rename_i fs hu
   split at h
   · rename_i hc
     have hf : P.fieldsOf t = fs := by simp [Program.fieldsOf, hu]
     have ht : P.underlying t = some (.struct (P.fieldsOf t)) := by rw [hf, hu]
     have he : (Op.equalIn 10000 t (.agg xs.toArray) (.agg ys.toArray)).run P w = .ok r w := by
      rw [show (10000 : Nat) = 9999 + 1 from rfl, run_equalIn_struct w 9999 t _ _ ht hc.1, hf]
      exact eqFs_run 9998 xs ys fs.toList r h
     refine ⟨?_, ?_⟩
     · rw [Sem.run_bind, run_eqGuard_agg w .eql t x y _ _ hc.2]
       simp only [Result.andThen_ok]
       rw [run_eql_struct, he]
       rfl
     · rw [Sem.run_bind, run_eqGuard_agg w .neq t x y _ _ hc.2]
       simp only [Result.andThen_ok]
       rw [run_neq_struct, he]
       rfl
   · cases h
 · cases h
section rules
variable {P : Program} {N : Nat} {W : World} {S0 : List Nat} {Q : Exit → Act → World → Prop} {T : Tm} {L : Bx} {C : List Ass} {ops : Array Oper}
def Runs (P : Program) (W : World) (S0 : List Nat) (T : Tm) (C : List Ass) (op : Op) (ty : TypeId) (v : Value) : Prop :=
 ∀ (a : Act) (o : Oper) (bs : List Nat) (w : World), (∀ x s, evo T x = some s → a.eval x = den bs s) → o.op = op → o.type = ty → At W S0 C w → (execOp a.eval o).run P w = .ok (.value v) w
theorem RUNV {i : Nat} {K : Act → World → Prop} (op : Op) (d : Nat) (ty : TypeId) (ho : opAt ops T i = some (op, some d, ty)) (hd : d < N) (v : Value) (hrun : Runs P W S0 T C op ty v) (k : G N W S0 K ((d, .v v) :: T) L C) : OP P N W S0 ops Q i K T L C :=
 STEP op (some d) ty ho (by rintro _ ⟨⟩; exact hd) (.v v) (by intro j off he; cases he) hrun k
theorem QRUNV {i : Nat} (op : Op) (d : Nat) (ty : TypeId) (ho : opAt ops T i = some (op, some d, ty)) (hd : d < N) (v : Value) (hrun : Runs P W S0 T C op ty v) (k : QO P N W S0 ops Q (i + 1) ((d, .v v) :: T) L C) : QO P N W S0 ops Q i T L C :=
 QSTEP op (some d) ty ho (by rintro _ ⟨⟩; exact hd) (.v v) (by intro j off he; cases he) hrun k
theorem runs_eql {t t2 ty : TypeId} {x y : Operand} {xs ys : List Value} {r : Bool} (hx : evv T x = some (.agg xs.toArray)) (hy : evv T y = some (.agg ys.toArray)) (h : steqOf P t xs ys = some r) : Runs P W S0 T C (.binOp .eql t x y t2) ty (.bool r) := by
 intro a o bs w hev hop _ _
 have h1 : a.eval x = .agg xs.toArray := hev x _ (evo_of_evv hx)
 have h2 : a.eval y = .agg ys.toArray := hev y _ (evo_of_evv hy)
 simp only [execOp, hop, h1, h2]
 rw [Sem.run_bind, (steqOf_run h x y).1]
 rfl
theorem runs_neq {t t2 ty : TypeId} {x y : Operand} {xs ys : List Value} {r : Bool} (hx : evv T x = some (.agg xs.toArray)) (hy : evv T y = some (.agg ys.toArray)) (h : steqOf P t xs ys = some r) : Runs P W S0 T C (.binOp .neq t x y t2) ty (.bool (!r)) := by
 intro a o bs w hev hop _ _
 have h1 : a.eval x = .agg xs.toArray := hev x _ (evo_of_evv hx)
 have h2 : a.eval y = .agg ys.toArray := hev y _ (evo_of_evv hy)
 simp only [execOp, hop, h1, h2]
 rw [Sem.run_bind, (steqOf_run h x y).2]
 rfl
theorem runs_quo {t t2 ty : TypeId} {x y : Operand} {k : IntKind} {a b : Int} (hx : evv T x = some (.int k a)) (hy : evv T y = some (.int k b)) (hb : b ≠ 0) : Runs P W S0 T C (.binOp .quo t x y t2) ty (.int k (k.wrap (a.tdiv b))) := by
 intro ac o bs w hev hop _ _
 have h1 : ac.eval x = .int k a := hev x _ (evo_of_evv hx)
 have h2 : ac.eval y = .int k b := hev y _ (evo_of_evv hy)
 simp [execOp, hop, h1, h2, eqGuard, binOp, Op.intDiv, hb, Sem.run_bind, Sem.run_pure]
theorem runs_rem {t t2 ty : TypeId} {x y : Operand} {k : IntKind} {a b : Int} (hx : evv T x = some (.int k a)) (hy : evv T y = some (.int k b)) (hb : b ≠ 0) : Runs P W S0 T C (.binOp .rem t x y t2) ty (.int k (a.tmod b)) := by
 intro ac o bs w hev hop _ _
 have h1 : ac.eval x = .int k a := hev x _ (evo_of_evv hx)
 have h2 : ac.eval y = .int k b := hev y _ (evo_of_evv hy)
 simp [execOp, hop, h1, h2, eqGuard, binOp, Op.intDiv, hb, Sem.run_bind, Sem.run_pure]
end rules
theorem bs_size (s : List UInt8) : (bs s).size = s.length := rfl
theorem bs_get (s : List UInt8) (k : Nat) (h : k < (bs s).size) : (bs s)[k] = s[k]'h := rfl
def byteOf (z : Int) : UInt8 := UInt8.ofNat (z % 256).toNat
theorem v8 (z : Int) : Value.int .u8 (IntKind.wrap .u8 z) = .int .u8 ((byteOf z).toNat : Int) := by
 congr 1
 have h : IntKind.wrap .u8 z = z % 256 := by simp [IntKind.wrap, IntKind.bits, IntKind.signed]
 rw [h, byteOf, UInt8.toNat_ofNat']
 omega
theorem vi_u8 (y : UInt8) : Value.int .i64 (IntKind.wrap .i64 (y.toNat : Int)) = vi (y.toNat : Int) := by
 have := y.toNat_lt
 exact vi_wr (by omega) (by omega)
section rules
variable {P : Program} {N : Nat} {W : World} {S0 : List Nat} {Q : Exit → Act → World → Prop} {T : Tm} {L : Bx} {C : List Ass} {ops : Array Oper}
theorem runs_sidx {t ty : TypeId} {x ix : Operand} {s : List UInt8} {kd : IntKind} {z : Int} {k : Nat} {y : UInt8} (hu : P.underlying t = some .string) (hx : evv T x = some (.string (bs s))) (hix : evv T ix = some (.int kd z)) (h0 : 0 ≤ z) (hk : z.toNat = k) (hy : s[k]? = some y) :
 Runs P W S0 T C (.index t x ix) ty (.int .u8 y.toNat) := by
 intro ac o fr w hev hop _ _
 have h1 : ac.eval x = .string (bs s) := hev x _ (evo_of_evv hx)
 have h2 : ac.eval ix = .int kd z := hev ix _ (evo_of_evv hix)
 obtain ⟨hlt, he⟩ := List.getElem?_eq_some_iff.1 hy
 have hc : 0 ≤ z ∧ z < (bs s).size := ⟨h0, by rw [bs_size]; omega⟩
 have hg : (bs s)[z.toNat]'(by omega) = y := by
  subst hk
  exact (bs_get s _ _).trans he
 simp only [execOp, hop, h1, h2, Sem.run_bind, run_index_string w t (bs s) kd z hu, dif_pos hc, hg, Result.andThen_ok, Sem.run_pure]
theorem QCAST {i d : Nat} (v v' : Value) (hd : lk T d = some (.v v)) (he : v = v') (k : QO P N W S0 ops Q i ((d, .v v') :: T) L C) : QO P N W S0 ops Q i T L C := by
 subst he
 intro bs a ht hb hl
 refine k bs a ⟨ht.1, ht.2.1, fun i x hx => ?_⟩ ?_ hl
 · simp only [lk] at hx
   by_cases hk : d = i
   · subst hk; simp at hx; subst hx; exact ht.2.2 d _ hd
   · have : (d == i) = false := by simpa using hk
     simp only [this, Bool.false_eq_true, if_false] at hx
     exact ht.2.2 i x hx
 · exact hb
theorem Rd.of {α : Type} {La : Lay α} {w : World} {a : Option Addr} {xs : List α} (h : ∃ f, SlR La w a xs f) : Rd La w a xs := h
theorem append_post {α : Type} {La : Lay α} {e : TypeId} {w w' : World} {v v' : Value} {xs ys : List α} {f1 : List Nat} {cells1 g1 cells2 g2} (hrow1 : ownsR w e La.sz v xs.length cells1) (hf1 : f1 = v.ownBlock.toList ++ g1) (hrep1 : cellsRep La true w cells1 xs g1)
 (hrep2 : cellsRep La true w' cells2 ys g2) (hg2 : g2 = []) (hnd : f1.Nodup) (hlt : ∀ b ∈ f1, b < w.heap.size) (hlen' : xs.length + ys.length ≤ maxLen)
 (hown' : ownsR w' e La.sz v' (xs.length + ys.length) (cells1 ++ cells2)) (hg : w.grownBy w' v.ownBlock) (hblk : v'.ownBlock = v.ownBlock ∨ v'.ownBlock = some w.heap.size) :
 ∃ (a : Option Addr) (c : Nat) (nps : List Nat), v' = .slice a (xs.length + ys.length) c ∧ (a = none → xs.length + ys.length = 0) ∧ SlO e La w' v' (xs ++ ys) nps ∧ nps.Nodup ∧ (∀ b ∈ nps, b < w.heap.size → b ∈ f1) ∧ Fr f1 w w' := by
 subst hg2
 have hform : ∃ a c, v' = .slice a (xs.length + ys.length) c ∧ (a = none → xs.length + ys.length = 0) := by
  rcases hown'.2 with ⟨rfl, h0⟩ | ⟨b, ob, cap', cur, fz, rfl, _⟩
  · exact ⟨none, 0, by rw [h0], fun _ => h0⟩
  · exact ⟨_, _, rfl, by intro h; cases h⟩
 obtain ⟨a', c', hv', hnone⟩ := hform
 have hd := hnd
 rw [hf1] at hd
 have hd := List.nodup_append.1 hd
 have hkeep : ∀ b ∈ g1, w'.heap[b]? = w.heap[b]? := by
  intro b hb
  refine hg.block b (hlt b (by rw [hf1]; exact List.mem_append.2 (.inr hb))) ?_
  intro hbv
  exact hd.2.2 b (by simp [← hbv]) b hb rfl
 have hnew : ∀ b, v'.ownBlock = some b → b ∈ v.ownBlock.toList ∨ b = w.heap.size := by
  intro b hb
  rcases hblk with h | h
  · left; rw [← h, hb]; simp
  · right; rw [hb] at h; injection h
 refine ⟨a', c', v'.ownBlock.toList ++ (g1 ++ []), hv', hnone, ⟨cells1 ++ cells2, g1 ++ [], ?_, rfl, (hrep1.st hkeep).append hrep2, by simpa using hlen'⟩, ?_, ?_, ⟨hg.os, hg.tape, hg.output, hg.size, fun b hb hn => hg.block b hb ?_⟩⟩
 · simpa using hown'
 · rw [List.append_nil]
   refine List.nodup_append.2 ⟨by cases v'.ownBlock <;> simp, hd.2.1, ?_⟩
   rintro p hp q hq rfl
   rcases hnew p (by simpa using hp) with h | h
   · exact hd.2.2 p h p hq rfl
   · have := hlt p (by rw [hf1]; exact List.mem_append.2 (.inr hq)); omega
 · intro b hb hlt'
   rw [List.append_nil] at hb
   rw [hf1]
   rcases List.mem_append.1 hb with h | h
   · rcases hnew b (by simpa using h) with h | h
     · exact List.mem_append.2 (.inl h)
     · omega
   · exact List.mem_append.2 (.inr h)
 · intro hbv
   exact hn (by rw [hf1]; simp [← hbv])
theorem flat_cells {α : Type} {sz : Nat} {enc : α → List Value} {hh : ∀ x, (enc x).length = sz ∧ ∀ u ∈ enc x, isCell u = true} {m : Bool} {w : World} : ∀ {xs : List α} {cells g}, cellsRep (flat sz enc hh) m w cells xs g → cells = xs.flatMap enc ∧ g = []
 | [], cells, g, h => by simpa [cellsRep] using h
 | z :: zs, cells, g, ⟨cs, rest, f1, f2, h1, h2, ⟨h3, h4⟩, h5⟩ => by
   obtain ⟨h6, h7⟩ := flat_cells h5
   subst h1; subst h2; subst h3; subst h4; subst h6; subst h7
   simp
theorem APPENDR {i : Nat} {K : Act → World → Prop} (t : TypeId) (s x : Operand) (d : Nat) (ty : TypeId) (ho : opAt ops T i = some (.call { callee := .builtin .append, args := #[s, x], argTypes := #[t, t] }, some d, ty)) (hd : d < N)
 {α : Type} {sz : Nat} {enc : α → List Value} {hh : ∀ x, (enc x).length = sz ∧ ∀ u ∈ enc x, isCell u = true}
 (v : Value) (a2 : Option Addr) (n2 c2 : Nat) (hs : evv T s = some v) (hx : evv T x = some (.slice a2 n2 c2)) (e : TypeId) (hu : P.underlying t = some (.slice e)) (z : Value) (bytes : Nat)
 (hi : (P.info? e).map (fun i => (i.zero, i.size, i.bytes)) = some (some z, sz, bytes)) (hz : z.cells.size = sz) (hsz : 0 < sz) (j1 : Nat) (xs ys : List α) (R : List Ass) (hp : pulls [j1] C = some ([slA e (flat sz enc hh) v xs], R))
 (hn2 : ys.length = n2) (hrd : ∀ w, At W S0 C w → Rd (flat sz enc hh) w a2 ys) (hlen : (xs.length + n2) * bytes ≤ 140737488355328) (hlen' : xs.length + n2 ≤ maxLen)
 (k : ∀ (a : Option Addr) (c : Nat), (a = none → (xs ++ ys).length = 0) → G N W S0 K ((d, .v (.slice a (xs ++ ys).length c)) :: T) L (R ++ [slA e (flat sz enc hh) (.slice a (xs ++ ys).length c) (xs ++ ys)])) : OP P N W S0 ops Q i K T L C := by
 have hxy : (xs ++ ys).length = xs.length + n2 := by rw [List.length_append, hn2]
 rw [hxy] at k
 obtain ⟨inf, h1, h2, h3, h4⟩ := info_at hi
 refine STEPM (js := [j1]) (ι := {p : Option Addr × Nat // p.1 = none → xs.length + n2 = 0}) (val := fun p => .slice p.1.1 (xs.length + n2) p.1.2) (own := fun p => [slA e (flat sz enc hh) (.slice p.1.1 (xs.length + n2) p.1.2) (xs ++ ys)]) _ (some d) _ ho (by rintro _ ⟨⟩; exact hd) hp ?_ (fun p => k p.1.1 p.1.2 p.2)
 intro ac o fr w fps hev hop hty hat hown hnd
 match fps, hown with
 | [f1], ⟨⟨cells1, g1, hrow1, hf1, hrep1, hl1⟩, _⟩ =>
   subst hn2
   have hf1lt : ∀ b ∈ f1, b < w.heap.size := (slA e (flat sz enc hh) v xs).lt w f1 ⟨cells1, g1, hrow1, hf1, hrep1, hl1⟩
   obtain ⟨fr2, hl2, hsl⟩ := hrd w hat
   have e1 : ac.eval s = v := hev s _ (evo_of_evv hs)
   have e2 : ac.eval x = .slice a2 ys.length c2 := hev x _ (evo_of_evv hx)
   have hflen : (ys.flatMap enc).length = ys.length * sz := (cellsRep_flat (h := hh) (m := true) (w := w) ys).len
   have hmem : ∀ u ∈ ys.flatMap enc, isCell u = true := fun u hu => (cellsRep_flat (h := hh) (m := true) (w := w) ys).one u hu
   have hsrc : Src P sz t (.slice a2 ys.length c2) ys.length (ys.flatMap enc) w := by
    cases a2 with
    | some ad =>
      refine Src.ofSlice w hu ad ys.length c2 (ys.flatMap enc) hflen ?_ (fun u hu => isCell_one (hmem u hu))
      intro j u hj
      rcases hsl with ⟨h0, _⟩ | ⟨b, off, g, cells, h1, h2, h3, h4, h5⟩
      · subst h0; simp at hj
      · injection h1 with h1
        subst h1
        obtain ⟨rfl, _⟩ := flat_cells h4
        rw [add_lit, h5 j (List.getElem?_eq_some_iff.1 hj).1, hj]
    | none =>
      have h0 : ys = [] := by
       rcases hsl with ⟨h0, _⟩ | ⟨b, off, g, cells, h1, _⟩
       · exact h0
       · cases h1
      subst h0
      exact Src.ofNil w hu c2
   obtain ⟨v', w', hr, hown', hg, hblk⟩ := run_append_R (P := P) (ty := o.type) hu h1 h2 h3 h4 hz hrow1 hsrc hmem hlen' hlen
   obtain ⟨a, c, nps, rfl, hnone, ho', hnd', hnew, hfr⟩ := append_post (La := flat sz enc hh) hrow1 hf1 hrep1 (cellsRep_flat (w := w') ys) rfl (by simpa using hnd) hf1lt hlen' hown' hg hblk
   refine ⟨⟨(a, c), hnone⟩, w', _, [nps], ?_, .inl rfl, ⟨ho', trivial⟩, by simpa using hnd', by simpa using hnew, by simpa using hfr⟩
   simp [execOp, hop, resolve, invoke, builtin, e1, e2, hr, Result.andThen]
end rules
end SX
end Go.Proofs.YtejojcoaohlfbaaGreat
