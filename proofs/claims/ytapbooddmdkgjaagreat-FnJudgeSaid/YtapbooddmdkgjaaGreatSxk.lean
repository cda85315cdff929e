/- Texts of this claim, put together by program. -/
import Derived.Test.YtapbooddmdkgjaaGreatSxw
import Derived.Test.YtapbooddmdkgjaaGreatSxc
import Derived.Lib.AppendZerosOnto
import Derived.Lib.Overlaps
/- Rows whose memory bears no mark; the library's test whether two rows overlap; zeros put behind a row; capacities. It imports no program. -/
namespace Go.Proofs.YtapbooddmdkgjaaGreat
namespace SX
set_option linter.unusedVariables false
set_option linter.unusedSimpArgs false
open Go Go.RowKit
/-- a slice that is owned, and whose block bears no mark -/
def slP {α : Type} (e : TypeId) (L : Lay α) (v : Value) (xs : List α) : Ass :=
  ⟨fun w f => SlO e L w v xs f ∧ ∀ g, v.ownBlock = some g → ∃ cur, w.heap[g]? = some (.cells cur e (0, 0)),
    fun w w' f h hb => by
      refine ⟨h.1.st hb, fun g hg => ?_⟩
      obtain ⟨cur, hc⟩ := h.2 g hg
      obtain ⟨cells, g', h1, h2, h3, h4⟩ := h.1
      exact ⟨cur, (hb g (by rw [h2, hg]; simp)).trans hc⟩,
    fun w f h => h.1.lt⟩
/-- what a row comes to where one element is put in: the two ways -/
theorem ins_grow {α : Type} {s v : List α} {i q : Nat} {z : α} (hv : v.length = 1) (hi : i ≤ s.length) (hq : q = s.length + 1 - i) :
    ((s.take i ++ List.replicate q z).take i ++ v ++ (s.take i ++ List.replicate q z).drop (i + v.length)).take (i + 1) ++ s.drop i ++ ((s.take i ++ List.replicate q z).take i ++ v ++ (s.take i ++ List.replicate q z).drop (i + v.length)).drop (i + 1 + (s.drop i).length) = s.take i ++ v ++ s.drop i := by
  have h1 : (s.take i).length = i := by rw [List.length_take]; omega
  have h2 : (s.take i ++ List.replicate q z).take i = s.take i := by rw [List.take_append_of_le_length (by omega), List.take_take, Nat.min_self]
  have h3 : (s.take i ++ v).length = i + 1 := by rw [List.length_append]; omega
  have h4 : (s.take i ++ v ++ (s.take i ++ List.replicate q z).drop (i + v.length)).length = s.length + 1 := by
    simp only [List.length_append, List.length_drop, List.length_replicate]; omega
  have h5 : (s.take i ++ v ++ (s.take i ++ List.replicate q z).drop (i + v.length)).drop (i + 1 + (s.drop i).length) = [] := List.drop_of_length_le (by rw [h4, List.length_drop]; omega)
  have h6 : (s.take i ++ v ++ (s.take i ++ List.replicate q z).drop (i + v.length)).take (i + 1) = s.take i ++ v := by rw [List.take_append_of_le_length (by omega), List.take_of_length_le (by omega)]
  rw [h2, h5, h6, List.append_nil]
theorem ins_shift {α : Type} {s v : List α} {i : Nat} (hv : v.length = 1) (hi : i < s.length) : (s.take (i + 1) ++ s.drop i).take i ++ v ++ (s.take (i + 1) ++ s.drop i).drop (i + v.length) = s.take i ++ v ++ s.drop i := by
  have h1 : (s.take (i + 1)).length = i + 1 := by rw [List.length_take]; omega
  rw [List.take_append_of_le_length (by omega), List.take_take, show min i (i + 1) = i by omega, hv, List.drop_append_of_le_length (by omega), List.drop_of_length_le (l := s.take (i + 1)) (by omega), List.nil_append]
theorem ins_end {α : Type} {s v : List α} {i : Nat} (hi : i = s.length) : s ++ v = s.take i ++ v ++ s.drop i := by
  subst hi
  rw [List.take_length, List.drop_length, List.append_nil]
section rules
variable {P : Program} {N : Nat} {W : World} {S0 : List Nat} {Q : Exit → Go.Act → World → Prop} {T : Tm} {L : Bx} {C : List Ass} {ops : Array Oper}
theorem WEAKP {K : Go.Act → World → Prop} {α : Type} {e : TypeId} {La : Lay α} {v : Value} {xs : List α} (j : Nat) (R : List Ass) (hp : pulls [j] C = some ([slP e La v xs], R)) (k : G N W S0 K T L (R ++ [slA e La v xs])) : G N W S0 K T L C := by
  rintro a w ⟨bs, fps, ht, hb, hm⟩
  obtain ⟨xps, hx, hnx, hex⟩ := hm.exch hp
  match xps, hx with
  | [fp], ⟨h, _⟩ =>
    obtain ⟨fps', hmem⟩ := hex w [slA e La v xs] [fp] ⟨h.1, trivial⟩ hnx (fun b hb _ => hb) (Fr.refl _ _)
    exact k a w ⟨bs, fps', ht, hb, hmem⟩
theorem BUILDP {i : Nat} {K : Go.Act → World → Prop} (t : TypeId) (len : Nat) (parts : Array (Nat × Operand)) (d : Nat) (ty : TypeId) (e : TypeId) (cells : List Value) {α : Type} (La : Lay α) (xs : List α) (hrep : ∀ w fps, holds w [] fps → cellsRep La true w cells xs fps.flatten)
    (k : ∀ a : Option Addr, a.isSome = true → G N W S0 K ((d, .v (.slice a len len)) :: T) L (C ++ [slP e La (.slice a len len) xs])) (ho : opAt ops T i = some (.buildSlice t len parts, some d, ty) := by kernel_rfl) (hd : d < N := by exact NL rfl)
    (hb : (partsOf T parts.toList).bind (bsOf P t len) = some (e, cells) := by kernel_rfl) (hl : xs.length = len := by rfl) (hm : len ≤ maxLen := by simp only [maxLen]; omega) : OP P N W S0 ops Q i K T L C := by
  refine STEPM (js := []) (pre := []) (R := C) (ι := {a : Option Addr // a.isSome = true}) (val := fun a => .slice a.1 len len) (own := fun a => [slP e La (.slice a.1 len len) xs]) _ (some d) _ ho (by rintro _ ⟨⟩; exact hd) rfl ?_ (fun a => k a.1 a.2)
  intro ac o bs w fps hev hop hty hat hown hnd
  obtain ⟨pl, hpl, hbs⟩ := Option.bind_eq_some_iff.1 hb
  have hr := bsOf_run hbs w
  have hmap : parts.map (fun (p : Nat × Operand) => (p.1, ac.eval p.2)) = pl.toArray := by
    rw [← partsOf_ok hev hpl]
    rcases parts with ⟨l⟩
    simp
  have hrep' := hrep w fps hown
  have hlt := holds.lt hown
  have hcl := hrep'.len
  have hold : ∀ b, b < w.heap.size → (w.alloc (.cells cells.toArray e)).heap[b]? = w.heap[b]? := fun b hb => Below.heap_alloc _ _ _ hb
  refine ⟨⟨some ⟨w.heap.size, 0, none⟩, rfl⟩, w.alloc (.cells cells.toArray e), _, [w.heap.size :: fps.flatten], ?_, .inl rfl, ⟨⟨⟨cells, fps.flatten, ?_, by simp [Value.ownBlock], hrep'.st fun b hbm => hold b (hlt b hbm), by rw [hl]; exact hm⟩, ?_⟩, trivial⟩, ?_, ?_, ?_⟩
  · simp only [execOp, hop, hmap, Sem.run_bind, hr, Result.andThen_ok, Sem.run_pure]
  · rw [hl]
    exact ownsR.of (World.ownsRow_lit w cells.toArray len (Nat.zero_le _) hm (by simp [hcl, hl]))
  · intro g hg
    simp only [Value.ownBlock, Option.some.injEq] at hg
    subst hg
    exact ⟨cells.toArray, heap_alloc_new w _⟩
  · simp only [List.flatten_cons, List.flatten_nil, List.append_nil, List.nodup_cons]
    exact ⟨fun hbm => by have := hlt _ hbm; omega, hnd⟩
  · intro b hbm hb
    simp only [List.flatten_cons, List.flatten_nil, List.append_nil, List.mem_cons] at hbm
    rcases hbm with rfl | hbm
    · omega
    · exact hbm
  · exact ⟨rfl, rfl, rfl, by simp, fun b hb _ => hold b hb⟩
/-- slices.overlaps of a row without marks and of a part of another -/
theorem OVERLP {i : Nat} {K : Go.Act → World → Prop} (f : FuncId) (x y : Operand) (t tR : TypeId) (d : Nat) (ty : TypeId) {fn : Func} (hf : P.funcs[f]? = some fn) {α : Type} {sz : Nat} {enc : α → List Value} {hh : ∀ x, (enc x).length = sz ∧ ∀ u ∈ enc x, isCell u = true}
    (va : Option Addr) (vn vc : Nat) (a : Option Addr) (n c l m c2 : Nat) (e : TypeId) (j1 j2 : Nat) (vs xs : List α) (R : List Ass) (hp : pulls [j1, j2] C = some ([slP e (flat sz enc hh) (.slice va vn vc) vs, slA e (flat sz enc hh) (.slice a n c) xs], R)) (hva : va.isSome = true) (ha : a.isSome = true) (hc0 : 0 < c) (hs0 : 0 < sz)
    (kk : G N W S0 K ((d, .v (.bool false)) :: T) L (R ++ [slP e (flat sz enc hh) (.slice va vn vc) vs, slA e (flat sz enc hh) (.slice a n c) xs]))
    (ho : opAt ops T i = some (.call { callee := .value (.func f), args := #[x, y], argTypes := #[t, t] }, some d, ty) := by kernel_rfl) (hd : d < N := by exact NL rfl) (hx : evv T x = some (.slice va vn vc) := by kernel_rfl) (hy : evv T y = some (.slice (elA a c l sz) m c2) := by kernel_rfl)
    (hname : (fn.name == "runtime.NumGoroutine") = false := by kernel_rfl) (hbody : fn.body.isNone = true := by kernel_rfl) (hn : Extern.findNext fn = none := by kernel_rfl) (he : Extern.find fn = some (Extern.SlicesOverlaps.overlaps #[t, t] #[tR]) := by kernel_rfl)
    (hu : P.underlying t = some (.slice e) := by kernel_rfl) (hi : (P.info? e).map (·.size) = some sz := by kernel_rfl) : OP P N W S0 ops Q i K T L C := by
  refine STEPM (js := [j1, j2]) (ι := Unit) (val := fun _ => .bool false) (own := fun _ => [slP e (flat sz enc hh) (.slice va vn vc) vs, slA e (flat sz enc hh) (.slice a n c) xs]) _ (some d) _ ho (by rintro _ ⟨⟩; exact hd) hp ?_ (fun _ => kk)
  intro ac o bs w fps hev hop hty hat hown hnd
  match fps, hown with
  | [f1, f2], ⟨hso1, hso2, _⟩ =>
    obtain ⟨b1, o1, full1, rfl, rfl, rfl, hfull1, hft1, hnc1, hcm1⟩ := flatRow hso1.1 hva
    obtain ⟨b2, o2, full2, rfl, rfl, rfl, hfull2, hft2, hnc2, hcm2⟩ := flatRow hso2 ha
    obtain ⟨cur1, hcur1⟩ := hso1.2 b1 rfl
    obtain ⟨inf, hi1, hi2⟩ := Option.map_eq_some_iff.1 hi
    have hne : b1 ≠ b2 := by
      simp only [List.flatten_cons, List.flatten_nil, List.append_nil, List.cons_append, List.nil_append, List.nodup_cons, List.mem_singleton] at hnd
      exact hnd.1
    rcases hfull2.2 with ⟨hv, h0⟩ | ⟨g2, ob2, cap2, cur2, fz2, hv, hg2, hfz2, _, _, hcs2, _⟩
    · omega
    · injection hv with e1 e2 e3
      injection e1 with e1
      injection e1 with e1
      subst e1; subst e3
      have e1 : ac.eval x = .slice (some ⟨b1, o1, none⟩) vs.length vc := hev x _ (evo_of_evv hx)
      have e2 : ac.eval y = .slice (elA (some ⟨b2, o2, none⟩) c l sz) m c2 := hev y _ (evo_of_evv hy)
      obtain ⟨ofs, hofs⟩ : ∃ ofs, elA (some ⟨b2, o2, none⟩) c l sz = some ⟨b2, ofs, none⟩ := by
        unfold elA
        split
        · exact ⟨o2, rfl⟩
        · exact ⟨o2 + l * sz, by simp [add_lit]⟩
      rw [hofs] at e2
      have hpos : cur2.size ≠ 0 := by
        have := Nat.mul_ne_zero (m := sz) (n := c) (by omega) (by omega)
        have hcs3 : ob2 + c * sz ≤ cur2.size := hcs2
        omega
      have hrun := Lib.run_overlaps_apart (P := P) w t tR e hu sz (fun w => by rw [← hi2]; exact run_sizeOf hi1) ⟨b1, o1, none⟩ ⟨b2, ofs, none⟩ vs.length vc m c2 hne e e cur1.size cur2.size (by simp [World.shape?, hcur1]) (by simp [World.shape?, hg2]) hpos (by simp [World.frozen?, hcur1]) (by simp [World.frozen?, hcur1])
      refine ⟨(), w, _, [[b1], [b2]], ?_, .inl rfl, ⟨hso1, hso2, trivial⟩, hnd, fun b hb _ => hb, Fr.refl _ _⟩
      have hcall := run_callFunc_extern hf hname hbody hn he #[.slice (some ⟨b1, o1, none⟩) vs.length vc, .slice (some ⟨b2, ofs, none⟩) m c2] w
      rw [hrun] at hcall
      have e3 : ac.eval (.func f) = Value.func (.func f) #[] #[] := rfl
      simp [execOp, hop, resolve, invoke, e1, e2, e3, Deferred.ofValue, hcall, Result.andThen]
theorem CUT3V {i : Nat} {K : Go.Act → World → Prop} (t : TypeId) (x lo hi mx : Operand) (d : Nat) (ty : TypeId) (ho : opAt ops T i = some (.slice t x (some lo) (some hi) (some mx), some d, ty)) (hd : d < N) (a : Option Addr) (n cap : Nat) (kl : IntKind) (l : Int) (kh : IntKind) (h : Int) (km : IntKind) (m : Int)
    (hx : evv T x = some (.slice a n cap)) (hl : evv T lo = some (.int kl l)) (hh : evv T hi = some (.int kh h)) (hm : evv T mx = some (.int km m)) (e : TypeId) (sz : Nat) (hu : P.underlying t = some (.slice e)) (hs : (P.info? e).map (·.size) = some sz) (h0 : 0 ≤ l) (h1 : l ≤ h) (h2 : h ≤ m) (h3 : m ≤ cap)
    (k : G N W S0 K ((d, .v (.slice (elA a m.toNat l.toNat sz) (h.toNat - l.toNat) (m.toNat - l.toNat))) :: T) L C) : OP P N W S0 ops Q i K T L C := by
  refine STEP _ _ _ ho (by rintro _ ⟨⟩; exact hd) (.v (.slice (elA a m.toNat l.toNat sz) (h.toNat - l.toNat) (m.toNat - l.toNat))) (by intro j off he; cases he) ?_ k
  intro ac o bs w hev hop _ _
  obtain ⟨inf, hi1, hsz⟩ := Option.map_eq_some_iff.1 hs
  have hel : P.elem t = e := by unfold Program.elem; rw [hu]
  have hu' : P.underlying t = some (.slice (P.elem t)) := by rw [hel]; exact hu
  have e1 : ac.eval x = .slice a n cap := hev x _ (evo_of_evv hx)
  have e2 : ac.eval lo = .int kl l := hev lo _ (evo_of_evv hl)
  have e3 : ac.eval hi = .int kh h := hev hi _ (evo_of_evv hh)
  have e4 : ac.eval mx = .int km m := hev mx _ (evo_of_evv hm)
  simp only [execOp, hop, e1, e2, e3, e4, Option.map_some, Option.map_none, Sem.run_bind, run_sliceAt_slice w t _ _ _ _ hu', run_slice_lhm w t a n cap hu' kl kh km l h m h0 h1 h2 h3, hel, run_sizeOf hi1, Result.andThen_ok, Sem.run_pure, hsz, sliced, elA, den]
theorem CAPV {i : Nat} {K : Go.Act → World → Prop} (t : TypeId) (x : Operand) (d : Nat) (ty : TypeId) (ho : opAt ops T i = some (.call { callee := .builtin .cap, args := #[x], argTypes := #[t] }, some d, ty)) (hd : d < N) (a : Option Addr) (n c : Nat) (hx : evv T x = some (.slice a n c)) (e : TypeId) (hu : P.underlying t = some (.slice e))
    (k : G N W S0 K ((d, .v (vi (c : Int))) :: T) L C) : OP P N W S0 ops Q i K T L C := by
  refine STEP _ _ _ ho (by rintro _ ⟨⟩; exact hd) (.v (vi (c : Int))) (by intro j off he; cases he) ?_ k
  intro ac o bs w hev hop _ _
  have e1 : ac.eval x = .slice a n c := hev x _ (evo_of_evv hx)
  simp [execOp, hop, resolve, invoke, builtin, e1, Builtin.cap_, run_underlying hu, goInt, Result.andThen, Sem.run_pure, Sem.run_bind, den]
/-- append(s, make(..)...) where there is no room: a new row, zeros behind -/
theorem APPENDZ {i : Nat} {K : Go.Act → World → Prop} (t tn : TypeId) (s x : Operand) (d : Nat) (ty : TypeId) (ho : opAt ops T i = some (.call { callee := .builtin .append, args := #[s, x], argTypes := #[t, tn] }, some d, ty)) (hd : d < N)
    {α : Type} {sz : Nat} {enc : α → List Value} {hh : ∀ x, (enc x).length = sz ∧ ∀ u ∈ enc x, isCell u = true}
    (a : Option Addr) (k c q : Nat) (kq kn : IntKind) (hs : evv T s = some (.slice a k c)) (hx : evv T x = some (.int kq (q : Int))) (e : TypeId) (hu : P.underlying t = some (.slice e)) (hun : P.underlying tn = some (.int kn)) (z : Value) (bytes : Nat)
    (hi : (P.info? e).map (fun i => (i.zero, i.size, i.bytes)) = some (some z, sz, bytes)) (x0 : α) (hz : z.cells.toList = enc x0) (xs : List α) (hk : xs.length = k) (hr1 : ∀ w, At W S0 C w → Rd (flat sz enc hh) w a xs)
    (hgrow : c < k + q) (hq : 0 < q) (hsz : 0 < sz) (hlen : (k + q) * bytes ≤ 140737488355328) (hlen' : k + q ≤ maxLen)
    (kk : ∀ (a' : Option Addr) (c' : Nat), a'.isSome = true → G N W S0 K ((d, .v (.slice a' (k + q) c')) :: T) L (C ++ [slA e (flat sz enc hh) (.slice a' (k + q) c') (xs ++ List.replicate q x0)])) : OP P N W S0 ops Q i K T L C := by
  obtain ⟨inf, h1, h2, h3, h4⟩ := info_at hi
  refine STEPM (js := []) (pre := []) (R := C) (ι := {p : Option Addr × Nat // p.1.isSome = true}) (val := fun p => .slice p.1.1 (k + q) p.1.2) (own := fun p => [slA e (flat sz enc hh) (.slice p.1.1 (k + q) p.1.2) (xs ++ List.replicate q x0)]) _ (some d) _ ho (by rintro _ ⟨⟩; exact hd) rfl ?_ (fun p => kk p.1.1 p.1.2 p.2)
  intro ac o fr w fps hev hop hty hat hown hnd
  match fps, hown with
  | [], _ =>
    subst hk
    have e1 : ac.eval s = .slice a xs.length c := hev s _ (evo_of_evv hs)
    have e2 : ac.eval x = .int kq (q : Int) := hev x _ (evo_of_evv hx)
    have hs1 := src_of (P := P) hu (hr1 w hat) c
    subst h3
    have hb2 : q * inf.bytes ≤ 281474976710656 := by
      rw [h4]
      have : q * bytes ≤ (xs.length + q) * bytes := Nat.mul_le_mul_right _ (by omega)
      omega
    have hr := Lib.run_append_grow_zeros (P := P) w t tn o.type e inf z kq kn hu hun h1 h2 a xs.length c (xs.flatMap enc) hs1.cellsD q hq hsz hgrow (by simp only [maxLen] at hlen'; omega) hb2 (by rw [h4]; exact growslice_fits hgrow hlen)
    have hge := grownCap_ge w (xs.length + q) c e
    have hcm : grownCap w (xs.length + q) c e ≤ maxLen := grownCap_le_maxLen w (xs.length + q) c e hlen'
    have hhl : ∀ x, (enc x).length = inf.size := fun x => (hh x).1
    have hl : (xs ++ List.replicate q x0).length = xs.length + q := by rw [List.length_append, List.length_replicate]
    have hzs : z.cells.size = inf.size := by rw [← Array.length_toList, hz]; exact hhl x0
    have hzc : (Builtin.zeroCells z.cells q).toList = (List.replicate q x0).flatMap enc := by
      have h5 := made_rows (enc x0) (by rw [hhl x0]; exact hsz) q
      have h6 : (List.replicate q (enc x0)).flatten = (List.replicate q x0).flatMap enc := by rw [List.flatMap_replicate]
      rw [← h6, ← h5, hhl x0, ← hz, ← hzs]
      simp [Builtin.zeroCells, madeCells]
    refine ⟨⟨(some ⟨w.heap.size, 0, none⟩, grownCap w (xs.length + q) c e), rfl⟩, w.drew.alloc (.cells ((xs.flatMap enc).toArray ++ Builtin.zeroCells z.cells q ++ Builtin.zeroCells z.cells (grownCap w (xs.length + q) c e - (xs.length + q))) e), _, [[w.heap.size]], ?_, .inl rfl, ⟨⟨(xs ++ List.replicate q x0).flatMap enc, [], ?_, by simp [Value.ownBlock], cellsRep_flat _, by rw [hl]; exact hlen'⟩, trivial⟩, by simp, ?_, ?_⟩
    · simp [execOp, hop, resolve, invoke, builtin, e1, e2, hr, Result.andThen]
    · refine ⟨by rw [flatMap_len hhl]; rfl, .inr ⟨w.heap.size, 0, _, _, (0, 0), by rw [hl], heap_alloc_new w.drew _, .inl (Nat.le_refl _), by rw [hl]; exact hge, hcm, ?_, ?_⟩⟩
      · refine Nat.le_of_eq (Eq.symm ?_)
        simp only [Array.size_append, List.size_toArray, size_zeroCells, hzs, flatMap_len hhl, Nat.zero_add]
        show _ = _ * inf.size
        rw [← Nat.add_mul, ← Nat.add_mul]; congr 1; omega
      · have hlen2 : ((xs ++ List.replicate q x0).flatMap enc).length = (xs ++ List.replicate q x0).length * inf.size := flatMap_len hhl _
        simp only [List.drop_zero, Array.toList_append, hzc, ← List.flatMap_append]
        show List.take ((xs ++ List.replicate q x0).length * inf.size) _ = _
        rw [← hlen2]
        exact List.take_left
    · intro c' hc' hlt
      simp only [List.flatten_cons, List.flatten_nil, List.append_nil, List.mem_singleton] at hc'
      omega
    · exact ⟨rfl, rfl, rfl, by simp, fun k hk _ => Below.heap_alloc w.drew _ k hk⟩
end rules
section hrules
variable {P : Program} {N : Nat} {W : World} {S0 : List Nat} {Q : Exit → Go.Act → World → Prop} {T : Tm} {L : Bx} {C C0 : List Ass} {ops : Array Oper}
/-! ### A store into an element of a slice that is owned -/
theorem HCUTLV {fuel : Nat} {listed : Array Bool} {i : Nat} (t : TypeId) (x lo : Operand) (d : Nat) (ty : TypeId) (ho : opAt ops T i = some (.slice t x (some lo) none none, some d, ty)) (hd : d < N) (a : Option Addr) (n cap : Nat) (kl : IntKind) (l : Int)
    (hx : evv T x = some (.slice a n cap)) (hl : evv T lo = some (.int kl l)) (e : TypeId) (sz : Nat) (hu : P.underlying t = some (.slice e)) (hs : (P.info? e).map (·.size) = some sz) (h0 : 0 ≤ l) (h1 : l ≤ n)
    (hk : (Region.noSelect ops && Region.free .any ops listed i && (Region.ready .any ops listed).contains i) = true) {js : List Nat} (hC : (pulls js C).map (·.1) = some C0)
    (k : H P N W S0 ops Q C0 fuel (listed.setIfInBounds i true) ((d, .v (.slice (elA a cap l.toNat sz) (n - l.toNat) (cap - l.toNat))) :: T) L C) : H P N W S0 ops Q C0 (fuel + 1) listed T L C := by
  refine HTAKE _ _ _ ho (by rintro _ ⟨⟩; exact hd) (.v (.slice (elA a cap l.toNat sz) (n - l.toNat) (cap - l.toNat))) (by intro j off he; cases he) hk hC ?_ k
  intro ac o bs w hev hop _ _
  obtain ⟨inf, hi, hsz⟩ := Option.map_eq_some_iff.1 hs
  have hel : P.elem t = e := by unfold Program.elem; rw [hu]
  have hu' : P.underlying t = some (.slice (P.elem t)) := by rw [hel]; exact hu
  have e1 : ac.eval x = .slice a n cap := hev x _ (evo_of_evv hx)
  have e2 : ac.eval lo = .int kl l := hev lo _ (evo_of_evv hl)
  simp only [execOp, hop, e1, e2, Option.map_some, Option.map_none, Sem.run_bind, run_sliceAt_slice w t _ _ _ _ hu', run_slice_l w t a n cap hu' kl l h0 h1, hel, run_sizeOf hi, Result.andThen_ok, Sem.run_pure, hsz, sliced, elA, den]
theorem HCUTHV {fuel : Nat} {listed : Array Bool} {i : Nat} (t : TypeId) (x hi : Operand) (d : Nat) (ty : TypeId) (ho : opAt ops T i = some (.slice t x none (some hi) none, some d, ty)) (hd : d < N) (a : Option Addr) (n cap : Nat) (kh : IntKind) (h : Int)
    (hx : evv T x = some (.slice a n cap)) (hl : evv T hi = some (.int kh h)) (e : TypeId) (sz : Nat) (hu : P.underlying t = some (.slice e)) (hs : (P.info? e).map (·.size) = some sz) (h0 : 0 ≤ h) (h1 : h ≤ cap)
    (hk : (Region.noSelect ops && Region.free .any ops listed i && (Region.ready .any ops listed).contains i) = true) {js : List Nat} (hC : (pulls js C).map (·.1) = some C0)
    (k : H P N W S0 ops Q C0 fuel (listed.setIfInBounds i true) ((d, .v (.slice a h.toNat cap)) :: T) L C) : H P N W S0 ops Q C0 (fuel + 1) listed T L C := by
  have hz : a.map (·.add (0 * sz)) = a := by
    cases a with
    | none => rfl
    | some ad => simp only [Option.map_some, Nat.zero_mul]; congr 1
  refine HTAKE _ _ _ ho (by rintro _ ⟨⟩; exact hd) (.v (.slice a h.toNat cap)) (by intro j off he; cases he) hk hC ?_ k
  intro ac o bs w hev hop _ _
  obtain ⟨inf, hi1, hsz⟩ := Option.map_eq_some_iff.1 hs
  have hel : P.elem t = e := by unfold Program.elem; rw [hu]
  have hu' : P.underlying t = some (.slice (P.elem t)) := by rw [hel]; exact hu
  have e1 : ac.eval x = .slice a n cap := hev x _ (evo_of_evv hx)
  have e2 : ac.eval hi = .int kh h := hev hi _ (evo_of_evv hl)
  simp only [execOp, hop, e1, e2, Option.map_some, Option.map_none, Sem.run_bind, run_sliceAt_slice w t _ _ _ _ hu', run_slice_h w t a n cap hu' kh h h0 h1, hel, run_sizeOf hi1, Result.andThen_ok, Sem.run_pure, hsz, sliced, hz, ite_self, Nat.sub_zero, den]
end hrules
end SX
end Go.Proofs.YtapbooddmdkgjaaGreat
/- Regions whose order is open: what stands until an operation has come up may be reckoned with by those that it waits for. It imports no program. -/
namespace Go.Proofs.YtapbooddmdkgjaaGreat
namespace SX
set_option linter.unusedVariables false
set_option linter.unusedSimpArgs false
open Go Go.RowKit
section
variable {P : Program} {ops : Array Oper} {Q : Exit → Go.Act → World → Prop} {md : Region.Mode} {S : Array Bool → World → Prop}
/-- whatever order is picked, and S (of what has come up) holds behind every operation -/
def wpAnyD (P : Program) (md : Region.Mode) (ops : Array Oper) (Q : Exit → Go.Act → World → Prop) (S : Array Bool → World → Prop) : Nat → Array Bool → Go.Act → World → Prop
  | 0, listed, a, w => Region.ready md ops listed = [] ∧ Q .normal a w
  | fuel + 1, listed, a, w =>
    (Region.ready md ops listed = [] → Q .normal a w) ∧
    ∀ i ∈ Region.ready md ops listed, wpOp P ops Q i (fun a' w' => S (listed.setIfInBounds i true) w' ∧ wpAnyD P md ops Q S fuel (listed.setIfInBounds i true) a' w') a w
theorem wpAny_of_D : ∀ (fuel : Nat) (listed : Array Bool) (a : Go.Act) (w : World), wpAnyD P md ops Q S fuel listed a w → wpAny P md ops Q fuel listed a w
  | 0, _, _, _, h => h
  | fuel + 1, _, _, _, h => ⟨h.1, fun i hi => wpOp_mono (fun a' w' h' => wpAny_of_D fuel _ a' w' h'.2) (h.2 i hi)⟩
theorem wpAnyD_of_H {S' : World → Prop} (hS : ∀ l w, S' w → S l w) : ∀ (fuel : Nat) (listed : Array Bool) (a : Go.Act) (w : World), wpAnyH P md ops Q S' fuel listed a w → wpAnyD P md ops Q S fuel listed a w
  | 0, _, _, _, h => h
  | fuel + 1, _, _, _, h => ⟨h.1, fun i hi => wpOp_mono (fun a' w' h' => ⟨hS _ _ h'.1, wpAnyD_of_H hS fuel _ a' w' h'.2⟩) (h.2 i hi)⟩
theorem wpAnyH_of_D {S' : World → Prop} (hS : ∀ l w, S l w → S' w) : ∀ (fuel : Nat) (listed : Array Bool) (a : Go.Act) (w : World), wpAnyD P md ops Q S fuel listed a w → wpAnyH P md ops Q S' fuel listed a w
  | 0, _, _, _, h => h
  | fuel + 1, _, _, _, h => ⟨h.1, fun i hi => wpOp_mono (fun a' w' h' => ⟨hS _ _ h'.1, wpAnyH_of_D hS fuel _ a' w' h'.2⟩) (h.2 i hi)⟩
/-- what has come up is closed under what it waits for, and i has not come up -/
def Bfr (md : Region.Mode) (ops : Array Oper) (i : Nat) (l : Array Bool) : Prop :=
  l.getD i true = false ∧ ∀ (j : Nat) (o : Oper), ops[j]? = some o → l.getD j false = true → ∀ e ∈ o.after, Region.binds md e = true → l.getD e.on false = true
theorem getD_set {l : Array Bool} {j k : Nat} {d : Bool} (h : (l.setIfInBounds j true).getD k d = true) : l.getD k d = true ∨ j = k := by
  by_cases hjk : j = k
  · exact .inr hjk
  · rw [getD_set_ne d hjk] at h; exact .inl h
theorem set_getD {l : Array Bool} {j k : Nat} (h : l.getD k false = true) : (l.setIfInBounds j true).getD k false = true := by
  by_cases hjk : j = k
  · subst hjk
    rcases Nat.lt_or_ge j l.size with h' | h'
    · simp [h']
    · simp [h'] at h
  · rw [getD_set_ne false hjk]; exact h
theorem Bfr.step {i j : Nat} {l : Array Bool} (h : Bfr md ops i l) (hj : j ∈ Region.ready md ops l) (hji : j ≠ i) : Bfr md ops i (l.setIfInBounds j true) := by
  refine ⟨by rw [getD_set_ne true hji]; exact h.1, fun k o hk hl e he hb => ?_⟩
  obtain ⟨h1, o', ho', hall⟩ := mem_ready.1 hj
  rcases getD_set hl with h2 | h2
  · exact set_getD (h.2 k o hk h2 e he hb)
  · subst h2
    rw [ho'] at hk; injection hk with hk; subst hk
    exact set_getD (hall e he hb)
/-- k waits for i -/
def waitsB (md : Region.Mode) (ops : Array Oper) (i : Nat) : Nat → Nat → Bool
  | 0, k => Nat.beq k i
  | n + 1, k => Nat.beq k i || match ops[k]? with
    | some o => o.after.any fun e => Region.binds md e && waitsB md ops i n e.on
    | none => false
theorem Bfr.waits {i : Nat} {l : Array Bool} (h : Bfr md ops i l) : ∀ (n k : Nat), waitsB md ops i n k = true → l.getD k false = false
  | 0, k, hk => by
    have : k = i := Nat.eq_of_beq_eq_true hk
    subst this
    have h1 := h.1
    rcases Nat.lt_or_ge k l.size with h' | h'
    · simp [h'] at h1 ⊢; exact h1
    · simp [h']
  | n + 1, k, hk => by
    simp only [waitsB, Bool.or_eq_true] at hk
    rcases hk with hk | hk
    · exact Bfr.waits h 0 k hk
    · split at hk
      · rename_i o ho
        obtain ⟨m, hm, he⟩ := Array.any_eq_true.1 hk
        simp only [Bool.and_eq_true] at he
        have ih := Bfr.waits h n _ he.2
        cases hq : l.getD k false with
        | false => rfl
        | true =>
          have := h.2 k o ho hq _ (Array.getElem_mem hm) he.1
          rw [ih] at this; cases this
      · cases hk
theorem wpAnyD_first {i : Nat} {oi : Oper} {v : Value} (hi : ops[i]? = some oi) (hsel : ∀ (j : Nat) (o : Oper) cs b, ops[j]? = some o → o.op ≠ .select cs b)
    (hQ : ∀ c a w, Q (.panic c) (a.put oi.dst v) w → Q (.panic c) a w) {S0 : World → Prop} (hSi : ∀ l w, S (l.setIfInBounds i true) w ↔ S l w) (hS0 : ∀ l w, Bfr md ops i l → S l w → S0 w) :
    ∀ (fuel : Nat) (listed : Array Bool) (a : Go.Act) (w : World),
      (∀ j oj, ops[j]? = some oj → j ≠ i → listed.getD j true = false → (∀ e ∈ oj.after, Region.binds md e = true → e.on ≠ i) → oi.apart ops oj = true) →
      i ∈ Region.ready md ops listed → Bfr md ops i listed → YieldsIf P ops S0 oi v a → S listed w →
      wpAnyD P md ops Q S fuel (listed.setIfInBounds i true) (a.put oi.dst v) w → wpAnyD P md ops Q S (fuel + 1) listed a w := by
  intro fuel
  induction fuel with
  | zero =>
    intro listed a w _ hr hB hy hS H
    refine ⟨fun h => (by rw [h] at hr; cases hr), fun j hj => ?_⟩
    by_cases hji : j = i
    · subst hji; exact hy.wpOp hi (hS0 _ _ hB hS) ⟨(hSi _ _).2 hS, H⟩
    · have := ready_mono hj hji
      rw [H.1] at this
      cases this
  | succ fuel ih =>
    intro listed a w hfree hr hB hy hS H
    refine ⟨fun h => (by rw [h] at hr; cases hr), fun j hj => ?_⟩
    by_cases hji : j = i
    · subst hji; exact hy.wpOp hi (hS0 _ _ hB hS) ⟨(hSi _ _).2 hS, H⟩
    · have h1 := H.2 j (ready_mono hj hji)
      obtain ⟨hjun, oj, hoj, hall⟩ := mem_ready.1 hj
      have hnot : ∀ e ∈ oj.after, Region.binds md e = true → e.on ≠ i := fun e he hb heq => by
        have h1 := hall e he hb
        have h0 := (mem_ready.1 hr).1
        rw [heq] at h1
        rcases Nat.lt_or_ge i listed.size with h' | h'
        · simp [h'] at h0 h1; rw [h0] at h1; cases h1
        · simp [Array.getElem?_eq_none h'] at h1
      have h2 := wpOp_putIf hoj (hfree j oj hoj hji hjun hnot) (fun cs b => hsel i oi cs b hi) (fun cs b => hsel j oj cs b hoj) hQ hy h1
      have hfree' : ∀ k ok, ops[k]? = some ok → k ≠ i → (listed.setIfInBounds j true).getD k true = false →
          (∀ e ∈ ok.after, Region.binds md e = true → e.on ≠ i) → oi.apart ops ok = true := fun k ok hk hki hun hno => by
        refine hfree k ok hk hki ?_ hno
        by_cases hjk : j = k
        · subst hjk; exact hjun
        · rw [getD_set_ne true hjk] at hun; exact hun
      refine wpOp_mono (fun a' w' h3 => ?_) h2
      have hS' : S (listed.setIfInBounds j true) w' := (hSi _ _).1 (by rw [Array.setIfInBounds_comm _ _ (Ne.symm hji |> Ne.symm)]; exact h3.2.1)
      refine ⟨hS', ih (listed.setIfInBounds j true) a' w' hfree' (ready_mono hr (Ne.symm hji)) (hB.step hj hji) h3.1 hS' ?_⟩
      rw [Array.setIfInBounds_comm _ _ hji]
      exact h3.2.2
theorem wpAnyD_all {rs : List Nat} {fuel : Nat} {listed : Array Bool} {a : Go.Act} {w : World} (hr : Region.ready md ops listed = rs) (hne : rs ≠ [])
    (h : ∀ i ∈ rs, wpOp P ops Q i (fun a' w' => S (listed.setIfInBounds i true) w' ∧ wpAnyD P md ops Q S fuel (listed.setIfInBounds i true) a' w') a w) : wpAnyD P md ops Q S (fuel + 1) listed a w :=
  ⟨fun h0 => absurd (hr ▸ h0) hne, hr ▸ h⟩
theorem wpAnyD_done {listed : Array Bool} {a : Go.Act} {w : World} (hr : Region.ready md ops listed = []) (h : Q .normal a w) : ∀ fuel, wpAnyD P md ops Q S fuel listed a w
  | 0 => ⟨hr, h⟩
  | _ + 1 => ⟨fun _ => h, by rw [hr]; simp⟩
end
/-- keys: what stands until an operation has come up -/
abbrev Keys := List (Nat × Ass)
def act (l : Array Bool) : Keys → List Ass
  | [] => []
  | (k, A) :: Ks => match l.getD k false with
    | true => act l Ks
    | false => A :: act l Ks
/-- the same, by the list of what has come up -/
def memK : List Nat → Nat → Bool
  | [], _ => false
  | k :: r, i => match Nat.beq k i with
    | true => true
    | false => memK r i
def actL (Ls : List Nat) : Keys → List Ass
  | [] => []
  | (k, A) :: Ks => match memK Ls k with
    | true => actL Ls Ks
    | false => A :: actL Ls Ks
def keysOff (Ls : List Nat) (la : Array Bool) : Keys → Bool
  | [] => true
  | (k, _) :: Ks => (la.getD k false == memK Ls k) && keysOff Ls la Ks
theorem act_eq {Ls : List Nat} {la : Array Bool} : ∀ {Ks : Keys}, keysOff Ls la Ks = true → act la Ks = actL Ls Ks
  | [], _ => rfl
  | (k, A) :: Ks, h => by
    simp only [keysOff, Bool.and_eq_true, beq_iff_eq] at h
    have ih := act_eq h.2
    simp only [act, actL, h.1, ih]
theorem act_set {i : Nat} {l : Array Bool} : ∀ {Ks : Keys}, (∀ p ∈ Ks, p.1 ≠ i) → act (l.setIfInBounds i true) Ks = act l Ks
  | [], _ => rfl
  | (k, A) :: Ks, h => by
    have ih := act_set (l := l) fun p hp => h p (List.mem_cons_of_mem _ hp)
    have hk : i ≠ k := fun e => h (k, A) (by simp) e.symm
    simp only [act, ih, getD_set_ne false hk]
theorem act_mem {l : Array Bool} {k : Nat} {A : Ass} : ∀ {Ks : Keys}, (k, A) ∈ Ks → l.getD k false = false → A ∈ act l Ks
  | (k', A') :: Ks, h, hl => by
    rcases List.mem_cons.1 h with h | h
    · injection h with h1 h2; subst h1 h2
      simp [act, hl]
    · have ih := act_mem (l := l) h hl
      simp only [act]
      split
      · exact ih
      · exact List.mem_cons_of_mem _ ih
theorem At.sub1 {W w : World} {S0 : List Nat} {C D : List Ass} (h : At W S0 (C ++ D) w) : At W S0 C w := by
  obtain ⟨hf, fps, hh, hn, hnew⟩ := h
  obtain ⟨f, g, rfl, h1, h2⟩ := holds.split hh
  rw [List.flatten_append] at hn hnew
  exact ⟨hf, f, h1, (List.nodup_append.1 hn).1, fun b hb => hnew b (List.mem_append.2 (.inl hb))⟩
section rules
variable {P : Program} {N : Nat} {W : World} {S0 : List Nat} {Q : Exit → Go.Act → World → Prop} {T : Tm} {L : Bx} {C : List Ass} {ops : Array Oper} {C0 : List Ass} {Ks : Keys}
def HD (P : Program) (N : Nat) (W : World) (S0 : List Nat) (ops : Array Oper) (Q : Exit → Go.Act → World → Prop) (C0 : List Ass) (Ks : Keys) (fuel : Nat) (listed : Array Bool) (T : Tm) (L : Bx) (C : List Ass) : Prop :=
  G N W S0 (fun a w => wpAnyD P .any ops (nQ Q) (fun l w => At W S0 (C0 ++ act l Ks) w) fuel listed a w) T L C
theorem HD_of_H {fuel : Nat} {listed : Array Bool} (k : H P N W S0 ops Q C0 fuel listed T L C) : HD P N W S0 ops Q C0 [] fuel listed T L C := fun a w h =>
  wpAnyD_of_H (fun l w h => by simpa [act] using h) _ _ _ _ (k a w h)
theorem H_of_HD {fuel : Nat} {listed : Array Bool} (k : HD P N W S0 ops Q C0 [] fuel listed T L C) : H P N W S0 ops Q C0 fuel listed T L C := fun a w h =>
  wpAnyH_of_D (fun l w h => by simpa [act] using h) _ _ _ _ (k a w h)
def closedB (ops : Array Oper) (l : Array Bool) : Bool :=
  (List.range ops.size).all fun j => !(l.getD j false) || match ops[j]? with
    | some o => o.after.all fun e => !(Region.binds .any e) || l.getD e.on false
    | none => true
theorem Bfr_of {i : Nat} {l : Array Bool} (hr : i ∈ Region.ready .any ops l) (hc : closedB ops l = true) : Bfr .any ops i l := by
  refine ⟨(mem_ready.1 hr).1, fun j o ho hl e he hb => ?_⟩
  have hj : j < ops.size := by
    rcases Nat.lt_or_ge j ops.size with h | h
    · exact h
    · rw [Array.getElem?_eq_none h] at ho; cases ho
  have h1 := List.all_eq_true.1 hc j (List.mem_range.2 hj)
  rw [hl, ho] at h1
  simp only [Bool.not_true, Bool.false_or] at h1
  have h2 := Array.all_eq_true'.1 h1 e he
  simpa [hb] using h2
/-- the test of a take: it may come up, is free, what has come up is closed -/
def takeB (ops : Array Oper) (listed : Array Bool) (Ks : Keys) (i : Nat) : Bool :=
  Region.noSelect ops && Region.free .any ops listed i && (Region.ready .any ops listed).contains i && closedB ops listed && Ks.all (fun p => !(Nat.beq p.1 i))
/-- what a take may reckon with: what is frozen, and one key that waits for it -/
def KeyOk (ops : Array Oper) (Ks : Keys) (i : Nat) (kA : Option (Nat × Ass)) : Prop :=
  match kA with
  | none => True
  | some (k, A) => (k, A) ∈ Ks ∧ waitsB .any ops i ops.size k = true
def kAss (C0 : List Ass) : Option (Nat × Ass) → World → World → List Nat → Prop
  | none, W, w, S0 => At W S0 C0 w
  | some (_, A), W, w, S0 => At W S0 C0 w ∧ ∃ fp, A.φ w fp
theorem HDTAKE {fuel : Nat} {listed : Array Bool} {i : Nat} (kA : Option (Nat × Ass)) (hkA : KeyOk ops Ks i kA) (op : Op) (d : Option Nat) (ty : TypeId) (ho : opAt ops T i = some (op, d, ty)) (hd : ∀ k, d = some k → k < N) (s : SV) (hs : ∀ j off, s = .p j off → j < L.length)
    (hk : takeB ops listed Ks i = true) {js : List Nat} (hC : (pulls js C).map (·.1) = some (C0 ++ act listed Ks))
    (hrun : ∀ (a : Go.Act) (o : Oper) (bs : List Nat) (w : World), (∀ x s, evo T x = some s → a.eval x = den bs s) → o.op = op → o.type = ty → kAss C0 kA W w S0 → (execOp a.eval o).run P w = .ok (.value (den bs s)) w)
    (k : HD P N W S0 ops Q C0 Ks fuel (listed.setIfInBounds i true) (putd d s T) L C) : HD P N W S0 ops Q C0 Ks (fuel + 1) listed T L C := by
  rintro a w ⟨bs, fps, ht, hb, hm⟩
  obtain ⟨o, hi, hw, hop, hdst, hty⟩ := opAt_ok ho ht
  simp only [takeB, Bool.and_eq_true] at hk
  subst hdst
  have hr : i ∈ Region.ready .any ops listed := by simpa using hk.1.1.2
  have hne : ∀ p ∈ Ks, p.1 ≠ i := fun p hp he => by
    have := List.all_eq_true.1 hk.2 p hp
    simp [he] at this
  refine wpAnyD_first (v := den bs s) (S0 := fun w => kAss C0 kA W w S0) hi (Region.noSelect_spec hk.1.1.1.1) (fun c a w h => h.elim) (fun l w => by rw [act_set hne]) (fun l w hB hS => ?_) fuel listed _ _ (Region.free_spec hi hk.1.1.1.2) hr (Bfr_of hr hk.1.2)
    (.inl ⟨hw, fun w' hw' => hrun a o bs w' (fun x s hx => ht.evo hx) hop hty hw'⟩) (at_take hm.at_ hC) ?_
  · cases kA with
    | none => exact hS.sub1
    | some p =>
      refine ⟨hS.sub1, ?_⟩
      have h1 := act_mem (l := l) hkA.1 (hB.waits _ _ hkA.2)
      obtain ⟨m, hm⟩ := List.getElem?_of_mem (List.mem_append.2 (.inr h1) : p.2 ∈ C0 ++ act l Ks)
      exact hS.own m hm
  · exact k _ _ ⟨bs, fps, ht.put (put_putd hd) rfl, hb.put hs (put_putd hd), hm⟩
theorem HDSKIP {fuel : Nat} {listed : Array Bool} {i : Nat} (T' : Tm) (ho : (match ops[i]? with | some o => if wants ops T o = some false then put N T o.dst (.v undef) else none | none => none) = some T')
    (hk : takeB ops listed Ks i = true) {js : List Nat} (hC : (pulls js C).map (·.1) = some (C0 ++ act listed Ks))
    (k : HD P N W S0 ops Q C0 Ks fuel (listed.setIfInBounds i true) T' L C) : HD P N W S0 ops Q C0 Ks (fuel + 1) listed T L C := by
  rintro a w ⟨bs, fps, ht, hb, hm⟩
  split at ho
  · rename_i o hi
    split at ho
    · rename_i hw
      simp only [takeB, Bool.and_eq_true] at hk
      have hr : i ∈ Region.ready .any ops listed := by simpa using hk.1.1.2
      have hne : ∀ p ∈ Ks, p.1 ≠ i := fun p hp he => by
        have := List.all_eq_true.1 hk.2 p hp
        simp [he] at this
      refine wpAnyD_first (v := undef) (S0 := fun w => True) hi (Region.noSelect_spec hk.1.1.1.1) (fun c a w h => h.elim) (fun l w => by rw [act_set hne]) (fun l w hB hS => trivial) fuel listed _ _ (Region.free_spec hi hk.1.1.1.2) hr (Bfr_of hr hk.1.2)
        (.inr ⟨wants_ok hw ht, rfl⟩) (at_take hm.at_ hC) ?_
      exact k _ _ ⟨bs, fps, ht.put ho rfl, hb.put (by intro i o' he; cases he) ho, hm⟩
    · cases ho
  · cases ho
theorem HDPURE {fuel : Nat} {listed : Array Bool} {i : Nat} {o : Oper} {T' : Tm} {L1 : Bx} (hi : ops[i]? = some o) (hw : wants ops T o = some true) (hq : stillOp o.op = true) (h1 : go1 P N T L o = some (T', L1))
    (hk : takeB ops listed Ks i = true) {js : List Nat} (hC : (pulls js C).map (·.1) = some (C0 ++ act listed Ks))
    (k : HD P N W S0 ops Q C0 Ks fuel (listed.setIfInBounds i true) T' L C) : HD P N W S0 ops Q C0 Ks (fuel + 1) listed T L C := by
  rintro a w ⟨bs, fps, ht, hb, hm⟩
  obtain ⟨v, hr9, ht', hb'⟩ := go1h hq h1 ht hb
  simp only [takeB, Bool.and_eq_true] at hk
  have hr : i ∈ Region.ready .any ops listed := by simpa using hk.1.1.2
  have hne : ∀ p ∈ Ks, p.1 ≠ i := fun p hp he => by
    have := List.all_eq_true.1 hk.2 p hp
    simp [he] at this
  refine wpAnyD_first (v := v) (S0 := fun w => True) hi (Region.noSelect_spec hk.1.1.1.1) (fun c a w h => h.elim) (fun l w => by rw [act_set hne]) (fun l w hB hS => trivial) fuel listed _ _ (Region.free_spec hi hk.1.1.1.2) hr (Bfr_of hr hk.1.2)
    (.inl ⟨wants_ok hw ht, fun w' _ => hr9 w'⟩) (at_take hm.at_ hC) ?_
  exact k _ _ ⟨bs, fps, ht', hb', hm⟩
theorem HDINDEX {fuel : Nat} {listed : Array Bool} {i : Nat} (t : TypeId) (x ix : Operand) (d : Nat) (ty : TypeId) (ho : opAt ops T i = some (.indexAddr t x ix, some d, ty)) (hd : d < N) (a : Option Addr) (n cap : Nat) (kd : IntKind) (z : Int) (e : TypeId) (sz : Nat)
    (hx : evv T x = some (.slice a n cap)) (hix : evv T ix = some (.int kd z)) (hu : P.underlying t = some (.slice e)) (hsz : (P.info? e).map (·.size) = some sz) (ha : a.isSome = true) (h0 : 0 ≤ z) (hn : z < n)
    (hk : takeB ops listed Ks i = true) {js : List Nat} (hC : (pulls js C).map (·.1) = some (C0 ++ act listed Ks))
    (k : HD P N W S0 ops Q C0 Ks fuel (listed.setIfInBounds i true) ((d, .e a (z.toNat * sz) 0) :: T) L C) : HD P N W S0 ops Q C0 Ks (fuel + 1) listed T L C := by
  refine HDTAKE none trivial _ _ _ ho (by rintro _ ⟨⟩; exact hd) (.e a (z.toNat * sz) 0) (by intro j off he; cases he) hk hC ?_ k
  intro ac o bs w hev hop _ _
  obtain ⟨ad, rfl⟩ := Option.isSome_iff_exists.1 ha
  obtain ⟨inf, hi, hs⟩ := Option.map_eq_some_iff.1 hsz
  have h1 : ac.eval x = .slice (some ad) n cap := hev x _ (evo_of_evv hx)
  have h2 : ac.eval ix = .int kd z := hev ix _ (evo_of_evv hix)
  simp only [execOp, hop, h1, h2, Instr.indexAt, asIntOf, Sem.run_bind, Sem.run_pure, Result.andThen_ok, run_underlying hu]
  rw [if_pos ⟨h0, hn⟩]
  simp [Sem.run_bind, run_sizeOf hi, Sem.run_pure, hs, den, addrOf]
theorem HDLOADK {fuel : Nat} {listed : Array Bool} {i : Nat} (kA : Option (Nat × Ass)) (hkA : KeyOk ops Ks i kA) (t : TypeId) (x : Operand) (d : Nat) (ty : TypeId) (ho : opAt ops T i = some (.load t x, some d, ty)) (hd : d < N) (a : Option Addr) (c off : Nat) (cs : List Value) (v : Value)
    (hx : evo T x = some (.e a c off)) (he : ∀ w, kAss C0 kA W w S0 → ElemAt w a c cs) (hv : loadOf P t cs off = some v)
    (hk : takeB ops listed Ks i = true) {js : List Nat} (hC : (pulls js C).map (·.1) = some (C0 ++ act listed Ks))
    (k : HD P N W S0 ops Q C0 Ks fuel (listed.setIfInBounds i true) ((d, .v v) :: T) L C) : HD P N W S0 ops Q C0 Ks (fuel + 1) listed T L C := by
  refine HDTAKE kA hkA _ _ _ ho (by rintro _ ⟨⟩; exact hd) (.v v) (by intro j off he; cases he) hk hC ?_ k
  intro ac o bs w hev hop _ hat
  have h1 : ac.eval x = .pointer (some ((addrOf a).add (c + off))) := hev x _ hx
  simp only [execOp, hop, h1, Instr.loadAt, Instr.sureAddr, Sem.run_bind, Sem.run_pure, Result.andThen_ok, (he w hat).load hv, den]
theorem HDLOADE {fuel : Nat} {listed : Array Bool} {i : Nat} (t : TypeId) (x : Operand) (d : Nat) (ty : TypeId) (ho : opAt ops T i = some (.load t x, some d, ty)) (hd : d < N) (a : Option Addr) (c off : Nat) (cs : List Value) (v : Value)
    (hx : evo T x = some (.e a c off)) (he : ∀ w, At W S0 C0 w → ElemAt w a c cs) (hv : loadOf P t cs off = some v)
    (hk : takeB ops listed Ks i = true) {js : List Nat} (hC : (pulls js C).map (·.1) = some (C0 ++ act listed Ks))
    (k : HD P N W S0 ops Q C0 Ks fuel (listed.setIfInBounds i true) ((d, .v v) :: T) L C) : HD P N W S0 ops Q C0 Ks (fuel + 1) listed T L C := HDLOADK none trivial t x d ty ho hd a c off cs v hx he hv hk hC k
theorem HDRUNV {fuel : Nat} {listed : Array Bool} {i : Nat} (op : Op) (d : Nat) (ty : TypeId) (ho : opAt ops T i = some (op, some d, ty)) (hd : d < N) (v : Value) (hrun : Runs P W S0 T C0 op ty v)
    (hk : takeB ops listed Ks i = true) {js : List Nat} (hC : (pulls js C).map (·.1) = some (C0 ++ act listed Ks))
    (k : HD P N W S0 ops Q C0 Ks fuel (listed.setIfInBounds i true) ((d, .v v) :: T) L C) : HD P N W S0 ops Q C0 Ks (fuel + 1) listed T L C :=
  HDTAKE none trivial op (some d) ty ho (by rintro _ ⟨⟩; exact hd) (.v v) (by intro j off he; cases he) hk hC hrun k
/-- what comes behind an operation that is carried out -/
def HND (P : Program) (W : World) (S0 : List Nat) (ops : Array Oper) (Q : Exit → Go.Act → World → Prop) (C0 : List Ass) (Ks : Keys) (fuel : Nat) (listed : Array Bool) : Go.Act → World → Prop :=
  fun a w => At W S0 (C0 ++ act listed Ks) w ∧ wpAnyD P .any ops (nQ Q) (fun l w => At W S0 (C0 ++ act l Ks) w) fuel listed a w
theorem HDALL {fuel : Nat} {listed : Array Bool} (rs : List Nat) (hr : Region.ready .any ops listed = rs) (hne : rs ≠ [])
    (k : AllOf (fun i => OP P N W S0 ops (nQ Q) i (HND P W S0 ops Q C0 Ks fuel (listed.setIfInBounds i true)) T L C) rs) : HD P N W S0 ops Q C0 Ks (fuel + 1) listed T L C := fun a w h =>
  wpAnyD_all hr hne fun i hi => k.mem i hi a w h
theorem HDKEEP {fuel : Nat} {listed : Array Bool} {js : List Nat} (hC : (pulls js C).map (·.1) = some (C0 ++ act listed Ks)) (k : HD P N W S0 ops Q C0 Ks fuel listed T L C) : G N W S0 (HND P W S0 ops Q C0 Ks fuel listed) T L C := by
  intro a w h
  obtain ⟨bs, fps, ht, hb, hm⟩ := id h
  exact ⟨at_take hm.at_ hC, k a w h⟩
theorem HDEND {fuel : Nat} {listed : Array Bool} (hr : Region.ready .any ops listed = []) (k : DONE N W S0 Q .normal T L C) : HD P N W S0 ops Q C0 Ks fuel listed T L C := fun a w h =>
  wpAnyD_done (Q := nQ Q) hr (show nQ Q .normal a w from k a w h) fuel
theorem HDCUTL {fuel : Nat} {listed : Array Bool} {i : Nat} (t : TypeId) (x lo : Operand) (d : Nat) (ty : TypeId) (ho : opAt ops T i = some (.slice t x (some lo) none none, some d, ty)) (hd : d < N) (a : Option Addr) (n cap : Nat) (kl : IntKind) (l : Int)
    (hx : evv T x = some (.slice a n cap)) (hl : evv T lo = some (.int kl l)) (e : TypeId) {α : Type} (La : Lay α) (xs : List α) (hu : P.underlying t = some (.slice e)) (hs : (P.info? e).map (·.size) = some La.sz) (h0 : 0 ≤ l) (h1 : l ≤ n) (hn : n = xs.length) (hcap : n ≤ cap)
    (hk : takeB ops listed Ks i = true) {js : List Nat} (hC : (pulls js C).map (·.1) = some (C0 ++ act listed Ks))
    (k : ∀ a' : Option Addr, (∀ w, Rd La w a xs → Rd La w a' (xs.drop l.toNat)) → HD P N W S0 ops Q C0 Ks fuel (listed.setIfInBounds i true) ((d, .v (.slice a' (n - l.toNat) (cap - l.toNat))) :: T) L C) : HD P N W S0 ops Q C0 Ks (fuel + 1) listed T L C := by
  refine HDTAKE none trivial _ _ _ ho (by rintro _ ⟨⟩; exact hd) (.v (.slice (if cap = l.toNat then a else a.map (·.add (l.toNat * La.sz))) (n - l.toNat) (cap - l.toNat))) (by intro j off he; cases he) hk hC ?_ (k _ fun w h => h.drop (by omega) _ (by omega))
  intro ac o bs w hev hop _ _
  obtain ⟨inf, hi, hsz⟩ := Option.map_eq_some_iff.1 hs
  have hel : P.elem t = e := by unfold Program.elem; rw [hu]
  have hu' : P.underlying t = some (.slice (P.elem t)) := by rw [hel]; exact hu
  have e1 : ac.eval x = .slice a n cap := hev x _ (evo_of_evv hx)
  have e2 : ac.eval lo = .int kl l := hev lo _ (evo_of_evv hl)
  simp only [execOp, hop, e1, e2, Option.map_some, Option.map_none, Sem.run_bind, run_sliceAt_slice w t _ _ _ _ hu', run_slice_l w t a n cap hu' kl l h0 h1, hel, run_sizeOf hi, Result.andThen_ok, Sem.run_pure, hsz, sliced, den]
theorem HDCUTH {fuel : Nat} {listed : Array Bool} {i : Nat} (t : TypeId) (x hi : Operand) (d : Nat) (ty : TypeId) (ho : opAt ops T i = some (.slice t x none (some hi) none, some d, ty)) (hd : d < N) (a : Option Addr) (n cap : Nat) (kl : IntKind) (l : Int)
    (hx : evv T x = some (.slice a n cap)) (hl : evv T hi = some (.int kl l)) (e : TypeId) {α : Type} (La : Lay α) (xs : List α) (hu : P.underlying t = some (.slice e)) (hs : (P.info? e).map (·.size) = some La.sz) (h0 : 0 ≤ l) (h1 : l ≤ n) (hn : n = xs.length) (hcap : n ≤ cap)
    (hk : takeB ops listed Ks i = true) {js : List Nat} (hC : (pulls js C).map (·.1) = some (C0 ++ act listed Ks))
    (k : ∀ a' : Option Addr, (∀ w, Rd La w a xs → Rd La w a' (xs.take l.toNat)) → HD P N W S0 ops Q C0 Ks fuel (listed.setIfInBounds i true) ((d, .v (.slice a' l.toNat cap)) :: T) L C) : HD P N W S0 ops Q C0 Ks (fuel + 1) listed T L C := by
  have hz : a.map (·.add (0 * La.sz)) = a := by
    cases a with
    | none => rfl
    | some ad => simp only [Option.map_some, Nat.zero_mul]; congr 1
  refine HDTAKE none trivial _ _ _ ho (by rintro _ ⟨⟩; exact hd) (.v (.slice a l.toNat cap)) (by intro j off he; cases he) hk hC ?_ (k _ fun w h => h.take _)
  intro ac o bs w hev hop _ _
  obtain ⟨inf, hi, hsz⟩ := Option.map_eq_some_iff.1 hs
  have hel : P.elem t = e := by unfold Program.elem; rw [hu]
  have hu' : P.underlying t = some (.slice (P.elem t)) := by rw [hel]; exact hu
  have e1 : ac.eval x = .slice a n cap := hev x _ (evo_of_evv hx)
  have e2 := hev _ _ (evo_of_evv hl)
  simp only [den] at e2
  simp only [execOp, hop, e1, e2, Option.map_some, Option.map_none, Sem.run_bind, run_sliceAt_slice w t _ _ _ _ hu', run_slice_h w t a n cap hu' kl l h0 (by omega), hel, run_sizeOf hi, Result.andThen_ok, Sem.run_pure, hsz, sliced, hz, ite_self, Nat.sub_zero, den]
/-- what is frozen, and the keys that are active, stand first -/
def KP (F : List Ass) (Ks : Keys) (Ls : List Nat) (la : Array Bool) (C : List Ass) : Prop := (∃ R, C = (F ++ actL Ls Ks) ++ R) ∧ keysOff Ls la Ks = true
theorem KP.mk {F : List Ass} {Ls : List Nat} {la : Array Bool} {C R : List Ass} (h : C = (F ++ actL Ls Ks) ++ R := by rfl) (hk : keysOff Ls la Ks = true := by kernel_rfl) : KP F Ks Ls la C := ⟨⟨R, h⟩, hk⟩
theorem KP.app {F : List Ass} {Ls : List Nat} {la : Array Bool} {C D : List Ass} (h : KP F Ks Ls la C) : KP F Ks Ls la (C ++ D) := by
  obtain ⟨⟨R, rfl⟩, h2⟩ := h
  exact ⟨⟨R ++ D, by rw [List.append_assoc]⟩, h2⟩
theorem keep_zeros' (C R : List Ass) : ∃ js, (pulls js (C ++ R)).map (·.1) = some C := by
  have : ∀ C : List Ass, ∃ js, pulls js (C ++ R) = some (C, R) := by
    intro C
    induction C with
    | nil => exact ⟨[], rfl⟩
    | cons A C ih =>
      obtain ⟨js, h⟩ := ih
      exact ⟨0 :: js, by simp [pulls, pull, h]⟩
  obtain ⟨js, h⟩ := this C
  exact ⟨js, by rw [h]; rfl⟩
theorem KP.pulls {F : List Ass} {Ls : List Nat} {la : Array Bool} {C : List Ass} (h : KP F Ks Ls la C) : ∃ js, (SX.pulls js C).map (·.1) = some (F ++ act la Ks) := by
  obtain ⟨⟨R, rfl⟩, h2⟩ := h
  rw [act_eq h2]
  exact keep_zeros' _ _
end rules
end SX
end Go.Proofs.YtapbooddmdkgjaaGreat
