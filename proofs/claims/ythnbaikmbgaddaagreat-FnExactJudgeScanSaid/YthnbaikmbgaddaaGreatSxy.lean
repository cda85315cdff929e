/- Rows whose memory bears no mark; the library's test whether two rows overlap; zeros put behind a row; capacities. It imports no program. -/
import Derived.Test.YthnbaikmbgaddaaGreatSxw
import Derived.Test.YthnbaikmbgaddaaGreatSxc
import Derived.Lib.AppendZerosOnto
import Derived.Lib.Overlaps
namespace Go.Proofs.YthnbaikmbgaddaaGreat
namespace SX
set_option linter.unusedVariables false
set_option linter.unusedSimpArgs false
open Go Go.RowKit
/-- a slice that is owned, and whose block bears no mark -/
def slP {α : Type} (e : TypeId) (L : Lay α) (v : Value) (xs : List α) : Ass :=
  ⟨fun w f => SlO e L w v xs f ∧ ∀ g, v.ownBlock = some g → ∃ cur, w.heap[g]? = some (.cells cur e (0, 0)),
    fun w w' f h hb => by
      refine ⟨h.1.st hb, fun g hg => ?_⟩
      obtain ⟨cur, hc⟩ := h.2 g hg
      obtain ⟨cells, g', h1, h2, h3, h4⟩ := h.1
      exact ⟨cur, (hb g (by rw [h2, hg]; simp)).trans hc⟩,
    fun w f h => h.1.lt⟩
/-- what a row comes to where one element is put in: the two ways -/
theorem ins_grow {α : Type} {s v : List α} {i q : Nat} {z : α} (hv : v.length = 1) (hi : i ≤ s.length) (hq : q = s.length + 1 - i) :
    ((s.take i ++ List.replicate q z).take i ++ v ++ (s.take i ++ List.replicate q z).drop (i + v.length)).take (i + 1) ++ s.drop i ++ ((s.take i ++ List.replicate q z).take i ++ v ++ (s.take i ++ List.replicate q z).drop (i + v.length)).drop (i + 1 + (s.drop i).length) = s.take i ++ v ++ s.drop i := by
  have h1 : (s.take i).length = i := by rw [List.length_take]; omega
  have h2 : (s.take i ++ List.replicate q z).take i = s.take i := by rw [List.take_append_of_le_length (by omega), List.take_take, Nat.min_self]
  have h3 : (s.take i ++ v).length = i + 1 := by rw [List.length_append]; omega
  have h4 : (s.take i ++ v ++ (s.take i ++ List.replicate q z).drop (i + v.length)).length = s.length + 1 := by
    simp only [List.length_append, List.length_drop, List.length_replicate]; omega
  have h5 : (s.take i ++ v ++ (s.take i ++ List.replicate q z).drop (i + v.length)).drop (i + 1 + (s.drop i).length) = [] := List.drop_of_length_le (by rw [h4, List.length_drop]; omega)
  have h6 : (s.take i ++ v ++ (s.take i ++ List.replicate q z).drop (i + v.length)).take (i + 1) = s.take i ++ v := by rw [List.take_append_of_le_length (by omega), List.take_of_length_le (by omega)]
  rw [h2, h5, h6, List.append_nil]
theorem ins_shift {α : Type} {s v : List α} {i : Nat} (hv : v.length = 1) (hi : i < s.length) : (s.take (i + 1) ++ s.drop i).take i ++ v ++ (s.take (i + 1) ++ s.drop i).drop (i + v.length) = s.take i ++ v ++ s.drop i := by
  have h1 : (s.take (i + 1)).length = i + 1 := by rw [List.length_take]; omega
  rw [List.take_append_of_le_length (by omega), List.take_take, show min i (i + 1) = i by omega, hv, List.drop_append_of_le_length (by omega), List.drop_of_length_le (l := s.take (i + 1)) (by omega), List.nil_append]
theorem ins_end {α : Type} {s v : List α} {i : Nat} (hi : i = s.length) : s ++ v = s.take i ++ v ++ s.drop i := by
  subst hi
  rw [List.take_length, List.drop_length, List.append_nil]
section rules
variable {P : Program} {N : Nat} {W : World} {S0 : List Nat} {Q : Exit → Go.Act → World → Prop} {T : Tm} {L : Bx} {C : List Ass} {ops : Array Oper}
theorem WEAKP {K : Go.Act → World → Prop} {α : Type} {e : TypeId} {La : Lay α} {v : Value} {xs : List α} (j : Nat) (R : List Ass) (hp : pulls [j] C = some ([slP e La v xs], R)) (k : G N W S0 K T L (R ++ [slA e La v xs])) : G N W S0 K T L C := by
  rintro a w ⟨bs, fps, ht, hb, hm⟩
  obtain ⟨xps, hx, hnx, hex⟩ := hm.exch hp
  match xps, hx with
  | [fp], ⟨h, _⟩ =>
    obtain ⟨fps', hmem⟩ := hex w [slA e La v xs] [fp] ⟨h.1, trivial⟩ hnx (fun b hb _ => hb) (Fr.refl _ _)
    exact k a w ⟨bs, fps', ht, hb, hmem⟩
theorem BUILDP {i : Nat} {K : Go.Act → World → Prop} (t : TypeId) (len : Nat) (parts : Array (Nat × Operand)) (d : Nat) (ty : TypeId) (e : TypeId) (cells : List Value) {α : Type} (La : Lay α) (xs : List α) (hrep : ∀ w fps, holds w [] fps → cellsRep La true w cells xs fps.flatten)
    (k : ∀ a : Option Addr, a.isSome = true → G N W S0 K ((d, .v (.slice a len len)) :: T) L (C ++ [slP e La (.slice a len len) xs])) (ho : opAt ops T i = some (.buildSlice t len parts, some d, ty) := by kernel_rfl) (hd : d < N := by exact NL rfl)
    (hb : (partsOf T parts.toList).bind (bsOf P t len) = some (e, cells) := by kernel_rfl) (hl : xs.length = len := by rfl) (hm : len ≤ maxLen := by simp only [maxLen]; omega) : OP P N W S0 ops Q i K T L C := by
  refine STEPM (js := []) (pre := []) (R := C) (ι := {a : Option Addr // a.isSome = true}) (val := fun a => .slice a.1 len len) (own := fun a => [slP e La (.slice a.1 len len) xs]) _ (some d) _ ho (by rintro _ ⟨⟩; exact hd) rfl ?_ (fun a => k a.1 a.2)
  intro ac o bs w fps hev hop hty hat hown hnd
  obtain ⟨pl, hpl, hbs⟩ := Option.bind_eq_some_iff.1 hb
  have hr := bsOf_run hbs w
  have hmap : parts.map (fun (p : Nat × Operand) => (p.1, ac.eval p.2)) = pl.toArray := by
    rw [← partsOf_ok hev hpl]
    rcases parts with ⟨l⟩
    simp
  have hrep' := hrep w fps hown
  have hlt := holds.lt hown
  have hcl := hrep'.len
  have hold : ∀ b, b < w.heap.size → (w.alloc (.cells cells.toArray e)).heap[b]? = w.heap[b]? := fun b hb => Below.heap_alloc _ _ _ hb
  refine ⟨⟨some ⟨w.heap.size, 0, none⟩, rfl⟩, w.alloc (.cells cells.toArray e), _, [w.heap.size :: fps.flatten], ?_, .inl rfl, ⟨⟨⟨cells, fps.flatten, ?_, by simp [Value.ownBlock], hrep'.st fun b hbm => hold b (hlt b hbm), by rw [hl]; exact hm⟩, ?_⟩, trivial⟩, ?_, ?_, ?_⟩
  · simp only [execOp, hop, hmap, Sem.run_bind, hr, Result.andThen_ok, Sem.run_pure]
  · rw [hl]
    exact ownsR.of (World.ownsRow_lit w cells.toArray len (Nat.zero_le _) hm (by simp [hcl, hl]))
  · intro g hg
    simp only [Value.ownBlock, Option.some.injEq] at hg
    subst hg
    exact ⟨cells.toArray, heap_alloc_new w _⟩
  · simp only [List.flatten_cons, List.flatten_nil, List.append_nil, List.nodup_cons]
    exact ⟨fun hbm => by have := hlt _ hbm; omega, hnd⟩
  · intro b hbm hb
    simp only [List.flatten_cons, List.flatten_nil, List.append_nil, List.mem_cons] at hbm
    rcases hbm with rfl | hbm
    · omega
    · exact hbm
  · exact ⟨rfl, rfl, rfl, by simp, fun b hb _ => hold b hb⟩
/-- slices.overlaps of a row without marks and of a part of another -/
theorem OVERLP {i : Nat} {K : Go.Act → World → Prop} (f : FuncId) (x y : Operand) (t tR : TypeId) (d : Nat) (ty : TypeId) {fn : Func} (hf : P.funcs[f]? = some fn) {α : Type} {sz : Nat} {enc : α → List Value} {hh : ∀ x, (enc x).length = sz ∧ ∀ u ∈ enc x, isCell u = true}
    (va : Option Addr) (vn vc : Nat) (a : Option Addr) (n c l m c2 : Nat) (e : TypeId) (j1 j2 : Nat) (vs xs : List α) (R : List Ass) (hp : pulls [j1, j2] C = some ([slP e (flat sz enc hh) (.slice va vn vc) vs, slA e (flat sz enc hh) (.slice a n c) xs], R)) (hva : va.isSome = true) (ha : a.isSome = true) (hc0 : 0 < c) (hs0 : 0 < sz)
    (kk : G N W S0 K ((d, .v (.bool false)) :: T) L (R ++ [slP e (flat sz enc hh) (.slice va vn vc) vs, slA e (flat sz enc hh) (.slice a n c) xs]))
    (ho : opAt ops T i = some (.call { callee := .value (.func f), args := #[x, y], argTypes := #[t, t] }, some d, ty) := by kernel_rfl) (hd : d < N := by exact NL rfl) (hx : evv T x = some (.slice va vn vc) := by kernel_rfl) (hy : evv T y = some (.slice (elA a c l sz) m c2) := by kernel_rfl)
    (hname : (fn.name == "runtime.NumGoroutine") = false := by kernel_rfl) (hbody : fn.body.isNone = true := by kernel_rfl) (hn : Extern.findNext fn = none := by kernel_rfl) (he : Extern.find fn = some (Extern.SlicesOverlaps.overlaps #[t, t] #[tR]) := by kernel_rfl)
    (hu : P.underlying t = some (.slice e) := by kernel_rfl) (hi : (P.info? e).map (·.size) = some sz := by kernel_rfl) : OP P N W S0 ops Q i K T L C := by
  refine STEPM (js := [j1, j2]) (ι := Unit) (val := fun _ => .bool false) (own := fun _ => [slP e (flat sz enc hh) (.slice va vn vc) vs, slA e (flat sz enc hh) (.slice a n c) xs]) _ (some d) _ ho (by rintro _ ⟨⟩; exact hd) hp ?_ (fun _ => kk)
  intro ac o bs w fps hev hop hty hat hown hnd
  match fps, hown with
  | [f1, f2], ⟨hso1, hso2, _⟩ =>
    obtain ⟨b1, full1, rfl, rfl, rfl, hfull1, hft1, hnc1, hcm1⟩ := flatRow hso1.1 hva
    obtain ⟨b2, full2, rfl, rfl, rfl, hfull2, hft2, hnc2, hcm2⟩ := flatRow hso2 ha
    obtain ⟨cur1, hcur1⟩ := hso1.2 b1 rfl
    obtain ⟨inf, hi1, hi2⟩ := Option.map_eq_some_iff.1 hi
    have hne : b1 ≠ b2 := by
      simp only [List.flatten_cons, List.flatten_nil, List.append_nil, List.cons_append, List.nil_append, List.nodup_cons, List.mem_singleton] at hnd
      exact hnd.1
    rcases hfull2.2 with ⟨hv, h0⟩ | ⟨g2, cap2, cur2, fz2, hv, hg2, hfz2, _, _, hcs2, _⟩
    · omega
    · injection hv with e1 e2 e3
      injection e1 with e1
      injection e1 with e1
      subst e1; subst e3
      have e1 : ac.eval x = .slice (some ⟨b1, 0, none⟩) vs.length vc := hev x _ (evo_of_evv hx)
      have e2 : ac.eval y = .slice (elA (some ⟨b2, 0, none⟩) c l sz) m c2 := hev y _ (evo_of_evv hy)
      obtain ⟨ofs, hofs⟩ : ∃ ofs, elA (some ⟨b2, 0, none⟩) c l sz = some ⟨b2, ofs, none⟩ := by
        unfold elA
        split
        · exact ⟨0, rfl⟩
        · exact ⟨l * sz, by simp [add_lit]⟩
      rw [hofs] at e2
      have hpos : cur2.size ≠ 0 := by
        rw [hcs2]
        exact Nat.mul_ne_zero (by omega) (by omega)
      have hrun := Lib.run_overlaps_apart (P := P) w t tR e hu sz (fun w => by rw [← hi2]; exact run_sizeOf hi1) ⟨b1, 0, none⟩ ⟨b2, ofs, none⟩ vs.length vc m c2 hne e e cur1.size cur2.size (by simp [World.shape?, hcur1]) (by simp [World.shape?, hg2]) hpos (by simp [World.frozen?, hcur1]) (by simp [World.frozen?, hcur1])
      refine ⟨(), w, _, [[b1], [b2]], ?_, .inl rfl, ⟨hso1, hso2, trivial⟩, hnd, fun b hb _ => hb, Fr.refl _ _⟩
      have hcall := run_callFunc_extern hf hname hbody hn he #[.slice (some ⟨b1, 0, none⟩) vs.length vc, .slice (some ⟨b2, ofs, none⟩) m c2] w
      rw [hrun] at hcall
      have e3 : ac.eval (.func f) = Value.func (.func f) #[] #[] := rfl
      simp [execOp, hop, resolve, invoke, e1, e2, e3, Deferred.ofValue, hcall, Result.andThen]
theorem CUT3V {i : Nat} {K : Go.Act → World → Prop} (t : TypeId) (x lo hi mx : Operand) (d : Nat) (ty : TypeId) (ho : opAt ops T i = some (.slice t x (some lo) (some hi) (some mx), some d, ty)) (hd : d < N) (a : Option Addr) (n cap : Nat) (kl : IntKind) (l : Int) (kh : IntKind) (h : Int) (km : IntKind) (m : Int)
    (hx : evv T x = some (.slice a n cap)) (hl : evv T lo = some (.int kl l)) (hh : evv T hi = some (.int kh h)) (hm : evv T mx = some (.int km m)) (e : TypeId) (sz : Nat) (hu : P.underlying t = some (.slice e)) (hs : (P.info? e).map (·.size) = some sz) (h0 : 0 ≤ l) (h1 : l ≤ h) (h2 : h ≤ m) (h3 : m ≤ cap)
    (k : G N W S0 K ((d, .v (.slice (elA a m.toNat l.toNat sz) (h.toNat - l.toNat) (m.toNat - l.toNat))) :: T) L C) : OP P N W S0 ops Q i K T L C := by
  refine STEP _ _ _ ho (by rintro _ ⟨⟩; exact hd) (.v (.slice (elA a m.toNat l.toNat sz) (h.toNat - l.toNat) (m.toNat - l.toNat))) (by intro j off he; cases he) ?_ k
  intro ac o bs w hev hop _ _
  obtain ⟨inf, hi1, hsz⟩ := Option.map_eq_some_iff.1 hs
  have hel : P.elem t = e := by unfold Program.elem; rw [hu]
  have hu' : P.underlying t = some (.slice (P.elem t)) := by rw [hel]; exact hu
  have e1 : ac.eval x = .slice a n cap := hev x _ (evo_of_evv hx)
  have e2 : ac.eval lo = .int kl l := hev lo _ (evo_of_evv hl)
  have e3 : ac.eval hi = .int kh h := hev hi _ (evo_of_evv hh)
  have e4 : ac.eval mx = .int km m := hev mx _ (evo_of_evv hm)
  simp only [execOp, hop, e1, e2, e3, e4, Option.map_some, Option.map_none, Sem.run_bind, run_sliceAt_slice w t _ _ _ _ hu', run_slice_lhm w t a n cap hu' kl kh km l h m h0 h1 h2 h3, hel, run_sizeOf hi1, Result.andThen_ok, Sem.run_pure, hsz, sliced, elA, den]
theorem CAPV {i : Nat} {K : Go.Act → World → Prop} (t : TypeId) (x : Operand) (d : Nat) (ty : TypeId) (ho : opAt ops T i = some (.call { callee := .builtin .cap, args := #[x], argTypes := #[t] }, some d, ty)) (hd : d < N) (a : Option Addr) (n c : Nat) (hx : evv T x = some (.slice a n c)) (e : TypeId) (hu : P.underlying t = some (.slice e))
    (k : G N W S0 K ((d, .v (vi (c : Int))) :: T) L C) : OP P N W S0 ops Q i K T L C := by
  refine STEP _ _ _ ho (by rintro _ ⟨⟩; exact hd) (.v (vi (c : Int))) (by intro j off he; cases he) ?_ k
  intro ac o bs w hev hop _ _
  have e1 : ac.eval x = .slice a n c := hev x _ (evo_of_evv hx)
  simp [execOp, hop, resolve, invoke, builtin, e1, Builtin.cap_, run_underlying hu, goInt, Result.andThen, Sem.run_pure, Sem.run_bind, den]
/-- append(s, make(..)...) where there is no room: a new row, zeros behind -/
theorem APPENDZ {i : Nat} {K : Go.Act → World → Prop} (t tn : TypeId) (s x : Operand) (d : Nat) (ty : TypeId) (ho : opAt ops T i = some (.call { callee := .builtin .append, args := #[s, x], argTypes := #[t, tn] }, some d, ty)) (hd : d < N)
    {α : Type} {sz : Nat} {enc : α → List Value} {hh : ∀ x, (enc x).length = sz ∧ ∀ u ∈ enc x, isCell u = true}
    (a : Option Addr) (k c q : Nat) (kq kn : IntKind) (hs : evv T s = some (.slice a k c)) (hx : evv T x = some (.int kq (q : Int))) (e : TypeId) (hu : P.underlying t = some (.slice e)) (hun : P.underlying tn = some (.int kn)) (z : Value) (bytes : Nat)
    (hi : (P.info? e).map (fun i => (i.zero, i.size, i.bytes)) = some (some z, sz, bytes)) (x0 : α) (hz : z.cells.toList = enc x0) (xs : List α) (hk : xs.length = k) (hr1 : ∀ w, At W S0 C w → Rd (flat sz enc hh) w a xs)
    (hgrow : c < k + q) (hq : 0 < q) (hsz : 0 < sz) (hlen : (k + q) * bytes ≤ 140737488355328) (hlen' : k + q ≤ maxLen)
    (kk : ∀ (a' : Option Addr) (c' : Nat), a'.isSome = true → G N W S0 K ((d, .v (.slice a' (k + q) c')) :: T) L (C ++ [slA e (flat sz enc hh) (.slice a' (k + q) c') (xs ++ List.replicate q x0)])) : OP P N W S0 ops Q i K T L C := by
  obtain ⟨inf, h1, h2, h3, h4⟩ := info_at hi
  refine STEPM (js := []) (pre := []) (R := C) (ι := {p : Option Addr × Nat // p.1.isSome = true}) (val := fun p => .slice p.1.1 (k + q) p.1.2) (own := fun p => [slA e (flat sz enc hh) (.slice p.1.1 (k + q) p.1.2) (xs ++ List.replicate q x0)]) _ (some d) _ ho (by rintro _ ⟨⟩; exact hd) rfl ?_ (fun p => kk p.1.1 p.1.2 p.2)
  intro ac o fr w fps hev hop hty hat hown hnd
  match fps, hown with
  | [], _ =>
    subst hk
    have e1 : ac.eval s = .slice a xs.length c := hev s _ (evo_of_evv hs)
    have e2 : ac.eval x = .int kq (q : Int) := hev x _ (evo_of_evv hx)
    have hs1 := src_of (P := P) hu (hr1 w hat) c
    subst h3
    have hb2 : q * inf.bytes ≤ 281474976710656 := by
      rw [h4]
      have : q * bytes ≤ (xs.length + q) * bytes := Nat.mul_le_mul_right _ (by omega)
      omega
    have hr := Lib.run_append_grow_zeros (P := P) w t tn o.type e inf z kq kn hu hun h1 h2 a xs.length c (xs.flatMap enc) hs1.cellsD q hq hsz hgrow (by simp only [maxLen] at hlen'; omega) hb2 (by rw [h4]; exact growslice_fits hgrow hlen)
    have hge := grownCap_ge w (xs.length + q) c e
    have hcm : grownCap w (xs.length + q) c e ≤ maxLen := grownCap_le_maxLen w (xs.length + q) c e hlen'
    have hhl : ∀ x, (enc x).length = inf.size := fun x => (hh x).1
    have hl : (xs ++ List.replicate q x0).length = xs.length + q := by rw [List.length_append, List.length_replicate]
    have hzs : z.cells.size = inf.size := by rw [← Array.length_toList, hz]; exact hhl x0
    have hzc : (Builtin.zeroCells z.cells q).toList = (List.replicate q x0).flatMap enc := by
      have h5 := made_rows (enc x0) (by rw [hhl x0]; exact hsz) q
      have h6 : (List.replicate q (enc x0)).flatten = (List.replicate q x0).flatMap enc := by rw [List.flatMap_replicate]
      rw [← h6, ← h5, hhl x0, ← hz, ← hzs]
      simp [Builtin.zeroCells, madeCells]
    refine ⟨⟨(some ⟨w.heap.size, 0, none⟩, grownCap w (xs.length + q) c e), rfl⟩, w.drew.alloc (.cells ((xs.flatMap enc).toArray ++ Builtin.zeroCells z.cells q ++ Builtin.zeroCells z.cells (grownCap w (xs.length + q) c e - (xs.length + q))) e), _, [[w.heap.size]], ?_, .inl rfl, ⟨⟨(xs ++ List.replicate q x0).flatMap enc, [], ?_, by simp [Value.ownBlock], cellsRep_flat _, by rw [hl]; exact hlen'⟩, trivial⟩, by simp, ?_, ?_⟩
    · simp [execOp, hop, resolve, invoke, builtin, e1, e2, hr, Result.andThen]
    · refine ⟨by rw [flatMap_len hhl]; rfl, .inr ⟨w.heap.size, _, _, (0, 0), by rw [hl], heap_alloc_new w.drew _, .inl (Nat.le_refl _), by rw [hl]; exact hge, hcm, ?_, ?_⟩⟩
      · simp only [Array.size_append, List.size_toArray, size_zeroCells, hzs, flatMap_len hhl]
        show _ = _ * inf.size
        rw [← Nat.add_mul, ← Nat.add_mul]; congr 1; omega
      · have hlen2 : ((xs ++ List.replicate q x0).flatMap enc).length = (xs ++ List.replicate q x0).length * inf.size := flatMap_len hhl _
        simp only [Array.toList_append, hzc, ← List.flatMap_append]
        show List.take ((xs ++ List.replicate q x0).length * inf.size) _ = _
        rw [← hlen2]
        exact List.take_left
    · intro c' hc' hlt
      simp only [List.flatten_cons, List.flatten_nil, List.append_nil, List.mem_singleton] at hc'
      omega
    · exact ⟨rfl, rfl, rfl, by simp, fun k hk _ => Below.heap_alloc w.drew _ k hk⟩
end rules
section hrules
variable {P : Program} {N : Nat} {W : World} {S0 : List Nat} {Q : Exit → Go.Act → World → Prop} {T : Tm} {L : Bx} {C C0 : List Ass} {ops : Array Oper}
/-! ### A store into an element of a slice that is owned -/
theorem HCUTLV {fuel : Nat} {listed : Array Bool} {i : Nat} (t : TypeId) (x lo : Operand) (d : Nat) (ty : TypeId) (ho : opAt ops T i = some (.slice t x (some lo) none none, some d, ty)) (hd : d < N) (a : Option Addr) (n cap : Nat) (kl : IntKind) (l : Int)
    (hx : evv T x = some (.slice a n cap)) (hl : evv T lo = some (.int kl l)) (e : TypeId) (sz : Nat) (hu : P.underlying t = some (.slice e)) (hs : (P.info? e).map (·.size) = some sz) (h0 : 0 ≤ l) (h1 : l ≤ n)
    (hk : (Region.noSelect ops && Region.free .any ops listed i && (Region.ready .any ops listed).contains i) = true) {js : List Nat} (hC : (pulls js C).map (·.1) = some C0)
    (k : H P N W S0 ops Q C0 fuel (listed.setIfInBounds i true) ((d, .v (.slice (elA a cap l.toNat sz) (n - l.toNat) (cap - l.toNat))) :: T) L C) : H P N W S0 ops Q C0 (fuel + 1) listed T L C := by
  refine HTAKE _ _ _ ho (by rintro _ ⟨⟩; exact hd) (.v (.slice (elA a cap l.toNat sz) (n - l.toNat) (cap - l.toNat))) (by intro j off he; cases he) hk hC ?_ k
  intro ac o bs w hev hop _ _
  obtain ⟨inf, hi, hsz⟩ := Option.map_eq_some_iff.1 hs
  have hel : P.elem t = e := by unfold Program.elem; rw [hu]
  have hu' : P.underlying t = some (.slice (P.elem t)) := by rw [hel]; exact hu
  have e1 : ac.eval x = .slice a n cap := hev x _ (evo_of_evv hx)
  have e2 : ac.eval lo = .int kl l := hev lo _ (evo_of_evv hl)
  simp only [execOp, hop, e1, e2, Option.map_some, Option.map_none, Sem.run_bind, run_sliceAt_slice w t _ _ _ _ hu', run_slice_l w t a n cap hu' kl l h0 h1, hel, run_sizeOf hi, Result.andThen_ok, Sem.run_pure, hsz, sliced, elA, den]
theorem HCUTHV {fuel : Nat} {listed : Array Bool} {i : Nat} (t : TypeId) (x hi : Operand) (d : Nat) (ty : TypeId) (ho : opAt ops T i = some (.slice t x none (some hi) none, some d, ty)) (hd : d < N) (a : Option Addr) (n cap : Nat) (kh : IntKind) (h : Int)
    (hx : evv T x = some (.slice a n cap)) (hl : evv T hi = some (.int kh h)) (e : TypeId) (sz : Nat) (hu : P.underlying t = some (.slice e)) (hs : (P.info? e).map (·.size) = some sz) (h0 : 0 ≤ h) (h1 : h ≤ cap)
    (hk : (Region.noSelect ops && Region.free .any ops listed i && (Region.ready .any ops listed).contains i) = true) {js : List Nat} (hC : (pulls js C).map (·.1) = some C0)
    (k : H P N W S0 ops Q C0 fuel (listed.setIfInBounds i true) ((d, .v (.slice a h.toNat cap)) :: T) L C) : H P N W S0 ops Q C0 (fuel + 1) listed T L C := by
  have hz : a.map (·.add (0 * sz)) = a := by
    cases a with
    | none => rfl
    | some ad => simp only [Option.map_some, Nat.zero_mul]; congr 1
  refine HTAKE _ _ _ ho (by rintro _ ⟨⟩; exact hd) (.v (.slice a h.toNat cap)) (by intro j off he; cases he) hk hC ?_ k
  intro ac o bs w hev hop _ _
  obtain ⟨inf, hi1, hsz⟩ := Option.map_eq_some_iff.1 hs
  have hel : P.elem t = e := by unfold Program.elem; rw [hu]
  have hu' : P.underlying t = some (.slice (P.elem t)) := by rw [hel]; exact hu
  have e1 : ac.eval x = .slice a n cap := hev x _ (evo_of_evv hx)
  have e2 : ac.eval hi = .int kh h := hev hi _ (evo_of_evv hl)
  simp only [execOp, hop, e1, e2, Option.map_some, Option.map_none, Sem.run_bind, run_sliceAt_slice w t _ _ _ _ hu', run_slice_h w t a n cap hu' kh h h0 h1, hel, run_sizeOf hi1, Result.andThen_ok, Sem.run_pure, hsz, sliced, hz, ite_self, Nat.sub_zero, den]
end hrules
end SX
end Go.Proofs.YthnbaikmbgaddaaGreat
