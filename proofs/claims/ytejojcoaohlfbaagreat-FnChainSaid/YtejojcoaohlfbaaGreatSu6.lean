/- Texts of this claim, put together by program. -/
import Derived.Test.YtejojcoaohlfbaaGreatSxw
import Derived.Test.YtejojcoaohlfbaaGreatSxd
import Derived.Lib.AppendZerosOnto
import Derived.Lib.Overlaps
import Derived.Test.YtejojcoaohlfbaaGreatSu5
namespace Go.Proofs.YtejojcoaohlfbaaGreat
namespace SX
set_option linter.unusedVariables false
set_option linter.unusedSimpArgs false
open Go Go.RowKit
def slP {α : Type} (e : TypeId) (L : Lay α) (v : Value) (xs : List α) : Ass :=
 ⟨fun w f => SlO e L w v xs f ∧ ∀ g, v.ownBlock = some g → ∃ cur, w.heap[g]? = some (.cells cur e (0, 0)),
   fun w w' f h hb => by
    refine ⟨h.1.st hb, fun g hg => ?_⟩
    obtain ⟨cur, hc⟩ := h.2 g hg
    obtain ⟨cells, g', h1, h2, h3, h4⟩ := h.1
    exact ⟨cur, (hb g (by rw [h2, hg]; simp)).trans hc⟩,
   fun w f h => h.1.lt⟩
theorem ins_grow {α : Type} {s v : List α} {i q : Nat} {z : α} (hv : v.length = 1) (hi : i ≤ s.length) (hq : q = s.length + 1 - i) :
 ((s.take i ++ List.replicate q z).take i ++ v ++ (s.take i ++ List.replicate q z).drop (i + v.length)).take (i + 1) ++ s.drop i ++ ((s.take i ++ List.replicate q z).take i ++ v ++ (s.take i ++ List.replicate q z).drop (i + v.length)).drop (i + 1 + (s.drop i).length) = s.take i ++ v ++ s.drop i := by
 have h1 : (s.take i).length = i := by rw [List.length_take]; omega
 have h2 : (s.take i ++ List.replicate q z).take i = s.take i := by rw [List.take_append_of_le_length (by omega), List.take_take, Nat.min_self]
 have h3 : (s.take i ++ v).length = i + 1 := by rw [List.length_append]; omega
 have h4 : (s.take i ++ v ++ (s.take i ++ List.replicate q z).drop (i + v.length)).length = s.length + 1 := by
  simp only [List.length_append, List.length_drop, List.length_replicate]; omega
 have h5 : (s.take i ++ v ++ (s.take i ++ List.replicate q z).drop (i + v.length)).drop (i + 1 + (s.drop i).length) = [] := List.drop_of_length_le (by rw [h4, List.length_drop]; omega)
 have h6 : (s.take i ++ v ++ (s.take i ++ List.replicate q z).drop (i + v.length)).take (i + 1) = s.take i ++ v := by rw [List.take_append_of_le_length (by omega), List.take_of_length_le (by omega)]
 rw [h2, h5, h6, List.append_nil]
theorem ins_shift {α : Type} {s v : List α} {i : Nat} (hv : v.length = 1) (hi : i < s.length) : (s.take (i + 1) ++ s.drop i).take i ++ v ++ (s.take (i + 1) ++ s.drop i).drop (i + v.length) = s.take i ++ v ++ s.drop i := by
 have h1 : (s.take (i + 1)).length = i + 1 := by rw [List.length_take]; omega
 rw [List.take_append_of_le_length (by omega), List.take_take, show min i (i + 1) = i by omega, hv, List.drop_append_of_le_length (by omega), List.drop_of_length_le (l := s.take (i + 1)) (by omega), List.nil_append]
theorem ins_end {α : Type} {s v : List α} {i : Nat} (hi : i = s.length) : s ++ v = s.take i ++ v ++ s.drop i := by
 subst hi
 rw [List.take_length, List.drop_length, List.append_nil]
section rules
variable {P : Program} {N : Nat} {W : World} {S0 : List Nat} {Q : Exit → Go.Act → World → Prop} {T : Tm} {L : Bx} {C : List Ass} {ops : Array Oper}
theorem WEAKP {K : Go.Act → World → Prop} {α : Type} {e : TypeId} {La : Lay α} {v : Value} {xs : List α} (j : Nat) (R : List Ass) (hp : pulls [j] C = some ([slP e La v xs], R)) (k : G N W S0 K T L (R ++ [slA e La v xs])) : G N W S0 K T L C := by
 rintro a w ⟨bs, fps, ht, hb, hm⟩
 obtain ⟨xps, hx, hnx, hex⟩ := hm.exch hp
 match xps, hx with
 | [fp], ⟨h, _⟩ =>
   obtain ⟨fps', hmem⟩ := hex w [slA e La v xs] [fp] ⟨h.1, trivial⟩ hnx (fun b hb _ => hb) (Fr.refl _ _)
   exact k a w ⟨bs, fps', ht, hb, hmem⟩
theorem BUILDP {i : Nat} {K : Go.Act → World → Prop} (t : TypeId) (len : Nat) (parts : Array (Nat × Operand)) (d : Nat) (ty : TypeId) (e : TypeId) (cells : List Value) {α : Type} (La : Lay α) (xs : List α) (hrep : ∀ w fps, holds w [] fps → cellsRep La true w cells xs fps.flatten)
 (k : ∀ a : Option Addr, a.isSome = true → G N W S0 K ((d, .v (.slice a len len)) :: T) L (C ++ [slP e La (.slice a len len) xs])) (ho : opAt ops T i = some (.buildSlice t len parts, some d, ty) := by kernel_rfl) (hd : d < N := by exact NL rfl)
 (hb : (partsOf T parts.toList).bind (bsOf P t len) = some (e, cells) := by kernel_rfl) (hl : xs.length = len := by rfl) (hm : len ≤ maxLen := by simp only [maxLen]; omega) : OP P N W S0 ops Q i K T L C := by
 refine STEPM (js := []) (pre := []) (R := C) (ι := {a : Option Addr // a.isSome = true}) (val := fun a => .slice a.1 len len) (own := fun a => [slP e La (.slice a.1 len len) xs]) _ (some d) _ ho (by rintro _ ⟨⟩; exact hd) rfl ?_ (fun a => k a.1 a.2)
 intro ac o bs w fps hev hop hty hat hown hnd
 obtain ⟨pl, hpl, hbs⟩ := Option.bind_eq_some_iff.1 hb
 have hr := bsOf_run hbs w
 have hmap : parts.map (fun (p : Nat × Operand) => (p.1, ac.eval p.2)) = pl.toArray := by
  rw [← partsOf_ok hev hpl]
  rcases parts with ⟨l⟩
  simp
 have hrep' := hrep w fps hown
 have hlt := holds.lt hown
 have hcl := hrep'.len
 have hold : ∀ b, b < w.heap.size → (w.alloc (.cells cells.toArray e)).heap[b]? = w.heap[b]? := fun b hb => Below.heap_alloc _ _ _ hb
 refine ⟨⟨some ⟨w.heap.size, 0, none⟩, rfl⟩, w.alloc (.cells cells.toArray e), _, [w.heap.size :: fps.flatten], ?_, .inl rfl, ⟨⟨⟨cells, fps.flatten, ?_, by simp [Value.ownBlock], hrep'.st fun b hbm => hold b (hlt b hbm), by rw [hl]; exact hm⟩, ?_⟩, trivial⟩, ?_, ?_, ?_⟩
 · simp only [execOp, hop, hmap, Sem.run_bind, hr, Result.andThen_ok, Sem.run_pure]
 · rw [hl]
   exact ownsR.of (World.ownsRow_lit w cells.toArray len (Nat.zero_le _) hm (by simp [hcl, hl]))
 · intro g hg
   simp only [Value.ownBlock, Option.some.injEq] at hg
   subst hg
   exact ⟨cells.toArray, heap_alloc_new w _⟩
 · simp only [List.flatten_cons, List.flatten_nil, List.append_nil, List.nodup_cons]
   exact ⟨fun hbm => by have := hlt _ hbm; omega, hnd⟩
 · intro b hbm hb
   simp only [List.flatten_cons, List.flatten_nil, List.append_nil, List.mem_cons] at hbm
   rcases hbm with rfl | hbm
   · omega
   · exact hbm
 · exact ⟨rfl, rfl, rfl, by simp, fun b hb _ => hold b hb⟩
theorem OVERLP {i : Nat} {K : Go.Act → World → Prop} (f : FuncId) (x y : Operand) (t tR : TypeId) (d : Nat) (ty : TypeId) {fn : Func} (hf : P.funcs[f]? = some fn) {α : Type} {sz : Nat} {enc : α → List Value} {hh : ∀ x, (enc x).length = sz ∧ ∀ u ∈ enc x, isCell u = true}
 (va : Option Addr) (vn vc : Nat) (a : Option Addr) (n c l m c2 : Nat) (e : TypeId) (j1 j2 : Nat) (vs xs : List α) (R : List Ass) (hp : pulls [j1, j2] C = some ([slP e (flat sz enc hh) (.slice va vn vc) vs, slA e (flat sz enc hh) (.slice a n c) xs], R)) (hva : va.isSome = true) (ha : a.isSome = true) (hc0 : 0 < c) (hs0 : 0 < sz)
 (kk : G N W S0 K ((d, .v (.bool false)) :: T) L (R ++ [slP e (flat sz enc hh) (.slice va vn vc) vs, slA e (flat sz enc hh) (.slice a n c) xs]))
 (ho : opAt ops T i = some (.call { callee := .value (.func f), args := #[x, y], argTypes := #[t, t] }, some d, ty) := by kernel_rfl) (hd : d < N := by exact NL rfl) (hx : evv T x = some (.slice va vn vc) := by kernel_rfl) (hy : evv T y = some (.slice (elA a c l sz) m c2) := by kernel_rfl)
 (hname : (fn.name == "runtime.NumGoroutine") = false := by kernel_rfl) (hbody : fn.body.isNone = true := by kernel_rfl) (hn : Extern.findNext fn = none := by kernel_rfl) (he : Extern.find fn = some (Extern.SlicesOverlaps.overlaps #[t, t] #[tR]) := by kernel_rfl)
 (hu : P.underlying t = some (.slice e) := by kernel_rfl) (hi : (P.info? e).map (·.size) = some sz := by kernel_rfl) : OP P N W S0 ops Q i K T L C := by
 refine STEPM (js := [j1, j2]) (ι := Unit) (val := fun _ => .bool false) (own := fun _ => [slP e (flat sz enc hh) (.slice va vn vc) vs, slA e (flat sz enc hh) (.slice a n c) xs]) _ (some d) _ ho (by rintro _ ⟨⟩; exact hd) hp ?_ (fun _ => kk)
 intro ac o bs w fps hev hop hty hat hown hnd
 match fps, hown with
 | [f1, f2], ⟨hso1, hso2, _⟩ =>
   obtain ⟨b1, o1, full1, rfl, rfl, rfl, hfull1, hft1, hnc1, hcm1⟩ := flatRow hso1.1 hva
   obtain ⟨b2, o2, full2, rfl, rfl, rfl, hfull2, hft2, hnc2, hcm2⟩ := flatRow hso2 ha
   obtain ⟨cur1, hcur1⟩ := hso1.2 b1 rfl
   obtain ⟨inf, hi1, hi2⟩ := Option.map_eq_some_iff.1 hi
   have hne : b1 ≠ b2 := by
    simp only [List.flatten_cons, List.flatten_nil, List.append_nil, List.cons_append, List.nil_append, List.nodup_cons, List.mem_singleton] at hnd
    exact hnd.1
   rcases hfull2.2 with ⟨hv, h0⟩ | ⟨g2, ob2, cap2, cur2, fz2, hv, hg2, hfz2, _, _, hcs2, _⟩
   · omega
   · injection hv with e1 e2 e3
     injection e1 with e1
     injection e1 with e1
     subst e1; subst e3
     have e1 : ac.eval x = .slice (some ⟨b1, o1, none⟩) vs.length vc := hev x _ (evo_of_evv hx)
     have e2 : ac.eval y = .slice (elA (some ⟨b2, o2, none⟩) c l sz) m c2 := hev y _ (evo_of_evv hy)
     obtain ⟨ofs, hofs⟩ : ∃ ofs, elA (some ⟨b2, o2, none⟩) c l sz = some ⟨b2, ofs, none⟩ := by
      unfold elA
      split
      · exact ⟨o2, rfl⟩
      · exact ⟨o2 + l * sz, by simp [add_lit]⟩
     rw [hofs] at e2
     have hpos : cur2.size ≠ 0 := by
      have := Nat.mul_ne_zero (m := sz) (n := c) (by omega) (by omega)
      have hcs3 : ob2 + c * sz ≤ cur2.size := hcs2
      omega
     have hrun := Lib.run_overlaps_apart (P := P) w t tR e hu sz (fun w => by rw [← hi2]; exact run_sizeOf hi1) ⟨b1, o1, none⟩ ⟨b2, ofs, none⟩ vs.length vc m c2 hne e e cur1.size cur2.size (by simp [World.shape?, hcur1]) (by simp [World.shape?, hg2]) hpos (by simp [World.frozen?, hcur1]) (by simp [World.frozen?, hcur1])
     refine ⟨(), w, _, [[b1], [b2]], ?_, .inl rfl, ⟨hso1, hso2, trivial⟩, hnd, fun b hb _ => hb, Fr.refl _ _⟩
     have hcall := run_callFunc_extern hf hname hbody hn he #[.slice (some ⟨b1, o1, none⟩) vs.length vc, .slice (some ⟨b2, ofs, none⟩) m c2] w
     rw [hrun] at hcall
     have e3 : ac.eval (.func f) = Value.func (.func f) #[] #[] := rfl
     simp [execOp, hop, resolve, invoke, e1, e2, e3, Deferred.ofValue, hcall, Result.andThen]
theorem CUT3V {i : Nat} {K : Go.Act → World → Prop} (t : TypeId) (x lo hi mx : Operand) (d : Nat) (ty : TypeId) (ho : opAt ops T i = some (.slice t x (some lo) (some hi) (some mx), some d, ty)) (hd : d < N) (a : Option Addr) (n cap : Nat) (kl : IntKind) (l : Int) (kh : IntKind) (h : Int) (km : IntKind) (m : Int)
 (hx : evv T x = some (.slice a n cap)) (hl : evv T lo = some (.int kl l)) (hh : evv T hi = some (.int kh h)) (hm : evv T mx = some (.int km m)) (e : TypeId) (sz : Nat) (hu : P.underlying t = some (.slice e)) (hs : (P.info? e).map (·.size) = some sz) (h0 : 0 ≤ l) (h1 : l ≤ h) (h2 : h ≤ m) (h3 : m ≤ cap)
 (k : G N W S0 K ((d, .v (.slice (elA a m.toNat l.toNat sz) (h.toNat - l.toNat) (m.toNat - l.toNat))) :: T) L C) : OP P N W S0 ops Q i K T L C := by
 refine STEP _ _ _ ho (by rintro _ ⟨⟩; exact hd) (.v (.slice (elA a m.toNat l.toNat sz) (h.toNat - l.toNat) (m.toNat - l.toNat))) (by intro j off he; cases he) ?_ k
 intro ac o bs w hev hop _ _
 obtain ⟨inf, hi1, hsz⟩ := Option.map_eq_some_iff.1 hs
 have hel : P.elem t = e := by unfold Program.elem; rw [hu]
 have hu' : P.underlying t = some (.slice (P.elem t)) := by rw [hel]; exact hu
 have e1 : ac.eval x = .slice a n cap := hev x _ (evo_of_evv hx)
 have e2 : ac.eval lo = .int kl l := hev lo _ (evo_of_evv hl)
 have e3 : ac.eval hi = .int kh h := hev hi _ (evo_of_evv hh)
 have e4 : ac.eval mx = .int km m := hev mx _ (evo_of_evv hm)
 simp only [execOp, hop, e1, e2, e3, e4, Option.map_some, Option.map_none, Sem.run_bind, run_sliceAt_slice w t _ _ _ _ hu', run_slice_lhm w t a n cap hu' kl kh km l h m h0 h1 h2 h3, hel, run_sizeOf hi1, Result.andThen_ok, Sem.run_pure, hsz, sliced, elA, den]
theorem CAPV {i : Nat} {K : Go.Act → World → Prop} (t : TypeId) (x : Operand) (d : Nat) (ty : TypeId) (ho : opAt ops T i = some (.call { callee := .builtin .cap, args := #[x], argTypes := #[t] }, some d, ty)) (hd : d < N) (a : Option Addr) (n c : Nat) (hx : evv T x = some (.slice a n c)) (e : TypeId) (hu : P.underlying t = some (.slice e))
 (k : G N W S0 K ((d, .v (vi (c : Int))) :: T) L C) : OP P N W S0 ops Q i K T L C := by
 refine STEP _ _ _ ho (by rintro _ ⟨⟩; exact hd) (.v (vi (c : Int))) (by intro j off he; cases he) ?_ k
 intro ac o bs w hev hop _ _
 have e1 : ac.eval x = .slice a n c := hev x _ (evo_of_evv hx)
 simp [execOp, hop, resolve, invoke, builtin, e1, Builtin.cap_, run_underlying hu, goInt, Result.andThen, Sem.run_pure, Sem.run_bind, den]
theorem APPENDZ {i : Nat} {K : Go.Act → World → Prop} (t tn : TypeId) (s x : Operand) (d : Nat) (ty : TypeId) (ho : opAt ops T i = some (.call { callee := .builtin .append, args := #[s, x], argTypes := #[t, tn] }, some d, ty)) (hd : d < N)
 {α : Type} {sz : Nat} {enc : α → List Value} {hh : ∀ x, (enc x).length = sz ∧ ∀ u ∈ enc x, isCell u = true}
 (a : Option Addr) (k c q : Nat) (kq kn : IntKind) (hs : evv T s = some (.slice a k c)) (hx : evv T x = some (.int kq (q : Int))) (e : TypeId) (hu : P.underlying t = some (.slice e)) (hun : P.underlying tn = some (.int kn)) (z : Value) (bytes : Nat)
 (hi : (P.info? e).map (fun i => (i.zero, i.size, i.bytes)) = some (some z, sz, bytes)) (x0 : α) (hz : z.cells.toList = enc x0) (xs : List α) (hk : xs.length = k) (hr1 : ∀ w, At W S0 C w → Rd (flat sz enc hh) w a xs)
 (hgrow : c < k + q) (hq : 0 < q) (hsz : 0 < sz) (hlen : (k + q) * bytes ≤ 140737488355328) (hlen' : k + q ≤ maxLen)
 (kk : ∀ (a' : Option Addr) (c' : Nat), a'.isSome = true → G N W S0 K ((d, .v (.slice a' (k + q) c')) :: T) L (C ++ [slA e (flat sz enc hh) (.slice a' (k + q) c') (xs ++ List.replicate q x0)])) : OP P N W S0 ops Q i K T L C := by
 obtain ⟨inf, h1, h2, h3, h4⟩ := info_at hi
 refine STEPM (js := []) (pre := []) (R := C) (ι := {p : Option Addr × Nat // p.1.isSome = true}) (val := fun p => .slice p.1.1 (k + q) p.1.2) (own := fun p => [slA e (flat sz enc hh) (.slice p.1.1 (k + q) p.1.2) (xs ++ List.replicate q x0)]) _ (some d) _ ho (by rintro _ ⟨⟩; exact hd) rfl ?_ (fun p => kk p.1.1 p.1.2 p.2)
 intro ac o fr w fps hev hop hty hat hown hnd
 match fps, hown with
 | [], _ =>
   subst hk
   have e1 : ac.eval s = .slice a xs.length c := hev s _ (evo_of_evv hs)
   have e2 : ac.eval x = .int kq (q : Int) := hev x _ (evo_of_evv hx)
   have hs1 := src_of (P := P) hu (hr1 w hat) c
   subst h3
   have hb2 : q * inf.bytes ≤ 281474976710656 := by
    rw [h4]
    have : q * bytes ≤ (xs.length + q) * bytes := Nat.mul_le_mul_right _ (by omega)
    omega
   have hr := Lib.run_append_grow_zeros (P := P) w t tn o.type e inf z kq kn hu hun h1 h2 a xs.length c (xs.flatMap enc) hs1.cellsD q hq hsz hgrow (by simp only [maxLen] at hlen'; omega) hb2 (by rw [h4]; exact growslice_fits hgrow hlen)
   have hge := grownCap_ge w (xs.length + q) c e
   have hcm : grownCap w (xs.length + q) c e ≤ maxLen := grownCap_le_maxLen w (xs.length + q) c e hlen'
   have hhl : ∀ x, (enc x).length = inf.size := fun x => (hh x).1
   have hl : (xs ++ List.replicate q x0).length = xs.length + q := by rw [List.length_append, List.length_replicate]
   have hzs : z.cells.size = inf.size := by rw [← Array.length_toList, hz]; exact hhl x0
   have hzc : (Builtin.zeroCells z.cells q).toList = (List.replicate q x0).flatMap enc := by
    have h5 := made_rows (enc x0) (by rw [hhl x0]; exact hsz) q
    have h6 : (List.replicate q (enc x0)).flatten = (List.replicate q x0).flatMap enc := by rw [List.flatMap_replicate]
    rw [← h6, ← h5, hhl x0, ← hz, ← hzs]
    simp [Builtin.zeroCells, madeCells]
   refine ⟨⟨(some ⟨w.heap.size, 0, none⟩, grownCap w (xs.length + q) c e), rfl⟩, w.drew.alloc (.cells ((xs.flatMap enc).toArray ++ Builtin.zeroCells z.cells q ++ Builtin.zeroCells z.cells (grownCap w (xs.length + q) c e - (xs.length + q))) e), _, [[w.heap.size]], ?_, .inl rfl, ⟨⟨(xs ++ List.replicate q x0).flatMap enc, [], ?_, by simp [Value.ownBlock], cellsRep_flat _, by rw [hl]; exact hlen'⟩, trivial⟩, by simp, ?_, ?_⟩
   · simp [execOp, hop, resolve, invoke, builtin, e1, e2, hr, Result.andThen]
   · refine ⟨by rw [flatMap_len hhl]; rfl, .inr ⟨w.heap.size, 0, _, _, (0, 0), by rw [hl], heap_alloc_new w.drew _, .inl (Nat.le_refl _), by rw [hl]; exact hge, hcm, ?_, ?_⟩⟩
     · refine Nat.le_of_eq (Eq.symm ?_)
       simp only [Array.size_append, List.size_toArray, size_zeroCells, hzs, flatMap_len hhl, Nat.zero_add]
       show _ = _ * inf.size
       rw [← Nat.add_mul, ← Nat.add_mul]; congr 1; omega
     · have hlen2 : ((xs ++ List.replicate q x0).flatMap enc).length = (xs ++ List.replicate q x0).length * inf.size := flatMap_len hhl _
       simp only [List.drop_zero, Array.toList_append, hzc, ← List.flatMap_append]
       show List.take ((xs ++ List.replicate q x0).length * inf.size) _ = _
       rw [← hlen2]
       exact List.take_left
   · intro c' hc' hlt
     simp only [List.flatten_cons, List.flatten_nil, List.append_nil, List.mem_singleton] at hc'
     omega
   · exact ⟨rfl, rfl, rfl, by simp, fun k hk _ => Below.heap_alloc w.drew _ k hk⟩
end rules
section hrules
variable {P : Program} {N : Nat} {W : World} {S0 : List Nat} {Q : Exit → Go.Act → World → Prop} {T : Tm} {L : Bx} {C C0 : List Ass} {ops : Array Oper}
theorem HCUTLV {fuel : Nat} {listed : Array Bool} {i : Nat} (t : TypeId) (x lo : Operand) (d : Nat) (ty : TypeId) (ho : opAt ops T i = some (.slice t x (some lo) none none, some d, ty)) (hd : d < N) (a : Option Addr) (n cap : Nat) (kl : IntKind) (l : Int)
 (hx : evv T x = some (.slice a n cap)) (hl : evv T lo = some (.int kl l)) (e : TypeId) (sz : Nat) (hu : P.underlying t = some (.slice e)) (hs : (P.info? e).map (·.size) = some sz) (h0 : 0 ≤ l) (h1 : l ≤ n)
 (hk : (Region.noSelect ops && Region.free .any ops listed i && (Region.ready .any ops listed).contains i) = true) {js : List Nat} (hC : (pulls js C).map (·.1) = some C0)
 (k : H P N W S0 ops Q C0 fuel (listed.setIfInBounds i true) ((d, .v (.slice (elA a cap l.toNat sz) (n - l.toNat) (cap - l.toNat))) :: T) L C) : H P N W S0 ops Q C0 (fuel + 1) listed T L C := by
 refine HTAKE _ _ _ ho (by rintro _ ⟨⟩; exact hd) (.v (.slice (elA a cap l.toNat sz) (n - l.toNat) (cap - l.toNat))) (by intro j off he; cases he) hk hC ?_ k
 intro ac o bs w hev hop _ _
 obtain ⟨inf, hi, hsz⟩ := Option.map_eq_some_iff.1 hs
 have hel : P.elem t = e := by unfold Program.elem; rw [hu]
 have hu' : P.underlying t = some (.slice (P.elem t)) := by rw [hel]; exact hu
 have e1 : ac.eval x = .slice a n cap := hev x _ (evo_of_evv hx)
 have e2 : ac.eval lo = .int kl l := hev lo _ (evo_of_evv hl)
 simp only [execOp, hop, e1, e2, Option.map_some, Option.map_none, Sem.run_bind, run_sliceAt_slice w t _ _ _ _ hu', run_slice_l w t a n cap hu' kl l h0 h1, hel, run_sizeOf hi, Result.andThen_ok, Sem.run_pure, hsz, sliced, elA, den]
theorem HCUTHV {fuel : Nat} {listed : Array Bool} {i : Nat} (t : TypeId) (x hi : Operand) (d : Nat) (ty : TypeId) (ho : opAt ops T i = some (.slice t x none (some hi) none, some d, ty)) (hd : d < N) (a : Option Addr) (n cap : Nat) (kh : IntKind) (h : Int)
 (hx : evv T x = some (.slice a n cap)) (hl : evv T hi = some (.int kh h)) (e : TypeId) (sz : Nat) (hu : P.underlying t = some (.slice e)) (hs : (P.info? e).map (·.size) = some sz) (h0 : 0 ≤ h) (h1 : h ≤ cap)
 (hk : (Region.noSelect ops && Region.free .any ops listed i && (Region.ready .any ops listed).contains i) = true) {js : List Nat} (hC : (pulls js C).map (·.1) = some C0)
 (k : H P N W S0 ops Q C0 fuel (listed.setIfInBounds i true) ((d, .v (.slice a h.toNat cap)) :: T) L C) : H P N W S0 ops Q C0 (fuel + 1) listed T L C := by
 have hz : a.map (·.add (0 * sz)) = a := by
  cases a with
  | none => rfl
  | some ad => simp only [Option.map_some, Nat.zero_mul]; congr 1
 refine HTAKE _ _ _ ho (by rintro _ ⟨⟩; exact hd) (.v (.slice a h.toNat cap)) (by intro j off he; cases he) hk hC ?_ k
 intro ac o bs w hev hop _ _
 obtain ⟨inf, hi1, hsz⟩ := Option.map_eq_some_iff.1 hs
 have hel : P.elem t = e := by unfold Program.elem; rw [hu]
 have hu' : P.underlying t = some (.slice (P.elem t)) := by rw [hel]; exact hu
 have e1 : ac.eval x = .slice a n cap := hev x _ (evo_of_evv hx)
 have e2 : ac.eval hi = .int kh h := hev hi _ (evo_of_evv hl)
 simp only [execOp, hop, e1, e2, Option.map_some, Option.map_none, Sem.run_bind, run_sliceAt_slice w t _ _ _ _ hu', run_slice_h w t a n cap hu' kh h h0 h1, hel, run_sizeOf hi1, Result.andThen_ok, Sem.run_pure, hsz, sliced, hz, ite_self, Nat.sub_zero, den]
end hrules
section
variable {P : Program} {ops : Array Oper} {Q : Exit → Go.Act → World → Prop} {md : Region.Mode} {S : Array Bool → World → Prop}
def wpAnyD (P : Program) (md : Region.Mode) (ops : Array Oper) (Q : Exit → Go.Act → World → Prop) (S : Array Bool → World → Prop) : Nat → Array Bool → Go.Act → World → Prop
 | 0, listed, a, w => Region.ready md ops listed = [] ∧ Q .normal a w
 | fuel + 1, listed, a, w =>
   (Region.ready md ops listed = [] → Q .normal a w) ∧
   ∀ i ∈ Region.ready md ops listed, wpOp P ops Q i (fun a' w' => S (listed.setIfInBounds i true) w' ∧ wpAnyD P md ops Q S fuel (listed.setIfInBounds i true) a' w') a w
theorem wpAny_of_D : ∀ (fuel : Nat) (listed : Array Bool) (a : Go.Act) (w : World), wpAnyD P md ops Q S fuel listed a w → wpAny P md ops Q fuel listed a w
 | 0, _, _, _, h => h
 | fuel + 1, _, _, _, h => ⟨h.1, fun i hi => wpOp_mono (fun a' w' h' => wpAny_of_D fuel _ a' w' h'.2) (h.2 i hi)⟩
theorem wpAnyD_of_H {S' : World → Prop} (hS : ∀ l w, S' w → S l w) : ∀ (fuel : Nat) (listed : Array Bool) (a : Go.Act) (w : World), wpAnyH P md ops Q S' fuel listed a w → wpAnyD P md ops Q S fuel listed a w
 | 0, _, _, _, h => h
 | fuel + 1, _, _, _, h => ⟨h.1, fun i hi => wpOp_mono (fun a' w' h' => ⟨hS _ _ h'.1, wpAnyD_of_H hS fuel _ a' w' h'.2⟩) (h.2 i hi)⟩
theorem wpAnyH_of_D {S' : World → Prop} (hS : ∀ l w, S l w → S' w) : ∀ (fuel : Nat) (listed : Array Bool) (a : Go.Act) (w : World), wpAnyD P md ops Q S fuel listed a w → wpAnyH P md ops Q S' fuel listed a w
 | 0, _, _, _, h => h
 | fuel + 1, _, _, _, h => ⟨h.1, fun i hi => wpOp_mono (fun a' w' h' => ⟨hS _ _ h'.1, wpAnyH_of_D hS fuel _ a' w' h'.2⟩) (h.2 i hi)⟩
def Bfr (md : Region.Mode) (ops : Array Oper) (i : Nat) (l : Array Bool) : Prop :=
 l.getD i true = false ∧ ∀ (j : Nat) (o : Oper), ops[j]? = some o → l.getD j false = true → ∀ e ∈ o.after, Region.binds md e = true → l.getD e.on false = true
theorem getD_set {l : Array Bool} {j k : Nat} {d : Bool} (h : (l.setIfInBounds j true).getD k d = true) : l.getD k d = true ∨ j = k := by
 by_cases hjk : j = k
 · exact .inr hjk
 · rw [getD_set_ne d hjk] at h; exact .inl h
theorem set_getD {l : Array Bool} {j k : Nat} (h : l.getD k false = true) : (l.setIfInBounds j true).getD k false = true := by
 by_cases hjk : j = k
 · subst hjk
   rcases Nat.lt_or_ge j l.size with h' | h'
   · simp [h']
   · simp [h'] at h
 · rw [getD_set_ne false hjk]; exact h
theorem Bfr.step {i j : Nat} {l : Array Bool} (h : Bfr md ops i l) (hj : j ∈ Region.ready md ops l) (hji : j ≠ i) : Bfr md ops i (l.setIfInBounds j true) := by
 refine ⟨by rw [getD_set_ne true hji]; exact h.1, fun k o hk hl e he hb => ?_⟩
 obtain ⟨h1, o', ho', hall⟩ := mem_ready.1 hj
 rcases getD_set hl with h2 | h2
 · exact set_getD (h.2 k o hk h2 e he hb)
 · subst h2
   rw [ho'] at hk; injection hk with hk; subst hk
   exact set_getD (hall e he hb)
def waitsB (md : Region.Mode) (ops : Array Oper) (i : Nat) : Nat → Nat → Bool
 | 0, k => Nat.beq k i
 | n + 1, k => Nat.beq k i || match ops[k]? with
   | some o => o.after.any fun e => Region.binds md e && waitsB md ops i n e.on
   | none => false
theorem Bfr.waits {i : Nat} {l : Array Bool} (h : Bfr md ops i l) : ∀ (n k : Nat), waitsB md ops i n k = true → l.getD k false = false
 | 0, k, hk => by
   have : k = i := Nat.eq_of_beq_eq_true hk
   subst this
   have h1 := h.1
   rcases Nat.lt_or_ge k l.size with h' | h'
   · simp [h'] at h1 ⊢; exact h1
   · simp [h']
 | n + 1, k, hk => by
   simp only [waitsB, Bool.or_eq_true] at hk
   rcases hk with hk | hk
   · exact Bfr.waits h 0 k hk
   · split at hk
     · rename_i o ho
       obtain ⟨m, hm, he⟩ := Array.any_eq_true.1 hk
       simp only [Bool.and_eq_true] at he
       have ih := Bfr.waits h n _ he.2
       cases hq : l.getD k false with
       | false => rfl
       | true =>
         have := h.2 k o ho hq _ (Array.getElem_mem hm) he.1
         rw [ih] at this; cases this
     · cases hk
theorem wpAnyD_first {i : Nat} {oi : Oper} {v : Value} (hi : ops[i]? = some oi) (hsel : ∀ (j : Nat) (o : Oper) cs b, ops[j]? = some o → o.op ≠ .select cs b)
 (hQ : ∀ c a w, Q (.panic c) (a.put oi.dst v) w → Q (.panic c) a w) {S0 : World → Prop} (hSi : ∀ l w, S (l.setIfInBounds i true) w ↔ S l w) (hS0 : ∀ l w, Bfr md ops i l → S l w → S0 w) :
 ∀ (fuel : Nat) (listed : Array Bool) (a : Go.Act) (w : World),
   (∀ j oj, ops[j]? = some oj → j ≠ i → listed.getD j true = false → (∀ e ∈ oj.after, Region.binds md e = true → e.on ≠ i) → oi.apart ops oj = true) →
   i ∈ Region.ready md ops listed → Bfr md ops i listed → YieldsIf P ops S0 oi v a → S listed w →
   wpAnyD P md ops Q S fuel (listed.setIfInBounds i true) (a.put oi.dst v) w → wpAnyD P md ops Q S (fuel + 1) listed a w := by
 intro fuel
 induction fuel with
 | zero =>
   intro listed a w _ hr hB hy hS H
   refine ⟨fun h => (by rw [h] at hr; cases hr), fun j hj => ?_⟩
   by_cases hji : j = i
   · subst hji; exact hy.wpOp hi (hS0 _ _ hB hS) ⟨(hSi _ _).2 hS, H⟩
   · have := ready_mono hj hji
     rw [H.1] at this
     cases this
 | succ fuel ih =>
   intro listed a w hfree hr hB hy hS H
   refine ⟨fun h => (by rw [h] at hr; cases hr), fun j hj => ?_⟩
   by_cases hji : j = i
   · subst hji; exact hy.wpOp hi (hS0 _ _ hB hS) ⟨(hSi _ _).2 hS, H⟩
   · have h1 := H.2 j (ready_mono hj hji)
     obtain ⟨hjun, oj, hoj, hall⟩ := mem_ready.1 hj
     have hnot : ∀ e ∈ oj.after, Region.binds md e = true → e.on ≠ i := fun e he hb heq => by
      have h1 := hall e he hb
      have h0 := (mem_ready.1 hr).1
      rw [heq] at h1
      rcases Nat.lt_or_ge i listed.size with h' | h'
      · simp [h'] at h0 h1; rw [h0] at h1; cases h1
      · simp [Array.getElem?_eq_none h'] at h1
     have h2 := wpOp_putIf hoj (hfree j oj hoj hji hjun hnot) (fun cs b => hsel i oi cs b hi) (fun cs b => hsel j oj cs b hoj) hQ hy h1
     have hfree' : ∀ k ok, ops[k]? = some ok → k ≠ i → (listed.setIfInBounds j true).getD k true = false →
      (∀ e ∈ ok.after, Region.binds md e = true → e.on ≠ i) → oi.apart ops ok = true := fun k ok hk hki hun hno => by
      refine hfree k ok hk hki ?_ hno
      by_cases hjk : j = k
      · subst hjk; exact hjun
      · rw [getD_set_ne true hjk] at hun; exact hun
     refine wpOp_mono (fun a' w' h3 => ?_) h2
     have hS' : S (listed.setIfInBounds j true) w' := (hSi _ _).1 (by rw [Array.setIfInBounds_comm _ _ (Ne.symm hji |> Ne.symm)]; exact h3.2.1)
     refine ⟨hS', ih (listed.setIfInBounds j true) a' w' hfree' (ready_mono hr (Ne.symm hji)) (hB.step hj hji) h3.1 hS' ?_⟩
     rw [Array.setIfInBounds_comm _ _ hji]
     exact h3.2.2
theorem wpAnyD_all {rs : List Nat} {fuel : Nat} {listed : Array Bool} {a : Go.Act} {w : World} (hr : Region.ready md ops listed = rs) (hne : rs ≠ [])
 (h : ∀ i ∈ rs, wpOp P ops Q i (fun a' w' => S (listed.setIfInBounds i true) w' ∧ wpAnyD P md ops Q S fuel (listed.setIfInBounds i true) a' w') a w) : wpAnyD P md ops Q S (fuel + 1) listed a w :=
 ⟨fun h0 => absurd (hr ▸ h0) hne, hr ▸ h⟩
theorem wpAnyD_done {listed : Array Bool} {a : Go.Act} {w : World} (hr : Region.ready md ops listed = []) (h : Q .normal a w) : ∀ fuel, wpAnyD P md ops Q S fuel listed a w
 | 0 => ⟨hr, h⟩
 | _ + 1 => ⟨fun _ => h, by rw [hr]; simp⟩
end
abbrev Keys := List (Nat × Ass)
def act (l : Array Bool) : Keys → List Ass
 | [] => []
 | (k, A) :: Ks => match l.getD k false with
   | true => act l Ks
   | false => A :: act l Ks
def memK : List Nat → Nat → Bool
 | [], _ => false
 | k :: r, i => match Nat.beq k i with
   | true => true
   | false => memK r i
def actL (Ls : List Nat) : Keys → List Ass
 | [] => []
 | (k, A) :: Ks => match memK Ls k with
   | true => actL Ls Ks
   | false => A :: actL Ls Ks
def keysOff (Ls : List Nat) (la : Array Bool) : Keys → Bool
 | [] => true
 | (k, _) :: Ks => (la.getD k false == memK Ls k) && keysOff Ls la Ks
theorem act_eq {Ls : List Nat} {la : Array Bool} : ∀ {Ks : Keys}, keysOff Ls la Ks = true → act la Ks = actL Ls Ks
 | [], _ => rfl
 | (k, A) :: Ks, h => by
   simp only [keysOff, Bool.and_eq_true, beq_iff_eq] at h
   have ih := act_eq h.2
   simp only [act, actL, h.1, ih]
theorem act_set {i : Nat} {l : Array Bool} : ∀ {Ks : Keys}, (∀ p ∈ Ks, p.1 ≠ i) → act (l.setIfInBounds i true) Ks = act l Ks
 | [], _ => rfl
 | (k, A) :: Ks, h => by
   have ih := act_set (l := l) fun p hp => h p (List.mem_cons_of_mem _ hp)
   have hk : i ≠ k := fun e => h (k, A) (by simp) e.symm
   simp only [act, ih, getD_set_ne false hk]
theorem act_mem {l : Array Bool} {k : Nat} {A : Ass} : ∀ {Ks : Keys}, (k, A) ∈ Ks → l.getD k false = false → A ∈ act l Ks
 | (k', A') :: Ks, h, hl => by
   rcases List.mem_cons.1 h with h | h
   · injection h with h1 h2; subst h1 h2
     simp [act, hl]
   · have ih := act_mem (l := l) h hl
     simp only [act]
     split
     · exact ih
     · exact List.mem_cons_of_mem _ ih
theorem At.sub1 {W w : World} {S0 : List Nat} {C D : List Ass} (h : At W S0 (C ++ D) w) : At W S0 C w := by
 obtain ⟨hf, fps, hh, hn, hnew⟩ := h
 obtain ⟨f, g, rfl, h1, h2⟩ := holds.split hh
 rw [List.flatten_append] at hn hnew
 exact ⟨hf, f, h1, (List.nodup_append.1 hn).1, fun b hb => hnew b (List.mem_append.2 (.inl hb))⟩
section rules
variable {P : Program} {N : Nat} {W : World} {S0 : List Nat} {Q : Exit → Go.Act → World → Prop} {T : Tm} {L : Bx} {C : List Ass} {ops : Array Oper} {C0 : List Ass} {Ks : Keys}
def HD (P : Program) (N : Nat) (W : World) (S0 : List Nat) (ops : Array Oper) (Q : Exit → Go.Act → World → Prop) (C0 : List Ass) (Ks : Keys) (fuel : Nat) (listed : Array Bool) (T : Tm) (L : Bx) (C : List Ass) : Prop :=
 G N W S0 (fun a w => wpAnyD P .any ops (nQ Q) (fun l w => At W S0 (C0 ++ act l Ks) w) fuel listed a w) T L C
theorem HD_of_H {fuel : Nat} {listed : Array Bool} (k : H P N W S0 ops Q C0 fuel listed T L C) : HD P N W S0 ops Q C0 [] fuel listed T L C := fun a w h =>
 wpAnyD_of_H (fun l w h => by simpa [act] using h) _ _ _ _ (k a w h)
theorem H_of_HD {fuel : Nat} {listed : Array Bool} (k : HD P N W S0 ops Q C0 [] fuel listed T L C) : H P N W S0 ops Q C0 fuel listed T L C := fun a w h =>
 wpAnyH_of_D (fun l w h => by simpa [act] using h) _ _ _ _ (k a w h)
def closedB (ops : Array Oper) (l : Array Bool) : Bool :=
 (List.range ops.size).all fun j => !(l.getD j false) || match ops[j]? with
   | some o => o.after.all fun e => !(Region.binds .any e) || l.getD e.on false
   | none => true
theorem Bfr_of {i : Nat} {l : Array Bool} (hr : i ∈ Region.ready .any ops l) (hc : closedB ops l = true) : Bfr .any ops i l := by
 refine ⟨(mem_ready.1 hr).1, fun j o ho hl e he hb => ?_⟩
 have hj : j < ops.size := by
  rcases Nat.lt_or_ge j ops.size with h | h
  · exact h
  · rw [Array.getElem?_eq_none h] at ho; cases ho
 have h1 := List.all_eq_true.1 hc j (List.mem_range.2 hj)
 rw [hl, ho] at h1
 simp only [Bool.not_true, Bool.false_or] at h1
 have h2 := Array.all_eq_true'.1 h1 e he
 simpa [hb] using h2
def takeB (ops : Array Oper) (listed : Array Bool) (Ks : Keys) (i : Nat) : Bool :=
 Region.noSelect ops && Region.free .any ops listed i && (Region.ready .any ops listed).contains i && closedB ops listed && Ks.all (fun p => !(Nat.beq p.1 i))
def KeyOk (ops : Array Oper) (Ks : Keys) (i : Nat) (kA : Option (Nat × Ass)) : Prop :=
 match kA with
 | none => True
 | some (k, A) => (k, A) ∈ Ks ∧ waitsB .any ops i ops.size k = true
def kAss (C0 : List Ass) : Option (Nat × Ass) → World → World → List Nat → Prop
 | none, W, w, S0 => At W S0 C0 w
 | some (_, A), W, w, S0 => At W S0 C0 w ∧ ∃ fp, A.φ w fp
theorem HDTAKE {fuel : Nat} {listed : Array Bool} {i : Nat} (kA : Option (Nat × Ass)) (hkA : KeyOk ops Ks i kA) (op : Op) (d : Option Nat) (ty : TypeId) (ho : opAt ops T i = some (op, d, ty)) (hd : ∀ k, d = some k → k < N) (s : SV) (hs : ∀ j off, s = .p j off → j < L.length)
 (hk : takeB ops listed Ks i = true) {js : List Nat} (hC : (pulls js C).map (·.1) = some (C0 ++ act listed Ks))
 (hrun : ∀ (a : Go.Act) (o : Oper) (bs : List Nat) (w : World), (∀ x s, evo T x = some s → a.eval x = den bs s) → o.op = op → o.type = ty → kAss C0 kA W w S0 → (execOp a.eval o).run P w = .ok (.value (den bs s)) w)
 (k : HD P N W S0 ops Q C0 Ks fuel (listed.setIfInBounds i true) (putd d s T) L C) : HD P N W S0 ops Q C0 Ks (fuel + 1) listed T L C := by
 rintro a w ⟨bs, fps, ht, hb, hm⟩
 obtain ⟨o, hi, hw, hop, hdst, hty⟩ := opAt_ok ho ht
 simp only [takeB, Bool.and_eq_true] at hk
 subst hdst
 have hr : i ∈ Region.ready .any ops listed := by simpa using hk.1.1.2
 have hne : ∀ p ∈ Ks, p.1 ≠ i := fun p hp he => by
  have := List.all_eq_true.1 hk.2 p hp
  simp [he] at this
 refine wpAnyD_first (v := den bs s) (S0 := fun w => kAss C0 kA W w S0) hi (Region.noSelect_spec hk.1.1.1.1) (fun c a w h => h.elim) (fun l w => by rw [act_set hne]) (fun l w hB hS => ?_) fuel listed _ _ (Region.free_spec hi hk.1.1.1.2) hr (Bfr_of hr hk.1.2)
  (.inl ⟨hw, fun w' hw' => hrun a o bs w' (fun x s hx => ht.evo hx) hop hty hw'⟩) (at_take hm.at_ hC) ?_
 · cases kA with
   | none => exact hS.sub1
   | some p =>
     refine ⟨hS.sub1, ?_⟩
     have h1 := act_mem (l := l) hkA.1 (hB.waits _ _ hkA.2)
     obtain ⟨m, hm⟩ := List.getElem?_of_mem (List.mem_append.2 (.inr h1) : p.2 ∈ C0 ++ act l Ks)
     exact hS.own m hm
 · exact k _ _ ⟨bs, fps, ht.put (put_putd hd) rfl, hb.put hs (put_putd hd), hm⟩
theorem HDSKIP {fuel : Nat} {listed : Array Bool} {i : Nat} (T' : Tm) (ho : (match ops[i]? with | some o => if wants ops T o = some false then put N T o.dst (.v undef) else none | none => none) = some T')
 (hk : takeB ops listed Ks i = true) {js : List Nat} (hC : (pulls js C).map (·.1) = some (C0 ++ act listed Ks))
 (k : HD P N W S0 ops Q C0 Ks fuel (listed.setIfInBounds i true) T' L C) : HD P N W S0 ops Q C0 Ks (fuel + 1) listed T L C := by
 rintro a w ⟨bs, fps, ht, hb, hm⟩
 split at ho
 · rename_i o hi
   split at ho
   · rename_i hw
     simp only [takeB, Bool.and_eq_true] at hk
     have hr : i ∈ Region.ready .any ops listed := by simpa using hk.1.1.2
     have hne : ∀ p ∈ Ks, p.1 ≠ i := fun p hp he => by
      have := List.all_eq_true.1 hk.2 p hp
      simp [he] at this
     refine wpAnyD_first (v := undef) (S0 := fun w => True) hi (Region.noSelect_spec hk.1.1.1.1) (fun c a w h => h.elim) (fun l w => by rw [act_set hne]) (fun l w hB hS => trivial) fuel listed _ _ (Region.free_spec hi hk.1.1.1.2) hr (Bfr_of hr hk.1.2)
      (.inr ⟨wants_ok hw ht, rfl⟩) (at_take hm.at_ hC) ?_
     exact k _ _ ⟨bs, fps, ht.put ho rfl, hb.put (by intro i o' he; cases he) ho, hm⟩
   · cases ho
 · cases ho
theorem HDPURE {fuel : Nat} {listed : Array Bool} {i : Nat} {o : Oper} {T' : Tm} {L1 : Bx} (hi : ops[i]? = some o) (hw : wants ops T o = some true) (hq : stillOp o.op = true) (h1 : go1 P N T L o = some (T', L1))
 (hk : takeB ops listed Ks i = true) {js : List Nat} (hC : (pulls js C).map (·.1) = some (C0 ++ act listed Ks))
 (k : HD P N W S0 ops Q C0 Ks fuel (listed.setIfInBounds i true) T' L C) : HD P N W S0 ops Q C0 Ks (fuel + 1) listed T L C := by
 rintro a w ⟨bs, fps, ht, hb, hm⟩
 obtain ⟨v, hr9, ht', hb'⟩ := go1h hq h1 ht hb
 simp only [takeB, Bool.and_eq_true] at hk
 have hr : i ∈ Region.ready .any ops listed := by simpa using hk.1.1.2
 have hne : ∀ p ∈ Ks, p.1 ≠ i := fun p hp he => by
  have := List.all_eq_true.1 hk.2 p hp
  simp [he] at this
 refine wpAnyD_first (v := v) (S0 := fun w => True) hi (Region.noSelect_spec hk.1.1.1.1) (fun c a w h => h.elim) (fun l w => by rw [act_set hne]) (fun l w hB hS => trivial) fuel listed _ _ (Region.free_spec hi hk.1.1.1.2) hr (Bfr_of hr hk.1.2)
  (.inl ⟨wants_ok hw ht, fun w' _ => hr9 w'⟩) (at_take hm.at_ hC) ?_
 exact k _ _ ⟨bs, fps, ht', hb', hm⟩
theorem HDINDEX {fuel : Nat} {listed : Array Bool} {i : Nat} (t : TypeId) (x ix : Operand) (d : Nat) (ty : TypeId) (ho : opAt ops T i = some (.indexAddr t x ix, some d, ty)) (hd : d < N) (a : Option Addr) (n cap : Nat) (kd : IntKind) (z : Int) (e : TypeId) (sz : Nat)
 (hx : evv T x = some (.slice a n cap)) (hix : evv T ix = some (.int kd z)) (hu : P.underlying t = some (.slice e)) (hsz : (P.info? e).map (·.size) = some sz) (ha : a.isSome = true) (h0 : 0 ≤ z) (hn : z < n)
 (hk : takeB ops listed Ks i = true) {js : List Nat} (hC : (pulls js C).map (·.1) = some (C0 ++ act listed Ks))
 (k : HD P N W S0 ops Q C0 Ks fuel (listed.setIfInBounds i true) ((d, .e a (z.toNat * sz) 0) :: T) L C) : HD P N W S0 ops Q C0 Ks (fuel + 1) listed T L C := by
 refine HDTAKE none trivial _ _ _ ho (by rintro _ ⟨⟩; exact hd) (.e a (z.toNat * sz) 0) (by intro j off he; cases he) hk hC ?_ k
 intro ac o bs w hev hop _ _
 obtain ⟨ad, rfl⟩ := Option.isSome_iff_exists.1 ha
 obtain ⟨inf, hi, hs⟩ := Option.map_eq_some_iff.1 hsz
 have h1 : ac.eval x = .slice (some ad) n cap := hev x _ (evo_of_evv hx)
 have h2 : ac.eval ix = .int kd z := hev ix _ (evo_of_evv hix)
 simp only [execOp, hop, h1, h2, Instr.indexAt, asIntOf, Sem.run_bind, Sem.run_pure, Result.andThen_ok, run_underlying hu]
 rw [if_pos ⟨h0, hn⟩]
 simp [Sem.run_bind, run_sizeOf hi, Sem.run_pure, hs, den, addrOf]
theorem HDLOADK {fuel : Nat} {listed : Array Bool} {i : Nat} (kA : Option (Nat × Ass)) (hkA : KeyOk ops Ks i kA) (t : TypeId) (x : Operand) (d : Nat) (ty : TypeId) (ho : opAt ops T i = some (.load t x, some d, ty)) (hd : d < N) (a : Option Addr) (c off : Nat) (cs : List Value) (v : Value)
 (hx : evo T x = some (.e a c off)) (he : ∀ w, kAss C0 kA W w S0 → ElemAt w a c cs) (hv : loadOf P t cs off = some v)
 (hk : takeB ops listed Ks i = true) {js : List Nat} (hC : (pulls js C).map (·.1) = some (C0 ++ act listed Ks))
 (k : HD P N W S0 ops Q C0 Ks fuel (listed.setIfInBounds i true) ((d, .v v) :: T) L C) : HD P N W S0 ops Q C0 Ks (fuel + 1) listed T L C := by
 refine HDTAKE kA hkA _ _ _ ho (by rintro _ ⟨⟩; exact hd) (.v v) (by intro j off he; cases he) hk hC ?_ k
 intro ac o bs w hev hop _ hat
 have h1 : ac.eval x = .pointer (some ((addrOf a).add (c + off))) := hev x _ hx
 simp only [execOp, hop, h1, Instr.loadAt, Instr.sureAddr, Sem.run_bind, Sem.run_pure, Result.andThen_ok, (he w hat).load hv, den]
theorem HDLOADE {fuel : Nat} {listed : Array Bool} {i : Nat} (t : TypeId) (x : Operand) (d : Nat) (ty : TypeId) (ho : opAt ops T i = some (.load t x, some d, ty)) (hd : d < N) (a : Option Addr) (c off : Nat) (cs : List Value) (v : Value)
 (hx : evo T x = some (.e a c off)) (he : ∀ w, At W S0 C0 w → ElemAt w a c cs) (hv : loadOf P t cs off = some v)
 (hk : takeB ops listed Ks i = true) {js : List Nat} (hC : (pulls js C).map (·.1) = some (C0 ++ act listed Ks))
 (k : HD P N W S0 ops Q C0 Ks fuel (listed.setIfInBounds i true) ((d, .v v) :: T) L C) : HD P N W S0 ops Q C0 Ks (fuel + 1) listed T L C := HDLOADK none trivial t x d ty ho hd a c off cs v hx he hv hk hC k
theorem HDRUNV {fuel : Nat} {listed : Array Bool} {i : Nat} (op : Op) (d : Nat) (ty : TypeId) (ho : opAt ops T i = some (op, some d, ty)) (hd : d < N) (v : Value) (hrun : Runs P W S0 T C0 op ty v)
 (hk : takeB ops listed Ks i = true) {js : List Nat} (hC : (pulls js C).map (·.1) = some (C0 ++ act listed Ks))
 (k : HD P N W S0 ops Q C0 Ks fuel (listed.setIfInBounds i true) ((d, .v v) :: T) L C) : HD P N W S0 ops Q C0 Ks (fuel + 1) listed T L C :=
 HDTAKE none trivial op (some d) ty ho (by rintro _ ⟨⟩; exact hd) (.v v) (by intro j off he; cases he) hk hC hrun k
def HND (P : Program) (W : World) (S0 : List Nat) (ops : Array Oper) (Q : Exit → Go.Act → World → Prop) (C0 : List Ass) (Ks : Keys) (fuel : Nat) (listed : Array Bool) : Go.Act → World → Prop :=
 fun a w => At W S0 (C0 ++ act listed Ks) w ∧ wpAnyD P .any ops (nQ Q) (fun l w => At W S0 (C0 ++ act l Ks) w) fuel listed a w
theorem HDALL {fuel : Nat} {listed : Array Bool} (rs : List Nat) (hr : Region.ready .any ops listed = rs) (hne : rs ≠ [])
 (k : AllOf (fun i => OP P N W S0 ops (nQ Q) i (HND P W S0 ops Q C0 Ks fuel (listed.setIfInBounds i true)) T L C) rs) : HD P N W S0 ops Q C0 Ks (fuel + 1) listed T L C := fun a w h =>
 wpAnyD_all hr hne fun i hi => k.mem i hi a w h
theorem HDKEEP {fuel : Nat} {listed : Array Bool} {js : List Nat} (hC : (pulls js C).map (·.1) = some (C0 ++ act listed Ks)) (k : HD P N W S0 ops Q C0 Ks fuel listed T L C) : G N W S0 (HND P W S0 ops Q C0 Ks fuel listed) T L C := by
 intro a w h
 obtain ⟨bs, fps, ht, hb, hm⟩ := id h
 exact ⟨at_take hm.at_ hC, k a w h⟩
theorem HDEND {fuel : Nat} {listed : Array Bool} (hr : Region.ready .any ops listed = []) (k : DONE N W S0 Q .normal T L C) : HD P N W S0 ops Q C0 Ks fuel listed T L C := fun a w h =>
 wpAnyD_done (Q := nQ Q) hr (show nQ Q .normal a w from k a w h) fuel
theorem HDCUTL {fuel : Nat} {listed : Array Bool} {i : Nat} (t : TypeId) (x lo : Operand) (d : Nat) (ty : TypeId) (ho : opAt ops T i = some (.slice t x (some lo) none none, some d, ty)) (hd : d < N) (a : Option Addr) (n cap : Nat) (kl : IntKind) (l : Int)
 (hx : evv T x = some (.slice a n cap)) (hl : evv T lo = some (.int kl l)) (e : TypeId) {α : Type} (La : Lay α) (xs : List α) (hu : P.underlying t = some (.slice e)) (hs : (P.info? e).map (·.size) = some La.sz) (h0 : 0 ≤ l) (h1 : l ≤ n) (hn : n = xs.length) (hcap : n ≤ cap)
 (hk : takeB ops listed Ks i = true) {js : List Nat} (hC : (pulls js C).map (·.1) = some (C0 ++ act listed Ks))
 (k : ∀ a' : Option Addr, (∀ w, Rd La w a xs → Rd La w a' (xs.drop l.toNat)) → HD P N W S0 ops Q C0 Ks fuel (listed.setIfInBounds i true) ((d, .v (.slice a' (n - l.toNat) (cap - l.toNat))) :: T) L C) : HD P N W S0 ops Q C0 Ks (fuel + 1) listed T L C := by
 refine HDTAKE none trivial _ _ _ ho (by rintro _ ⟨⟩; exact hd) (.v (.slice (if cap = l.toNat then a else a.map (·.add (l.toNat * La.sz))) (n - l.toNat) (cap - l.toNat))) (by intro j off he; cases he) hk hC ?_ (k _ fun w h => h.drop (by omega) _ (by omega))
 intro ac o bs w hev hop _ _
 obtain ⟨inf, hi, hsz⟩ := Option.map_eq_some_iff.1 hs
 have hel : P.elem t = e := by unfold Program.elem; rw [hu]
 have hu' : P.underlying t = some (.slice (P.elem t)) := by rw [hel]; exact hu
 have e1 : ac.eval x = .slice a n cap := hev x _ (evo_of_evv hx)
 have e2 : ac.eval lo = .int kl l := hev lo _ (evo_of_evv hl)
 simp only [execOp, hop, e1, e2, Option.map_some, Option.map_none, Sem.run_bind, run_sliceAt_slice w t _ _ _ _ hu', run_slice_l w t a n cap hu' kl l h0 h1, hel, run_sizeOf hi, Result.andThen_ok, Sem.run_pure, hsz, sliced, den]
theorem HDCUTH {fuel : Nat} {listed : Array Bool} {i : Nat} (t : TypeId) (x hi : Operand) (d : Nat) (ty : TypeId) (ho : opAt ops T i = some (.slice t x none (some hi) none, some d, ty)) (hd : d < N) (a : Option Addr) (n cap : Nat) (kl : IntKind) (l : Int)
 (hx : evv T x = some (.slice a n cap)) (hl : evv T hi = some (.int kl l)) (e : TypeId) {α : Type} (La : Lay α) (xs : List α) (hu : P.underlying t = some (.slice e)) (hs : (P.info? e).map (·.size) = some La.sz) (h0 : 0 ≤ l) (h1 : l ≤ n) (hn : n = xs.length) (hcap : n ≤ cap)
 (hk : takeB ops listed Ks i = true) {js : List Nat} (hC : (pulls js C).map (·.1) = some (C0 ++ act listed Ks))
 (k : ∀ a' : Option Addr, (∀ w, Rd La w a xs → Rd La w a' (xs.take l.toNat)) → HD P N W S0 ops Q C0 Ks fuel (listed.setIfInBounds i true) ((d, .v (.slice a' l.toNat cap)) :: T) L C) : HD P N W S0 ops Q C0 Ks (fuel + 1) listed T L C := by
 have hz : a.map (·.add (0 * La.sz)) = a := by
  cases a with
  | none => rfl
  | some ad => simp only [Option.map_some, Nat.zero_mul]; congr 1
 refine HDTAKE none trivial _ _ _ ho (by rintro _ ⟨⟩; exact hd) (.v (.slice a l.toNat cap)) (by intro j off he; cases he) hk hC ?_ (k _ fun w h => h.take _)
 intro ac o bs w hev hop _ _
 obtain ⟨inf, hi, hsz⟩ := Option.map_eq_some_iff.1 hs
 have hel : P.elem t = e := by unfold Program.elem; rw [hu]
 have hu' : P.underlying t = some (.slice (P.elem t)) := by rw [hel]; exact hu
 have e1 : ac.eval x = .slice a n cap := hev x _ (evo_of_evv hx)
 have e2 := hev _ _ (evo_of_evv hl)
 simp only [den] at e2
 simp only [execOp, hop, e1, e2, Option.map_some, Option.map_none, Sem.run_bind, run_sliceAt_slice w t _ _ _ _ hu', run_slice_h w t a n cap hu' kl l h0 (by omega), hel, run_sizeOf hi, Result.andThen_ok, Sem.run_pure, hsz, sliced, hz, ite_self, Nat.sub_zero, den]
def KP (F : List Ass) (Ks : Keys) (Ls : List Nat) (la : Array Bool) (C : List Ass) : Prop := (∃ R, C = (F ++ actL Ls Ks) ++ R) ∧ keysOff Ls la Ks = true
theorem KP.mk {F : List Ass} {Ls : List Nat} {la : Array Bool} {C R : List Ass} (h : C = (F ++ actL Ls Ks) ++ R := by rfl) (hk : keysOff Ls la Ks = true := by kernel_rfl) : KP F Ks Ls la C := ⟨⟨R, h⟩, hk⟩
theorem KP.app {F : List Ass} {Ls : List Nat} {la : Array Bool} {C D : List Ass} (h : KP F Ks Ls la C) : KP F Ks Ls la (C ++ D) := by
 obtain ⟨⟨R, rfl⟩, h2⟩ := h
 exact ⟨⟨R ++ D, by rw [List.append_assoc]⟩, h2⟩
theorem keep_zeros' (C R : List Ass) : ∃ js, (pulls js (C ++ R)).map (·.1) = some C := by
 have : ∀ C : List Ass, ∃ js, pulls js (C ++ R) = some (C, R) := by
  intro C
  induction C with
  | nil => exact ⟨[], rfl⟩
  | cons A C ih =>
    obtain ⟨js, h⟩ := ih
    exact ⟨0 :: js, by simp [pulls, pull, h]⟩
 obtain ⟨js, h⟩ := this C
 exact ⟨js, by rw [h]; rfl⟩
theorem KP.pulls {F : List Ass} {Ls : List Nat} {la : Array Bool} {C : List Ass} (h : KP F Ks Ls la C) : ∃ js, (SX.pulls js C).map (·.1) = some (F ++ act la Ks) := by
 obtain ⟨⟨R, rfl⟩, h2⟩ := h
 rw [act_eq h2]
 exact keep_zeros' _ _
end rules
def depsB : List Edge → List Nat → Bool
 | [], _ => true
 | e :: es, Ls => match e.ground with
   | .textOnly _ => depsB es Ls
   | .gcOnly _ => depsB es Ls
   | _ => match memN Ls e.on with
     | true => depsB es Ls
     | false => false
inductive Hx where
 | run (is : List Nat) (Ls : List Nat) (T : Tm)
 | ask (d : Nat)
 | op (i : Nat) (o : Op) (d : Option Nat) (ty : TypeId)
 | loud (rs : List Nat)
def stillB : Op → Bool
 | .store _ _ _ | .box _ _ | .alloc _ | .load _ _ => false
 | _ => true
def hPass (D : OTab) (ops : List Oper) (Kn : List (Nat × Nat)) : List Oper → Nat → List Nat → List Nat → Tm → (List Nat → List Nat → Tm → Option Hx) → Option Hx
 | [], _, is, Ls, T, k => k is Ls T
 | o :: os, i, is, Ls, T, k => match memN Ls i, depsB o.after.toList Ls with
   | false, true => wantC ops Kn o
     (fun _ => match (match stillB o.op with
       | true => orc1 D T [] o.op (fun s L' => putK o.dst s T (fun T' => hPass D ops Kn os (i + 1) (i :: is) (i :: Ls) T' k)) (fun kd e => putK o.dst (.v (.int kd (IntKind.wrap kd e))) T (fun T' => hPass D ops Kn os (i + 1) (i :: is) (i :: Ls) T' k))
       | false => none) with
       | some x => some x
       | none => hPass D ops Kn os (i + 1) is Ls T k)
     (fun _ => putK o.dst (.v undef) T (fun T' => hPass D ops Kn os (i + 1) (i :: is) (i :: Ls) T' k))
     (fun _ => hPass D ops Kn os (i + 1) is Ls T k)
   | _, _ => hPass D ops Kn os (i + 1) is Ls T k
def hLook (T : Tm) (ops : List Oper) (Kn : List (Nat × Nat)) (Ls : List Nat) : List Oper → Nat → (List Nat → Option Hx) → Option Hx
 | [], _, k => k []
 | ⟨dst, op, ty, pos, after, guard⟩ :: os, i, k => match memN Ls i, depsB after.toList Ls with
   | false, true => wantC ops Kn ⟨dst, op, ty, pos, after, guard⟩
     (fun _ => match op with
       | .load _ x => match evo T x with
         | some (.e _ _ _) => some (.op i op dst ty)
         | _ => hLook T ops Kn Ls os (i + 1) (fun l => k (i :: l))
       | .indexAddr _ _ _ | .slice _ _ _ _ _ | .binOp _ _ _ _ _ | .index _ _ _ | .convert _ _ _ => some (.op i op dst ty)
       | _ => hLook T ops Kn Ls os (i + 1) (fun l => k (i :: l)))
     (fun _ => hLook T ops Kn Ls os (i + 1) k)
     (fun d => some (.ask d))
   | _, _ => hLook T ops Kn Ls os (i + 1) k
def revC {R : Type} : List Nat → List Nat → (List Nat → R) → R
 | [], acc, k => k acc
 | x :: r, acc, k => revC r (x :: acc) k
def hnx (D : OTab) (ops : Array Oper) (Kn : List (Nat × Nat)) (Ls : List Nat) (T : Tm) : Option Hx :=
 hPass D ops.toList Kn ops.toList 0 [] Ls T (fun is Ls' T' => match is with
  | [] => hLook T ops.toList Kn Ls ops.toList 0 (fun l => some (.loud l))
  | i :: r => revC (i :: r) [] (fun is => some (.run is Ls' T')))
def emp : List Value → Bool
 | [] => true
 | _ :: _ => false
def frz : List Nat → Bx → List Ass
 | b :: bs, (t, cs) :: L => match emp cs with
   | false => ptC b t cs :: frz bs L
   | true => frz bs L
 | _, _ => []
def hRun (P : Program) (N : Nat) (ops : Array Oper) (L : Bx) (Ks : Keys) : List Nat → Nat → Array Bool → Tm → Option (Nat × Array Bool × Tm)
 | [], f, la, T => some (f, la, T)
 | _ :: _, 0, _, _ => none
 | i :: is, f + 1, la, T => if takeB ops la Ks i = true then
     match ops[i]? with
     | some o => match wants ops T o with
       | some true => if stillOp o.op = true then (match go1 P N T L o with
         | some (T', _) => hRun P N ops L Ks is f (la.setIfInBounds i true) T'
         | none => none) else none
       | some false => match put N T o.dst (.v undef) with
         | some T' => hRun P N ops L Ks is f (la.setIfInBounds i true) T'
         | none => none
       | none => none
     | none => none
   else none
def pArgs {R : Type} (T : Tm) : List Operand → (List Nat → Option R) → Option R
 | [], k => k []
 | x :: xs, k => match evo T x with
   | some (.p i _) => pArgs T xs (fun l => k (i :: l))
   | _ => pArgs T xs k
def wkB {R : Type} (D : OTab) : List Oper → Nat → Tm → (List (Nat × Nat) → Option R) → Option R
 | [], _, _, k => k []
 | o :: os, n, T, k => match o.op with
   | .store _ x _ => match evo T x with
     | some (.p i _) => wkB D os (n + 1) T (fun l => k ((n, i) :: l))
     | _ => wkB D os (n + 1) T k
   | .fieldAddr _ _ _ | .move _ | .nilCheck _ | .assign _ => match orc1 D T [] o.op (fun s _ => putK o.dst s T (fun T' => wkB D os (n + 1) T' k)) (fun _ _ => none) with
     | some x => some x
     | none => wkB D os (n + 1) T k
   | .call c => pArgs T c.args.toList (fun l => match l with
     | [] => wkB D os (n + 1) T k
     | i :: _ => wkB D os (n + 1) T (fun l => k ((n, i) :: (n, i) :: l)))
   | _ => wkB D os (n + 1) T k
def wcnt (i : Nat) : List (Nat × Nat) → Nat
 | [] => 0
 | (_, j) :: r => match Nat.beq i j with
   | true => wcnt i r + 1
   | false => wcnt i r
def isOne : Nat → Bool
 | 1 => true
 | _ => false
def isNil : Nat → Bool
 | 0 => true
 | _ => false
def bkC {R : Type} (ws : List (Nat × Nat)) : Nat → Bx → (Bx → Option R) → Option R
 | _, [], k => k []
 | i, (t, cs) :: L, k => match isNil (wcnt i ws) with
   | false => bkC ws (i + 1) L (fun l => k ((t, []) :: l))
   | true => bkC ws (i + 1) L (fun l => k ((t, cs) :: l))
def kyC {R : Type} (bs : List Nat) (L : Bx) (ws0 : List (Nat × Nat)) : List (Nat × Nat) → (Keys → Option R) → Option R
 | [], k => k []
 | (n, i) :: ws, k => match isOne (wcnt i ws0), nth bs i, nth L i with
   | true, some b, some (t, cs) => kyC bs L ws0 ws (fun l => k ((n, ptC b t cs) :: l))
   | _, _, _ => kyC bs L ws0 ws k
def seA {R : Type} (ws : List (Nat × Nat)) : Nat → Nat → (List Nat → Option R) → Option R
 | 0, _, k => k []
 | n + 1, i, k => match isNil (wcnt i ws) with
   | true => seA ws n (i + 1) (fun l => k (i :: l))
   | false => seA ws n (i + 1) k
def seB {R : Type} (ws0 : List (Nat × Nat)) : List (Nat × Nat) → (List Nat → Option R) → Option R
 | [], k => k []
 | (_, i) :: ws, k => match isOne (wcnt i ws0) with
   | true => seB ws0 ws (fun l => k (i :: l))
   | false => seB ws0 ws k
def seD {R : Type} (ws : List (Nat × Nat)) : Nat → Nat → (List Nat → Option R) → Option R
 | 0, _, k => k []
 | n + 1, i, k => match isNil (wcnt i ws), isOne (wcnt i ws) with
   | false, false => seD ws n (i + 1) (fun l => k (i :: l))
   | _, _ => seD ws n (i + 1) k
def cpN {R : Type} : List Nat → (List Nat → Option R) → Option R
 | [], k => k []
 | x :: r, k => cpN r (fun l => k (x :: l))
def apC {R : Type} : List Nat → List Nat → (List Nat → Option R) → Option R
 | [], l, k => cpN l k
 | x :: xs, l, k => apC xs l (fun l => k (x :: l))
def seC {R : Type} (ws : List (Nat × Nat)) (n : Nat) (k : List Nat → Option R) : Option R :=
 seA ws n 0 (fun a => seB ws ws (fun b => seD ws n 0 (fun d => apC b d (fun bd => apC a bd k))))
def pickA (bs : List Nat) (L : Bx) (i : Nat) : List Ass :=
 match nth bs i, nth L i with
 | some b, some (t, cs) => [ptC b t cs]
 | _, _ => []
def selC (C : List Ass) (bs : List Nat) (L : Bx) : List Nat → (List Ass → Option (List Ass)) → Option (List Ass)
 | [], k => k C
 | i :: r, k => match nth bs i, nth L i with
   | some b, some (t, cs) => selC C bs L r (fun l => k (ptC b t cs :: l))
   | _, _ => selC C bs L r k
theorem selC_eq (C : List Ass) (bs : List Nat) (L : Bx) : ∀ (sel : List Nat) (k : List Ass → Option (List Ass)), selC C bs L sel k = k (sel.flatMap (pickA bs L) ++ C)
 | [], k => rfl
 | i :: r, k => by
   simp only [selC, List.flatMap_cons, pickA]
   cases h1 : nth bs i <;> cases h2 : nth L i <;> simp [selC_eq C bs L r]
theorem expC_pick : ∀ (bs : List Nat) (L : Bx), bs.length = L.length → expC bs L = (List.range L.length).flatMap (pickA bs L)
 | [], [], _ => rfl
 | b :: bs, (t, cs) :: L, h => by
   have ih := expC_pick bs L (by simpa using h)
   rw [List.length_cons, List.range_succ_eq_map, List.flatMap_cons, List.flatMap_map]
   simp only [expC, pickA, nth, List.singleton_append]
   rw [ih]
   rfl
theorem nk0 {A : Nat × Ass} {C : Keys} : (A :: C)[0]? = some A := rfl
theorem nkS {A B : Nat × Ass} {C : Keys} {j : Nat} (h : C[j]? = some A) : (B :: C)[j + 1]? = some A := h
theorem NTK {C : Keys} {A : Nat × Ass} {j : Nat} (h : C[j]? = some A := by first | exact nk0 | (apply nkS; first | exact nk0 | (apply nkS; first | exact nk0 | (apply nkS; first | exact nk0 | (apply nkS; first | exact nk0 | (apply nkS; exact nk0)))))) : C[j]? = some A := h
section rules
variable {X : List Nat} {P : Program} {N : Nat} {W : World} {S0 : List Nat} {Q : Exit → Go.Act → World → Prop} {T : Tm} {L : Bx} {C C0 : List Ass} {ops : Array Oper} {Kn : List (Nat × Nat)} {i : Nat}
theorem hRun_ok {Ks : Keys} : ∀ (is : List Nat) {f f' : Nat} {la la' : Array Bool} {T T' : Tm}, hRun P N ops L Ks is f la T = some (f', la', T') → (∃ js, (pulls js C).map (·.1) = some (C0 ++ act la Ks)) → HD P N W S0 ops Q C0 Ks f' la' T' L C → HD P N W S0 ops Q C0 Ks f la T L C
 | [], f, f', la, la', T, T', h, hC, k => by
   simp only [hRun, Option.some.injEq, Prod.mk.injEq] at h
   obtain ⟨rfl, rfl, rfl⟩ := h
   exact k
 | _ :: _, 0, _, _, _, _, _, h, _, _ => by simp [hRun] at h
 | i :: is, f + 1, f', la, la', T, T', h, hC, k => by
   simp only [hRun] at h
   split at h
   · rename_i hk
     have hC2 : ∃ js, (pulls js C).map (·.1) = some (C0 ++ act (la.setIfInBounds i true) Ks) := by
      simp only [takeB, Bool.and_eq_true] at hk
      rw [act_set fun p hp he => by
       have := List.all_eq_true.1 hk.2 p hp
       simp [he] at this]
      exact hC
     obtain ⟨js, hC⟩ := hC
     split at h
     · rename_i o hi
       split at h
       · rename_i hw
         split at h
         · rename_i hq
           split at h
           · rename_i T1 L1 h1
             exact HDPURE hi hw hq h1 hk hC (hRun_ok is h hC2 k)
           · cases h
         · cases h
       · rename_i hw
         split at h
         · rename_i T1 hput
           refine HDSKIP (i := i) T1 ?_ hk hC (hRun_ok is h hC2 k)
           simp [hi, hw, hput]
         · cases h
       · cases h
     · cases h
   · cases h
def HL (X : List Nat) (P : Program) (N : Nat) (W : World) (S0 : List Nat) (ops : Array Oper) (Q : Exit → Go.Act → World → Prop) (bs : List Nat) (L0 : Bx) (Ks : Keys) (T0 : Tm) (f : Nat) (Ls : List Nat) (la : Array Bool) (Kn : List (Nat × Nat)) (T : Tm) (L : Bx) (C : List Ass) : Prop :=
 HD P N W S0 ops Q (frz bs L0) Ks f la T L C
def HT (x : Hx) (X : List Nat) (P : Program) (N : Nat) (W : World) (S0 : List Nat) (ops : Array Oper) (Q : Exit → Go.Act → World → Prop) (bs : List Nat) (L0 : Bx) (Ks : Keys) (T0 : Tm) (f : Nat) (Ls : List Nat) (la : Array Bool) (Kn : List (Nat × Nat)) (T : Tm) (L : Bx) (C : List Ass) : Prop :=
 HL X P N W S0 ops Q bs L0 Ks T0 f Ls la Kn T L C
def HO (x : Nx) (i : Nat) (X : List Nat) (P : Program) (N : Nat) (W : World) (S0 : List Nat) (ops : Array Oper) (Q : Exit → Go.Act → World → Prop) (bs : List Nat) (L0 : Bx) (Ks : Keys) (T0 : Tm) (f : Nat) (Ls : List Nat) (la : Array Bool) (Kn : List (Nat × Nat)) (T : Tm) (L : Bx) (C : List Ass) : Prop :=
 OP P N W S0 ops (nQ Q) i (HND P W S0 ops Q (frz bs L0) Ks f (la.setIfInBounds i true)) T L C
variable {bs : List Nat} {L0 : Bx} {Ks : Keys} {T0 : Tm} {f : Nat} {Ls : List Nat} {la : Array Bool}
def expTC {R : Type} (bs : List Nat) : Tm → (Tm → Option R) → Option R
 | [], k => k []
 | (d, s) :: T, k => match s with
   | .p i off => match nth bs i with
     | some b => expTC bs T (fun l => k ((d, .e (some ⟨b, 0, none⟩) 0 off) :: l))
     | none => none
   | s => expTC bs T (fun l => k ((d, s) :: l))
theorem zer {R : List Ass} (hC : C = C0 ++ R) : (pulls (zeros C0) C).map (·.1) = some C0 := by rw [hC, pulls_zeros]; rfl
theorem gRH0 {id n : Nat} (k : HL X P N W S0 ops Q [] [] [] T n [] (Array.replicate n false) [] T [] C) (hn : ops.size = n := by rfl) (hm : P.follows .mixedOrders = true := by kernel_rfl) : CD X P N W S0 (.region id ops true) Q T [] C := REGIONH hm n hn [] (H_of_HD k)
def permB (sel : List Nat) (n : Nat) : Bool := sel.isPerm (List.range n)
theorem gRHw {id n : Nat} {sel : List Nat} {L : Bx} (k : ∀ bs : List Nat, bs.length = L.length → ∃ CC T1 L0 Ks, selC C bs L sel some = some CC ∧ expT bs T = T1 ∧ HL X P N W S0 ops Q bs L0 Ks T n [] (Array.replicate n false) [] T1 [] CC) (hp : permB sel L.length = true) (hn : ops.size = n) (hm : P.follows .mixedOrders = true) : CD X P N W S0 (.region id ops true) Q T L C := by
 intro a w h
 subst hn
 refine wp_region_any hm (wpAny_nQ _ _ _ _ ?_)
 refine EXPORT (K := fun a w => wpAny P .any ops (nQ Q) ops.size (Array.replicate ops.size false) a w) (fun bs hb => ?_) a _ h.drew_
 intro a w h
 obtain ⟨CC, T1, L0, Ks, h1, h2, h3⟩ := k bs hb
 rw [selC_eq, Option.some.injEq] at h1
 subst h1 h2
 have hperm : (expC bs L).Perm (sel.flatMap (pickA bs L)) := by
  rw [expC_pick bs L hb]
  exact (List.isPerm_iff.1 hp).symm.flatMap_right _
 have h4 := h.turn (T1 := expT bs T) (L1 := []) (C1 := sel.flatMap (pickA bs L) ++ C) (fun _ => rfl) (fun h => h) rfl (hperm.append_right C)
 exact wpAny_of_D _ _ _ _ (h3 a w h4)
theorem gRH1 [TB P] {id n : Nat} {x1 : TypeId × List Value} {ws : List (Nat × Nat)} {sel : List Nat} {L0 : Bx} {T1 : Nat → Tm} {Ks : Nat → Keys} {CC : Nat → List Ass} (hw : wkB (TB.D P) ops.toList 0 T some = some ws := by conv => lhs; whnf) (hL : bkC ws 0 [x1] some = some L0 := by conv => lhs; whnf) (hs : seC ws 1 some = some sel := by conv => lhs; whnf) (hT : ∀ b, expTC [b] T some = some (T1 b) := by intro b; conv => lhs; whnf)
 (hK : ∀ b, kyC [b] [x1] ws ws some = some (Ks b) := by intro b; conv => lhs; whnf) (hC : ∀ b, selC C [b] [x1] sel some = some (CC b) := by intro b; conv => lhs; whnf) (k : ∀ b, HL X P N W S0 ops Q [b] L0 (Ks b) T n [] (Array.replicate n false) [] (T1 b) [] (CC b)) (hn : ops.size = n := by rfl) (hp : permB sel 1 = true := by kernel_rfl) (hT1 : ∀ b, expT [b] T = T1 b := by intro b; kernel_rfl) (hm : P.follows .mixedOrders = true := by kernel_rfl) :
 CD X P N W S0 (.region id ops true) Q T [x1] C := gRHw (sel := sel) (fun bs hb => by
 obtain ⟨b, rfl⟩ := len1 hb
 exact ⟨_, _, _, _, hC b, hT1 b, k b⟩) hp hn hm
theorem gRH2 [TB P] {id n : Nat} {x1 x2 : TypeId × List Value} {ws : List (Nat × Nat)} {sel : List Nat} {L0 : Bx} {T1 : Nat → Nat → Tm} {Ks : Nat → Nat → Keys} {CC : Nat → Nat → List Ass} (hw : wkB (TB.D P) ops.toList 0 T some = some ws := by conv => lhs; whnf) (hL : bkC ws 0 [x1, x2] some = some L0 := by conv => lhs; whnf) (hs : seC ws 2 some = some sel := by conv => lhs; whnf) (hT : ∀ b c, expTC [b, c] T some = some (T1 b c) := by intro b c; conv => lhs; whnf)
 (hK : ∀ b c, kyC [b, c] [x1, x2] ws ws some = some (Ks b c) := by intro b c; conv => lhs; whnf) (hC : ∀ b c, selC C [b, c] [x1, x2] sel some = some (CC b c) := by intro b c; conv => lhs; whnf) (k : ∀ b c, HL X P N W S0 ops Q [b, c] L0 (Ks b c) T n [] (Array.replicate n false) [] (T1 b c) [] (CC b c)) (hn : ops.size = n := by rfl) (hp : permB sel 2 = true := by kernel_rfl) (hT1 : ∀ b c, expT [b, c] T = T1 b c := by intro b c; kernel_rfl) (hm : P.follows .mixedOrders = true := by kernel_rfl) :
 CD X P N W S0 (.region id ops true) Q T [x1, x2] C := gRHw (sel := sel) (fun bs hb => by
 obtain ⟨b, c, rfl⟩ := len2 hb
 exact ⟨_, _, _, _, hC b c, hT1 b c, k b c⟩) hp hn hm
theorem gRH3 [TB P] {id n : Nat} {x1 x2 x3 : TypeId × List Value} {ws : List (Nat × Nat)} {sel : List Nat} {L0 : Bx} {T1 : Nat → Nat → Nat → Tm} {Ks : Nat → Nat → Nat → Keys} {CC : Nat → Nat → Nat → List Ass} (hw : wkB (TB.D P) ops.toList 0 T some = some ws := by conv => lhs; whnf) (hL : bkC ws 0 [x1, x2, x3] some = some L0 := by conv => lhs; whnf) (hs : seC ws 3 some = some sel := by conv => lhs; whnf) (hT : ∀ b c d, expTC [b, c, d] T some = some (T1 b c d) := by intro b c d; conv => lhs; whnf)
 (hK : ∀ b c d, kyC [b, c, d] [x1, x2, x3] ws ws some = some (Ks b c d) := by intro b c d; conv => lhs; whnf) (hC : ∀ b c d, selC C [b, c, d] [x1, x2, x3] sel some = some (CC b c d) := by intro b c d; conv => lhs; whnf) (k : ∀ b c d, HL X P N W S0 ops Q [b, c, d] L0 (Ks b c d) T n [] (Array.replicate n false) [] (T1 b c d) [] (CC b c d)) (hn : ops.size = n := by rfl) (hp : permB sel 3 = true := by kernel_rfl) (hT1 : ∀ b c d, expT [b, c, d] T = T1 b c d := by intro b c d; kernel_rfl) (hm : P.follows .mixedOrders = true := by kernel_rfl) :
 CD X P N W S0 (.region id ops true) Q T [x1, x2, x3] C := gRHw (sel := sel) (fun bs hb => by
 obtain ⟨b, c, d, rfl⟩ := len3 hb
 exact ⟨_, _, _, _, hC b c d, hT1 b c d, k b c d⟩) hp hn hm
theorem gRH4 [TB P] {id n : Nat} {x1 x2 x3 x4 : TypeId × List Value} {ws : List (Nat × Nat)} {sel : List Nat} {L0 : Bx} {T1 : Nat → Nat → Nat → Nat → Tm} {Ks : Nat → Nat → Nat → Nat → Keys} {CC : Nat → Nat → Nat → Nat → List Ass} (hw : wkB (TB.D P) ops.toList 0 T some = some ws := by conv => lhs; whnf) (hL : bkC ws 0 [x1, x2, x3, x4] some = some L0 := by conv => lhs; whnf) (hs : seC ws 4 some = some sel := by conv => lhs; whnf) (hT : ∀ b c d e, expTC [b, c, d, e] T some = some (T1 b c d e) := by intro b c d e; conv => lhs; whnf)
 (hK : ∀ b c d e, kyC [b, c, d, e] [x1, x2, x3, x4] ws ws some = some (Ks b c d e) := by intro b c d e; conv => lhs; whnf) (hC : ∀ b c d e, selC C [b, c, d, e] [x1, x2, x3, x4] sel some = some (CC b c d e) := by intro b c d e; conv => lhs; whnf) (k : ∀ b c d e, HL X P N W S0 ops Q [b, c, d, e] L0 (Ks b c d e) T n [] (Array.replicate n false) [] (T1 b c d e) [] (CC b c d e)) (hn : ops.size = n := by rfl) (hp : permB sel 4 = true := by kernel_rfl) (hT1 : ∀ b c d e, expT [b, c, d, e] T = T1 b c d e := by intro b c d e; kernel_rfl) (hm : P.follows .mixedOrders = true := by kernel_rfl) :
 CD X P N W S0 (.region id ops true) Q T [x1, x2, x3, x4] C := gRHw (sel := sel) (fun bs hb => by
 obtain ⟨b, c, d, e, rfl⟩ := len4 hb
 exact ⟨_, _, _, _, hC b c d e, hT1 b c d e, k b c d e⟩) hp hn hm
theorem gRH5 [TB P] {id n : Nat} {x1 x2 x3 x4 x5 : TypeId × List Value} {ws : List (Nat × Nat)} {sel : List Nat} {L0 : Bx} {T1 : Nat → Nat → Nat → Nat → Nat → Tm} {Ks : Nat → Nat → Nat → Nat → Nat → Keys} {CC : Nat → Nat → Nat → Nat → Nat → List Ass} (hw : wkB (TB.D P) ops.toList 0 T some = some ws := by conv => lhs; whnf) (hL : bkC ws 0 [x1, x2, x3, x4, x5] some = some L0 := by conv => lhs; whnf) (hs : seC ws 5 some = some sel := by conv => lhs; whnf) (hT : ∀ b c d e g, expTC [b, c, d, e, g] T some = some (T1 b c d e g) := by intro b c d e g; conv => lhs; whnf)
 (hK : ∀ b c d e g, kyC [b, c, d, e, g] [x1, x2, x3, x4, x5] ws ws some = some (Ks b c d e g) := by intro b c d e g; conv => lhs; whnf) (hC : ∀ b c d e g, selC C [b, c, d, e, g] [x1, x2, x3, x4, x5] sel some = some (CC b c d e g) := by intro b c d e g; conv => lhs; whnf) (k : ∀ b c d e g, HL X P N W S0 ops Q [b, c, d, e, g] L0 (Ks b c d e g) T n [] (Array.replicate n false) [] (T1 b c d e g) [] (CC b c d e g)) (hn : ops.size = n := by rfl) (hp : permB sel 5 = true := by kernel_rfl) (hT1 : ∀ b c d e g, expT [b, c, d, e, g] T = T1 b c d e g := by intro b c d e g; kernel_rfl) (hm : P.follows .mixedOrders = true := by kernel_rfl) :
 CD X P N W S0 (.region id ops true) Q T [x1, x2, x3, x4, x5] C := gRHw (sel := sel) (fun bs hb => by
 obtain ⟨b, c, d, e, g, rfl⟩ := len5 hb
 exact ⟨_, _, _, _, hC b c d e g, hT1 b c d e g, k b c d e g⟩) hp hn hm
theorem gRH6 [TB P] {id n : Nat} {x1 x2 x3 x4 x5 x6 : TypeId × List Value} {ws : List (Nat × Nat)} {sel : List Nat} {L0 : Bx} {T1 : Nat → Nat → Nat → Nat → Nat → Nat → Tm} {Ks : Nat → Nat → Nat → Nat → Nat → Nat → Keys} {CC : Nat → Nat → Nat → Nat → Nat → Nat → List Ass} (hw : wkB (TB.D P) ops.toList 0 T some = some ws := by conv => lhs; whnf) (hL : bkC ws 0 [x1, x2, x3, x4, x5, x6] some = some L0 := by conv => lhs; whnf) (hs : seC ws 6 some = some sel := by conv => lhs; whnf) (hT : ∀ b c d e g h, expTC [b, c, d, e, g, h] T some = some (T1 b c d e g h) := by intro b c d e g h; conv => lhs; whnf)
 (hK : ∀ b c d e g h, kyC [b, c, d, e, g, h] [x1, x2, x3, x4, x5, x6] ws ws some = some (Ks b c d e g h) := by intro b c d e g h; conv => lhs; whnf) (hC : ∀ b c d e g h, selC C [b, c, d, e, g, h] [x1, x2, x3, x4, x5, x6] sel some = some (CC b c d e g h) := by intro b c d e g h; conv => lhs; whnf) (k : ∀ b c d e g h, HL X P N W S0 ops Q [b, c, d, e, g, h] L0 (Ks b c d e g h) T n [] (Array.replicate n false) [] (T1 b c d e g h) [] (CC b c d e g h)) (hn : ops.size = n := by rfl) (hp : permB sel 6 = true := by kernel_rfl) (hT1 : ∀ b c d e g h, expT [b, c, d, e, g, h] T = T1 b c d e g h := by intro b c d e g h; kernel_rfl) (hm : P.follows .mixedOrders = true := by kernel_rfl) :
 CD X P N W S0 (.region id ops true) Q T [x1, x2, x3, x4, x5, x6] C := gRHw (sel := sel) (fun bs hb => by
 obtain ⟨b, c, d, e, g, h, rfl⟩ := len6 hb
 exact ⟨_, _, _, _, hC b c d e g h, hT1 b c d e g h, k b c d e g h⟩) hp hn hm
theorem hNXT [TB P] {x : Hx} (h : hnx (TB.D P) ops Kn Ls T = some x := by conv => lhs; whnf) (k : HT x X P N W S0 ops Q bs L0 Ks T0 f Ls la Kn T L C) : HL X P N W S0 ops Q bs L0 Ks T0 f Ls la Kn T L C := k
theorem hRUN {is Ls' : List Nat} {T' : Tm} {f' : Nat}  (k : HL X P N W S0 ops Q bs L0 Ks T0 f' Ls' (is.foldl (fun la i => la.setIfInBounds i true) la) Kn T' L C) (hf : f = f' + is.length := by rfl) (hC : KP (frz bs L0) Ks Ls la C := by exact KP.mk) (h : hRun P N ops L Ks is f la T = some (f', is.foldl (fun la i => la.setIfInBounds i true) la, T') := by kernel_rfl) : HT (.run is Ls' T') X P N W S0 ops Q bs L0 Ks T0 f Ls la Kn T L C :=
 hRun_ok is h hC.pulls k
theorem hASK {d : Nat} {b : Bool} (k : CND b (HL X P N W S0 ops Q bs L0 Ks T0 f Ls la ((d, 1) :: Kn) ((d, .v (.bool true)) :: T) L C) (HL X P N W S0 ops Q bs L0 Ks T0 f Ls la ((d, 0) :: Kn) ((d, .v (.bool false)) :: T) L C))
 (h : lk T d = some (.v (.bool b)) := by conv => lhs; whnf) : HT (.ask d) X P N W S0 ops Q bs L0 Ks T0 f Ls la Kn T L C := SPLIT b h k.1 k.2
theorem hASKU {d : Nat} (k : HL X P N W S0 ops Q bs L0 Ks T0 f Ls la ((d, 2) :: Kn) T L C) (h : lk T d = some (.v undef) := by conv => lhs; whnf) : HT (.ask d) X P N W S0 ops Q bs L0 Ks T0 f Ls la Kn T L C := k
theorem hIX {t : TypeId} {x ix : Operand} {d : Nat} {ty : TypeId} {a : Option Addr} {n cap : Nat} {kd : IntKind} {z e sz : Nat}  [TB P]
 (hix : evv T ix = some (.int kd (z : Int)) := by conv => lhs; whnf) (hx : evv T x = some (.slice a n cap) := by conv => lhs; whnf) (ho : lkn (TB.D P).row t = some (e, sz) := by conv => lhs; whnf) (ha : a.isSome = true) (hn : z < n)
 (k : HL X P N W S0 ops Q bs L0 Ks T0 f (i :: Ls) (la.setIfInBounds i true) Kn ((d, .e a (z * sz) 0) :: T) L C) (hC : KP (frz bs L0) Ks Ls la C := by exact KP.mk)
 (hk : takeB ops la Ks i = true := by kernel_rfl) (hoa : opAt ops T i = some (.indexAddr t x ix, some d, ty) := by kernel_rfl) (hd : d < N := by exact NL rfl) (hu : P.underlying t = some (.slice e) := by kernel_rfl) (hsz : (P.info? e).map (·.size) = some sz := by kernel_rfl) :
 HT (.op i (.indexAddr t x ix) (some d) ty) X P N W S0 ops Q bs L0 Ks T0 (f + 1) Ls la Kn T L C := hC.pulls.elim fun _ h9 => HDINDEX t x ix d ty hoa hd a n cap kd z e sz hx hix hu hsz ha (by omega) (by omega) hk h9 k
theorem hLF {t : TypeId} {x : Operand} {d : Nat} {ty : TypeId} {a : Option Addr} {j sz off : Nat} {α : Type} {enc : α → List Value} {hh : ∀ x, (enc x).length = sz ∧ ∀ u ∈ enc x, isCell u = true} {xs : List α} {v : Value}  [TB P]
 (hx : evo T x = some (.e a (j * sz) off) := by conv => lhs; whnf) (hr : Rd (flat sz enc hh) W a xs) (hj : j < xs.length) (hv : ldB (TB.D P) t (enc xs[j]) off some = some v := by conv => lhs; whnf)
 (k : HL X P N W [] ops Q bs L0 Ks T0 f (i :: Ls) (la.setIfInBounds i true) Kn ((d, .v v) :: T) L C) (hC : KP (frz bs L0) Ks Ls la C := by exact KP.mk)
 (hk : takeB ops la Ks i = true := by kernel_rfl) (ho : opAt ops T i = some (.load t x, some d, ty) := by kernel_rfl) (hd : d < N := by exact NL rfl) (hl : loadOf P t (enc xs[j]) off = some v := by kernel_rfl) :
 HT (.op i (.load t x) (some d) ty) X P N W [] ops Q bs L0 Ks T0 (f + 1) Ls la Kn T L C := hC.pulls.elim fun _ h9 => HDLOADE t x d ty ho hd a (j * sz) off (enc xs[j]) v hx (fun w hw => Rd.flat (Rd.fr hr hw.fr) (List.getElem?_eq_getElem hj)) hl hk h9 k
theorem hLB {t : TypeId} {x : Operand} {d b bt : Nat} {ty : TypeId} {j off : Nat} {cs : List Value} {v : Value}  [TB P]
 (hx : evo T x = some (.e (some ⟨b, 0, none⟩) 0 off) := by conv => lhs; whnf) (hB : (frz bs L0)[j]? = some (ptC b bt cs) := by exact NT) (hv : ldB (TB.D P) t cs off some = some v := by conv => lhs; whnf)
 (k : HL X P N W S0 ops Q bs L0 Ks T0 f (i :: Ls) (la.setIfInBounds i true) Kn ((d, .v v) :: T) L C) (hC : KP (frz bs L0) Ks Ls la C := by exact KP.mk)
 (hk : takeB ops la Ks i = true := by kernel_rfl) (ho : opAt ops T i = some (.load t x, some d, ty) := by kernel_rfl) (hd : d < N := by exact NL rfl) (hl : loadOf P t cs off = some v := by kernel_rfl) :
 HT (.op i (.load t x) (some d) ty) X P N W S0 ops Q bs L0 Ks T0 (f + 1) Ls la Kn T L C := hC.pulls.elim fun _ h9 => HDLOADE t x d ty ho hd (some ⟨b, 0, none⟩) 0 off cs v hx (fun w hw => ptC_elem (hw.own j hB)) hl hk h9 k
theorem hLK {t : TypeId} {x : Operand} {d b bt kk : Nat} {ty : TypeId} {j off : Nat} {cs : List Value} {v : Value} [TB P]
 (hx : evo T x = some (.e (some ⟨b, 0, none⟩) 0 off) := by conv => lhs; whnf) (hB : Ks[j]? = some (kk, ptC b bt cs) := by exact NTK) (hv : ldB (TB.D P) t cs off some = some v := by conv => lhs; whnf)
 (k : HL X P N W S0 ops Q bs L0 Ks T0 f (i :: Ls) (la.setIfInBounds i true) Kn ((d, .v v) :: T) L C) (hw : waitsB .any ops i ops.size kk = true := by kernel_rfl) (hC : KP (frz bs L0) Ks Ls la C := by exact KP.mk)
 (hk : takeB ops la Ks i = true := by kernel_rfl) (ho : opAt ops T i = some (.load t x, some d, ty) := by kernel_rfl) (hd : d < N := by exact NL rfl) (hl : loadOf P t cs off = some v := by kernel_rfl) :
 HT (.op i (.load t x) (some d) ty) X P N W S0 ops Q bs L0 Ks T0 (f + 1) Ls la Kn T L C := hC.pulls.elim fun _ h9 => HDLOADK (some (kk, ptC b bt cs)) ⟨List.mem_of_getElem? hB, hw⟩ t x d ty ho hd (some ⟨b, 0, none⟩) 0 off cs v hx (fun w hw => ptC_elem hw.2) hl hk h9 k
theorem hRV {op : Op} {d : Nat} {ty : TypeId} {v : Value}  (hrun : Runs P W S0 T (frz bs L0) op ty v) (k : HL X P N W S0 ops Q bs L0 Ks T0 f (i :: Ls) (la.setIfInBounds i true) Kn ((d, .v v) :: T) L C) (hC : KP (frz bs L0) Ks Ls la C := by exact KP.mk)
 (hk : takeB ops la Ks i = true := by kernel_rfl) (ho : opAt ops T i = some (op, some d, ty) := by kernel_rfl) (hd : d < N := by exact NL rfl) :
 HT (.op i op (some d) ty) X P N W S0 ops Q bs L0 Ks T0 (f + 1) Ls la Kn T L C := hC.pulls.elim fun _ h9 => HDRUNV op d ty ho hd v hrun hk h9 k
theorem hALL1 [TB P] {r1 : Nat} {x1 : Nx} (h1 : (nth ops.toList r1).bind (other T) = some x1 := by conv => lhs; whnf)
 (k : HO x1 r1 X P N W S0 ops Q bs L0 Ks T0 f Ls la Kn T L C) (hr : Region.ready .any ops la = [r1] := by kernel_rfl) : HT (.loud [r1]) X P N W S0 ops Q bs L0 Ks T0 (f + 1) Ls la Kn T L C := HDALL [r1] hr (by simp) k
theorem hALL2 [TB P] {r1 r2 : Nat} {x1 x2 : Nx} (h1 : (nth ops.toList r1).bind (other T) = some x1 := by conv => lhs; whnf) (h2 : (nth ops.toList r2).bind (other T) = some x2 := by conv => lhs; whnf)
 (k : HO x1 r1 X P N W S0 ops Q bs L0 Ks T0 f Ls la Kn T L C ∧ HO x2 r2 X P N W S0 ops Q bs L0 Ks T0 f Ls la Kn T L C) (hr : Region.ready .any ops la = [r1, r2] := by kernel_rfl) : HT (.loud [r1, r2]) X P N W S0 ops Q bs L0 Ks T0 (f + 1) Ls la Kn T L C := HDALL [r1, r2] hr (by simp) k
theorem hALL3 [TB P] {r1 r2 r3 : Nat} {x1 x2 x3 : Nx} (h1 : (nth ops.toList r1).bind (other T) = some x1 := by conv => lhs; whnf) (h2 : (nth ops.toList r2).bind (other T) = some x2 := by conv => lhs; whnf) (h3 : (nth ops.toList r3).bind (other T) = some x3 := by conv => lhs; whnf)
 (k : HO x1 r1 X P N W S0 ops Q bs L0 Ks T0 f Ls la Kn T L C ∧ HO x2 r2 X P N W S0 ops Q bs L0 Ks T0 f Ls la Kn T L C ∧ HO x3 r3 X P N W S0 ops Q bs L0 Ks T0 f Ls la Kn T L C) (hr : Region.ready .any ops la = [r1, r2, r3] := by kernel_rfl) : HT (.loud [r1, r2, r3]) X P N W S0 ops Q bs L0 Ks T0 (f + 1) Ls la Kn T L C := HDALL [r1, r2, r3] hr (by simp) k
theorem hALL4 [TB P] {r1 r2 r3 r4 : Nat} {x1 x2 x3 x4 : Nx} (h1 : (nth ops.toList r1).bind (other T) = some x1 := by conv => lhs; whnf) (h2 : (nth ops.toList r2).bind (other T) = some x2 := by conv => lhs; whnf) (h3 : (nth ops.toList r3).bind (other T) = some x3 := by conv => lhs; whnf) (h4 : (nth ops.toList r4).bind (other T) = some x4 := by conv => lhs; whnf)
 (k : HO x1 r1 X P N W S0 ops Q bs L0 Ks T0 f Ls la Kn T L C ∧ HO x2 r2 X P N W S0 ops Q bs L0 Ks T0 f Ls la Kn T L C ∧ HO x3 r3 X P N W S0 ops Q bs L0 Ks T0 f Ls la Kn T L C ∧ HO x4 r4 X P N W S0 ops Q bs L0 Ks T0 f Ls la Kn T L C) (hr : Region.ready .any ops la = [r1, r2, r3, r4] := by kernel_rfl) : HT (.loud [r1, r2, r3, r4]) X P N W S0 ops Q bs L0 Ks T0 (f + 1) Ls la Kn T L C := HDALL [r1, r2, r3, r4] hr (by simp) k
theorem hKEEP {T' : Tm} {C' : List Ass} (hC : KP (frz bs L0) Ks (i :: Ls) (la.setIfInBounds i true) C') (k : HL X P N W S0 ops Q bs L0 Ks T0 f (i :: Ls) (la.setIfInBounds i true) Kn T' L C') : G N W S0 (HND P W S0 ops Q (frz bs L0) Ks f (la.setIfInBounds i true)) T' L C' := hC.pulls.elim fun _ h9 => HDKEEP h9 k
theorem hCV {fn : FuncId} {S : Prop} [inst : HasC P fn S] {vs : Array Value} {d : Nat} {v : Value}  (hcon : S → ∀ w, At W S0 C w → Spec P w [] fn vs (RV v)) (k : HL X P N W S0 ops Q bs L0 Ks T0 f (i :: Ls) (la.setIfInBounds i true) Kn ((d, .v v) :: T) L C) (hC : KP (frz bs L0) Ks (i :: Ls) (la.setIfInBounds i true) C := by exact KP.mk)
 (hc : callOf P ops T i = some (fn, vs, some d) := by kernel_rfl) (hd : ∀ k, some d = some k → k < N := by exact NO rfl) : HO (.call fn vs (some d)) i X P N W S0 ops Q bs L0 Ks T0 f Ls la Kn T L C :=
 CALL fn vs (some d) hc [] [] C rfl (RV v) (hcon inst.pf) hd fun _ => by
  show G N W S0 _ _ L (C ++ [])
  rw [List.append_nil]
  exact hKEEP hC k
theorem hCX {fn : FuncId} {S : Prop} [inst : HasC P fn S] {vs : Array Value} {d : Nat} {pre R : List Ass} {js : List Nat} {ι : Type} {val : ι → Value} {own : ι → List Ass}
 (hcon : S → ∀ w, At W S0 C w → Spec P w pre fn vs ⟨ι, val, own⟩) (hp : pulls js C = some (pre, R)) (k : ∀ x, HL X P N W S0 ops Q bs L0 Ks T0 f (i :: Ls) (la.setIfInBounds i true) Kn ((d, .v (val x)) :: T) L (R ++ own x)) (hC : KP (frz bs L0) Ks (i :: Ls) (la.setIfInBounds i true) R := by exact KP.mk)
 (hc : callOf P ops T i = some (fn, vs, some d) := by kernel_rfl) (hd : ∀ k, some d = some k → k < N := by exact NO rfl) : HO (.call fn vs (some d)) i X P N W S0 ops Q bs L0 Ks T0 f Ls la Kn T L C :=
 CALL fn vs (some d) hc js pre R hp ⟨ι, val, own⟩ (hcon inst.pf) hd fun x => hKEEP hC.app (k x)
theorem hBUILD {t : TypeId} {len : Nat} {parts : Array (Nat × Operand)} {d : Nat} {ty : TypeId} {e sz : Nat} {α : Type} {enc : α → List Value} {hh : ∀ x, (enc x).length = sz ∧ ∀ u ∈ enc x, isCell u = true} {xs : List α}  [TB P]
 (he : lkn (TB.D P).row t = some (e, sz) := by conv => lhs; whnf) (el : ElT P e α sz enc hh := by infer_instance) (hx : partsO el.dec T 0 parts.toList some = some xs := by conv => lhs; whnf)
 (k : ∀ a : Option Addr, a.isSome = true → HL X P N W S0 ops Q bs L0 Ks T0 f (i :: Ls) (la.setIfInBounds i true) Kn ((d, .v (.slice a len len)) :: T) L (C ++ [slA e (flat sz enc hh) (.slice a len len) xs])) (hC : KP (frz bs L0) Ks (i :: Ls) (la.setIfInBounds i true) C := by exact KP.mk)
 (ho : opAt ops T i = some (.buildSlice t len parts, some d, ty) := by kernel_rfl) (hd : d < N := by exact NL rfl) (hb : (partsOf T parts.toList).bind (bsOf P t len) = some (e, xs.flatMap enc) := by kernel_rfl) (hl : xs.length = len := by kernel_rfl) (hm : Nat.ble len maxLen = true := by rfl) :
 HO (.op (.buildSlice t len parts) (some d) ty) i X P N W S0 ops Q bs L0 Ks T0 f Ls la Kn T L C := oBUILD he el hx (fun a ha => hKEEP hC.app (k a ha)) ho hd hb hl hm
theorem hAPP {t : TypeId} {s x : Operand} {d : Nat} {ty : TypeId} {v : Value} {a2 : Option Addr} {n2 c2 e sz : Nat} {α : Type} {enc : α → List Value} {hh : ∀ x, (enc x).length = sz ∧ ∀ u ∈ enc x, isCell u = true} {xs ys : List α} {j1 j2 : Nat} {R1 R : List Ass} [TB P]
 (he : lkn (TB.D P).row t = some (e, sz) := by conv => lhs; whnf) (el : ElT P e α sz enc hh := by infer_instance) (hs : evv T s = some v := by conv => lhs; whnf) (hx : evv T x = some (.slice a2 n2 c2) := by conv => lhs; whnf)
 (hp1 : pull j1 C = some (slA e (flat sz enc hh) v xs, R1) := by exact PU) (hp2 : pull j2 R1 = some (slA e (flat sz enc hh) (.slice a2 n2 c2) ys, R) := by exact PU) (ha2 : a2.isSome = true := by assumption) (hn2 : ys.length = n2 := by rfl) (hlen : xs.length + n2 ≤ 100000000000 := by exact LEN)
 (k : ∀ (a : Option Addr) (c : Nat), NNil a (xs ++ ys).length → HL X P N W S0 ops Q bs L0 Ks T0 f (i :: Ls) (la.setIfInBounds i true) Kn ((d, .v (.slice a (xs ++ ys).length c)) :: T) L (R ++ [slA e (flat sz enc hh) (.slice a (xs ++ ys).length c) (xs ++ ys)])) (hC : KP (frz bs L0) Ks (i :: Ls) (la.setIfInBounds i true) R := by exact KP.mk)
 (ho : opAt ops T i = some (.call { callee := .builtin .append, args := #[s, x], argTypes := #[t, t] }, some d, ty) := by kernel_rfl) (hd : d < N := by exact NL rfl) (hu : P.underlying t = some (.slice e) := by kernel_rfl) :
 HO (.op (.call { callee := .builtin .append, args := #[s, x], argTypes := #[t, t] }) (some d) ty) i X P N W S0 ops Q bs L0 Ks T0 f Ls la Kn T L C := oAPP he el hs hx hp1 hp2 ha2 hn2 hlen (fun a c h => hKEEP hC.app (k a c h)) ho hd hu
def shC {R : Type} (n : Nat) (s : SV) (k : SV → R) : R :=
 match s with
 | .p i off => k (.p (n + i) off)
 | s => k s
def backT (n0 : Nat) (X : List Nat) : List Nat → Nat → Tm → Tm → (Tm → Option Tm) → Option Tm
 | seen, 0, _, T0, k => prune X seen T0 k
 | seen, n + 1, (d, s) :: T, T0, k => match memN X d, memN seen d with
   | true, false => shC n0 s (fun s => backT n0 X (d :: seen) n T T0 (fun l => k ((d, s) :: l)))
   | _, _ => backT n0 X seen n T T0 k
 | _, _ + 1, [], _, k => none
theorem eb0 : pulls [] C = some (expC [] [], C) := rfl
theorem eb1 {b t : Nat} {cs : List Value} {j : Nat} {R : List Ass} (h : pull j C = some (ptC b t cs, R)) : pulls [j] C = some (expC [b] [(t, cs)], R) := by simp [pulls, h, expC]
theorem eb2 {b t c s : Nat} {cs ds : List Value} {j k : Nat} {R R1 : List Ass} (h : pull j C = some (ptC b t cs, R)) (h1 : pull k R = some (ptC c s ds, R1)) : pulls [j, k] C = some (expC [b, c] [(t, cs), (s, ds)], R1) := by simp [pulls, h, h1, expC]
theorem eb3 {b t c s d r : Nat} {cs ds es : List Value} {j k l : Nat} {R R1 R2 : List Ass} (h : pull j C = some (ptC b t cs, R)) (h1 : pull k R = some (ptC c s ds, R1)) (h2 : pull l R1 = some (ptC d r es, R2)) : pulls [j, k, l] C = some (expC [b, c, d] [(t, cs), (s, ds), (r, es)], R2) := by simp [pulls, h, h1, h2, expC]
theorem eb4 {b t c s d r e q : Nat} {cs ds es gs : List Value} {j k l m : Nat} {R R1 R2 R3 : List Ass} (h : pull j C = some (ptC b t cs, R)) (h1 : pull k R = some (ptC c s ds, R1)) (h2 : pull l R1 = some (ptC d r es, R2)) (h3 : pull m R2 = some (ptC e q gs, R3)) : pulls [j, k, l, m] C = some (expC [b, c, d, e] [(t, cs), (s, ds), (r, es), (q, gs)], R3) := by simp [pulls, h, h1, h2, h3, expC]
theorem eb5 {b0 b1 b2 b3 b4 t0 t1 t2 t3 t4 : Nat} {c0 c1 c2 c3 c4 : List Value} {j0 j1 j2 j3 j4 : Nat} {R0 R1 R2 R3 R4 : List Ass} (h0 : pull j0 C = some (ptC b0 t0 c0, R0)) (h1 : pull j1 R0 = some (ptC b1 t1 c1, R1)) (h2 : pull j2 R1 = some (ptC b2 t2 c2, R2)) (h3 : pull j3 R2 = some (ptC b3 t3 c3, R3)) (h4 : pull j4 R3 = some (ptC b4 t4 c4, R4)) : pulls [j0, j1, j2, j3, j4] C = some (expC [b0, b1, b2, b3, b4] [(t0, c0), (t1, c1), (t2, c2), (t3, c3), (t4, c4)], R4) := by simp [pulls, h0, h1, h2, h3, h4, expC]
theorem eb6 {b0 b1 b2 b3 b4 b5 t0 t1 t2 t3 t4 t5 : Nat} {c0 c1 c2 c3 c4 c5 : List Value} {j0 j1 j2 j3 j4 j5 : Nat} {R0 R1 R2 R3 R4 R5 : List Ass} (h0 : pull j0 C = some (ptC b0 t0 c0, R0)) (h1 : pull j1 R0 = some (ptC b1 t1 c1, R1)) (h2 : pull j2 R1 = some (ptC b2 t2 c2, R2)) (h3 : pull j3 R2 = some (ptC b3 t3 c3, R3)) (h4 : pull j4 R3 = some (ptC b4 t4 c4, R4)) (h5 : pull j5 R4 = some (ptC b5 t5 c5, R5)) : pulls [j0, j1, j2, j3, j4, j5] C = some (expC [b0, b1, b2, b3, b4, b5] [(t0, c0), (t1, c1), (t2, c2), (t3, c3), (t4, c4), (t5, c5)], R5) := by simp [pulls, h0, h1, h2, h3, h4, h5, expC]
theorem eb7 {b0 b1 b2 b3 b4 b5 b6 t0 t1 t2 t3 t4 t5 t6 : Nat} {c0 c1 c2 c3 c4 c5 c6 : List Value} {j0 j1 j2 j3 j4 j5 j6 : Nat} {R0 R1 R2 R3 R4 R5 R6 : List Ass} (h0 : pull j0 C = some (ptC b0 t0 c0, R0)) (h1 : pull j1 R0 = some (ptC b1 t1 c1, R1)) (h2 : pull j2 R1 = some (ptC b2 t2 c2, R2)) (h3 : pull j3 R2 = some (ptC b3 t3 c3, R3)) (h4 : pull j4 R3 = some (ptC b4 t4 c4, R4)) (h5 : pull j5 R4 = some (ptC b5 t5 c5, R5)) (h6 : pull j6 R5 = some (ptC b6 t6 c6, R6)) : pulls [j0, j1, j2, j3, j4, j5, j6] C = some (expC [b0, b1, b2, b3, b4, b5, b6] [(t0, c0), (t1, c1), (t2, c2), (t3, c3), (t4, c4), (t5, c5), (t6, c6)], R6) := by simp [pulls, h0, h1, h2, h3, h4, h5, h6, expC]
theorem hEND {T' : Tm} {R : List Ass} {L1 : Bx} {js : List Nat} (hC : pulls js C = some (expC bs L1, R) := by first | exact eb0 | exact eb1 PU | exact eb2 PU PU | exact eb3 PU PU PU | exact eb4 PU PU PU PU | exact eb5 PU PU PU PU PU | exact eb6 PU PU PU PU PU PU | exact eb7 PU PU PU PU PU PU PU) (ht : backT L1.length X [] (T.length - T0.length) T T0 some = some T' := by conv => lhs; whnf) (k : DN X N W S0 Q .normal T' (L1 ++ L) R) (hl : bs.length = L1.length := by rfl)
 (hT : keep T ((expT bs T').map (·.1)) = keep (expT bs T') ((expT bs T').map (·.1)) := by kernel_rfl) (hn : boundedB (L1.length + L.length) T' = true := by kernel_rfl) (hr : Region.ready .any ops la = [] := by kernel_rfl) : HT (.loud []) X P N W S0 ops Q bs L0 Ks T0 f Ls la Kn T L C := by
 refine HDEND hr ?_
 rintro a w ⟨bs1, fps, ht, hb, hm⟩
 obtain ⟨xps, rps, hx, hrr, hperm⟩ := holds.pulls js hm.ch hC
 obtain ⟨hbx, rfl⟩ := holds_expC hl hx
 have hfl : (bs ++ rps.flatten).Perm fps.flatten := by
  have := flat_perm hperm
  simpa [map_one_flatten] using this
 have hall : ((bs ++ bs1) ++ rps.flatten).Perm (bs1 ++ fps.flatten) := by
  refine List.Perm.trans ?_ (hfl.append_left bs1)
  rw [← List.append_assoc]
  exact List.perm_append_comm.append_right _
 refine k a w ⟨bs ++ bs1, rps, ⟨ht.1, ht.2.1, fun i x hx => ?_⟩, by rw [List.length_append]; exact boundedB_ok hn, ⟨hm.fr, boxes_append hbx hm.bx, hrr, hall.nodup_iff.2 hm.nd, fun b hb => hm.new b (hall.subset hb)⟩⟩
 have h1 : lk (expT bs T') i = some (expS bs x) := by rw [lk_expT, hx]; rfl
 have h2 := ht.2.2 i _ (sub_ok hT i _ h1)
 rw [h2, den_expS]
theorem hLW {t : TypeId} {x : Operand} {d b bt : Nat} {ty : TypeId} {j off : Nat} {cs : List Value} {v : Value}  [TB P]
 (hx : evo T x = some (.e (some ⟨b, 0, none⟩) 0 off) := by conv => lhs; whnf) (hC : C[j]? = some (ptC b bt cs) := by exact NT) (hv : ldB (TB.D P) t cs off some = some v := by conv => lhs; whnf)
 (k : HL X P N W S0 ops Q bs L0 Ks T0 f (i :: Ls) (la.setIfInBounds i true) Kn ((d, .v v) :: T) L C) (hR : KP (frz bs L0) Ks (i :: Ls) (la.setIfInBounds i true) C := by exact KP.mk)
 (ho : opAt ops T i = some (.load t x, some d, ty) := by kernel_rfl) (hd : d < N := by exact NL rfl) (hl : loadOf P t cs off = some v := by kernel_rfl) :
 HO (.op (.load t x) (some d) ty) i X P N W S0 ops Q bs L0 Ks T0 f Ls la Kn T L C :=
 LOADE t x d ty ho hd (some ⟨b, 0, none⟩) 0 off cs v hx (fun w hw => ptC_elem (hw.own j hC)) hl (hKEEP hR k)
def stB (D : OTab) (t bt : TypeId) (cs : List Value) (off : Nat) (v : Value) : Option (List Value) :=
 match off, lkn D.agg t with
 | 0, some n => match Nat.beq n cs.length with
   | true => cellsC v some
   | false => cellsC v (fun vs => putC 0 cs vs (fun cs' => mkC D bt cs' some))
 | o, _ => cellsC v (fun vs => putC o cs vs (fun cs' => mkC D bt cs' some))
theorem hSW {t : TypeId} {x y : Operand} {b bt : Nat} {ty : TypeId} {j off : Nat} {cs cs' : List Value} {v : Value} {R : List Ass} [TB P]
 (hx : evo T x = some (.e (some ⟨b, 0, none⟩) 0 off) := by conv => lhs; whnf) (hp : pull j C = some (ptC b bt cs, R) := by exact PU) (hy : evv T y = some v := by conv => lhs; whnf) (hv : stB (TB.D P) t bt cs off v = some cs' := by conv => lhs; whnf)
 (k : HL X P N W S0 ops Q bs L0 Ks T0 f (i :: Ls) (la.setIfInBounds i true) Kn T L (R ++ [ptC b bt cs'])) (hR : KP (frz bs L0) Ks (i :: Ls) (la.setIfInBounds i true) R := by exact KP.mk)
 (ho : opAt ops T i = some (.store t x y, none, ty) := by kernel_rfl) (hst : storeOf P t cs off v = some cs' := by kernel_rfl) :
 HO (.op (.store t x y) none ty) i X P N W S0 ops Q bs L0 Ks T0 f Ls la Kn T L C :=
 STOREC t x y ty ho j R b off bt cs cs' (by simp [pulls, hp]) v hx hy hst (hKEEP hR.app k)
theorem oRUN1 {K : Go.Act → World → Prop} {T' : Tm} {L' : Bx} (h : runP P N ops 1 [i] T L = some (T', L')) (k : G N W S0 K T' L' C) : OP P N W S0 ops Q i K T L C := by
 simp only [runP] at h
 split at h
 · rename_i o hi
   split at h
   · rename_i T2 L2 h3
     simp only [Option.some.injEq, Prod.mk.injEq] at h
     obtain ⟨rfl, rfl⟩ := h
     exact step1_ok hi h3 k
   · cases h
 · cases h
theorem hONE [TB P] {o : Op} {d : Option Nat} {ty : TypeId} {T' : Tm} {L' : Bx}  (ho : orc1 (TB.D P) T L o (fun s L' => putK d s T (fun T' => some (T', L'))) (fun _ _ => none) = some (T', L') := by conv => lhs; whnf)
 (k : HL X P N W S0 ops Q bs L0 Ks T0 f (i :: Ls) (la.setIfInBounds i true) Kn T' L' C) (hC : KP (frz bs L0) Ks (i :: Ls) (la.setIfInBounds i true) C := by exact KP.mk) (h : runP P N ops 1 [i] T L = some (T', L') := by kernel_rfl) : HO (.op o d ty) i X P N W S0 ops Q bs L0 Ks T0 f Ls la Kn T L C := oRUN1 h (hKEEP hC k)
def FORTO {α β : Type} (s o : Nat) (U : α → Tm) (T : Tm) (q : Nat × α × Option Addr × Nat × List β) : Tm := (s, I (q.1 : Int)) :: (o, .v (.slice q.2.2.1 q.2.2.2.2.length q.2.2.2.1)) :: (U q.2.1 ++ T)
def FORCO {α β : Type} (e : TypeId) (La : Lay β) (C0 : List Ass) (q : Nat × α × Option Addr × Nat × List β) : List Ass := C0 ++ [slA e La (.slice q.2.2.1 q.2.2.2.2.length q.2.2.2.1) q.2.2.2.2]
def FORIO {α β : Type} (n : Nat) (Inv : Nat → α → List β → Prop) (q : Nat × α × Option Addr × Nat × List β) : Prop := q.1 ≤ n ∧ Inv q.1 q.2.1 q.2.2.2.2
def FORMO {α β : Type} (n : Nat) (q : Nat × α × Option Addr × Nat × List β) : Nat := n - q.1
def ones : List Ass → List Nat
 | [] => []
 | _ :: C => 1 :: ones C
def rotJ : Nat → List Ass → List Nat
 | 0, C0 => ones C0 ++ [0]
 | j + 1, _ :: C0 => 0 :: rotJ j C0
 | _ + 1, [] => []
theorem pulls_ones (A : Ass) : ∀ (C0 : List Ass), pulls (ones C0 ++ [0]) (A :: C0) = some (C0 ++ [A], [])
 | [] => rfl
 | B :: C0 => by
   have h := pulls_ones A C0
   simp only [ones, List.cons_append, pulls, SX.pull, Option.map_some]
   simp [h]
theorem pulls_rot {A : Ass} : ∀ (j : Nat) {C C0 : List Ass}, pull j C = some (A, C0) → pulls (rotJ j C0) C = some (C0 ++ [A], [])
 | 0, [], _, h => by simp [pull] at h
 | 0, B :: C, C0, h => by
   simp only [pull, Option.some.injEq, Prod.mk.injEq] at h
   obtain ⟨rfl, rfl⟩ := h
   exact pulls_ones B C
 | j + 1, [], _, h => by simp [pull] at h
 | j + 1, B :: C, C0, h => by
   simp only [pull, Option.map_eq_some_iff] at h
   obtain ⟨⟨A', C1⟩, h1, h2⟩ := h
   simp only [Prod.mk.injEq] at h2
   obtain ⟨rfl, rfl⟩ := h2
   have h3 := pulls_rot j h1
   simp only [rotJ, pulls, pull]
   simp [h3]
theorem pulls_first : ∀ (C0 D : List Ass) {js : List Nat} {E R : List Ass}, pulls js D = some (E, R) → pulls (zeros C0 ++ js) (C0 ++ D) = some (C0 ++ E, R)
 | [], D, js, E, R, h => by simpa [zeros] using h
 | A :: C0, D, js, E, R, h => by
   have := pulls_first C0 D h
   simp only [zeros, List.cons_append, pulls, pull]
   simp [this]
theorem pull_last : ∀ (R2 : List Ass) (A : Ass), pull R2.length (R2 ++ [A]) = some (A, R2)
 | [], A => rfl
 | B :: R2, A => by
   have := pull_last R2 A
   simp only [List.length_cons, List.cons_append, pull, this]; rfl
theorem pulls_last (C0 R2 : List Ass) (A : Ass) : ∃ js R, pulls js (C0 ++ R2 ++ [A]) = some (C0 ++ [A], R) := by
 refine ⟨zeros C0 ++ [R2.length], R2, ?_⟩
 rw [List.append_assoc]
 exact pulls_first C0 (R2 ++ [A]) (by simp [pulls, pull_last])
theorem gLOOPC {c : Code} {ι : Type} (Tf : ι → Tm) (Lf : ι → Bx) (Cf : ι → List Ass) (Inv : ι → Prop) (m : ι → Nat) (j0 : ι) (h0 : Inv j0) (js : List Nat) (R : List Ass) (hC : pulls js C = some (Cf j0, R)) {L : Bx}
 (body : ∀ j, Inv j → CD X P N W S0 c (Exit.then (BKP N W S0 Tf Lf Cf Inv m j) Q) (Tf j) (Lf j) (Cf j)) (hT : keep T ((Tf j0).map (·.1)) = keep (Tf j0) ((Tf j0).map (·.1))) (hn : boundedB (Lf j0).length (Tf j0) = true) (hL : L.take (Lf j0).length = Lf j0) : CD X P N W S0 (.loop c) Q T L C := by
 have h := gLOOP (X := X) (P := P) (N := N) (W := W) (S0 := S0) (Q := Q) (T := Tf j0) (L := Lf j0) (C := Cf j0) Tf Lf Cf Inv m j0 h0 body rfl hn rfl rfl
 unfold CD at *
 intro a w hs
 exact h a w (hs.into hT hn hL hC)
theorem gFORO {c : Code} {L : Bx} {α β : Type} {e : TypeId} {La : Lay β} {a0 : Option Addr} {n0 c0 j : Nat} {xs0 : List β} {C0 : List Ass} (s n o : Nat) (U : α → Tm) (Inv : Nat → α → List β → Prop) (x0 : α) (hsl : lk T o = some (.v (.slice a0 n0 c0)) := by conv => lhs; whnf)
 (hp : pull j C = some (slA e La (.slice a0 n0 c0) xs0, C0) := by exact PU) (h0 : Inv 0 x0 xs0)
 (body : ∀ k x a c9 xs, k ≤ n → Inv k x xs → CD X P N W S0 c (Exit.then (BKP N W S0 (FORTO s o U T) (fun _ => L) (FORCO e La C0) (FORIO n Inv) (FORMO n) (k, x, a, c9, xs)) Q) ((s, I (k : Int)) :: (o, .v (.slice a xs.length c9)) :: (U x ++ T)) L (C0 ++ [slA e La (.slice a xs.length c9) xs]))
 (hn0 : n0 = xs0.length := by rfl) (hT : keep T ((FORTO s o U T (0, x0, a0, c0, xs0)).map (·.1)) = keep (FORTO s o U T (0, x0, a0, c0, xs0)) ((FORTO s o U T (0, x0, a0, c0, xs0)).map (·.1)) := by kernel_rfl) (hn : boundedB L.length (FORTO s o U T (0, x0, a0, c0, xs0)) = true := by kernel_rfl) : CD X P N W S0 (.loop c) Q T L C := by
 subst hn0
 exact gLOOPC (FORTO s o U T) (fun _ => L) (FORCO e La C0) (FORIO n Inv) (FORMO n) (0, x0, a0, c0, xs0) ⟨Nat.zero_le _, h0⟩ (rotJ j C0) [] (pulls_rot j hp) (fun q hk => body q.1 q.2.1 q.2.2.1 q.2.2.2.1 q.2.2.2.2 hk.1 hk.2) hT hn (by simp)
theorem gFOBACK {L L1 : Bx} {C1 R R2 : List Ass} {T1 : Tm} {α β : Type} {e : TypeId} {La : Lay β} {s n o k c9 c' n' j' : Nat} {U : α → Tm} {Inv : Nat → α → List β → Prop} {x x' : α} {a a' : Option Addr} {xs xs' : List β} {C0 : List Ass} (hsl : lk T1 o = some (.v (.slice a' n' c')) := by conv => lhs; whnf)
 (hU : keep T1 ((U x).map (·.1)) = some (U x') := by conv => lhs; whnf) (hp : pull j' C1 = some (slA e La (.slice a' n' c') xs', R) := by exact PU) (hlt : k < n) (h : Inv (k + 1) x' xs') (hn' : n' = xs'.length := by rfl) (hR : R = C0 ++ R2 := by rfl)
 (hT : keep T1 ((FORTO s o U T (k + 1, x', a', c', xs')).map (·.1)) = keep (FORTO s o U T (k + 1, x', a', c', xs')) ((FORTO s o U T (k + 1, x', a', c', xs')).map (·.1)) := by kernel_rfl)
 (hn : boundedB L.length (FORTO s o U T (k + 1, x', a', c', xs')) = true := by kernel_rfl) (hL : L1.take L.length = L := by kernel_rfl) :
 DN X N W S0 (Exit.then (BKP N W S0 (FORTO s o U T) (fun _ => L) (FORCO e La C0) (FORIO n Inv) (FORMO n) (k, x, a, c9, xs)) Q) .normal T1 L1 C1 := by
 subst hn'
 intro aa w hs
 refine ⟨(k + 1, x', a', c', xs'), ⟨by show k + 1 ≤ n; omega, h⟩, by show n - (k + 1) < n - k; omega, ?_⟩
 have h1 : Sat N W S0 T1 L1 (R ++ [slA e La (.slice a' xs'.length c') xs']) aa w := by
  obtain ⟨bs, fps, ht, hb, hm⟩ := hs
  obtain ⟨xps, rps, hx, hr, hperm⟩ := holds.pulls (rotJ j' R) hm.ch (pulls_rot j' hp)
  cases rps with
  | nil =>
    have hfl : xps.flatten.Perm fps.flatten := by simpa using flat_perm hperm
    have hnd := List.nodup_append.1 hm.nd
    exact ⟨bs, xps, ht, hb, ⟨hm.fr, hm.bx, hx, (List.Perm.append_left bs hfl).nodup_iff.2 hm.nd, fun b hbm => hm.new b ((List.Perm.append_left bs hfl).subset hbm)⟩⟩
  | cons _ _ => exact hr.elim
 subst hR
 obtain ⟨js, R9, h3⟩ := pulls_last C0 R2 (slA e La (.slice a' xs'.length c') xs')
 exact h1.into (js := js) (R := R9) hT hn hL h3
def dv : Nat → Int
 | 0 => -1
 | k + 1 => (k : Int)
theorem dv_wr (k : Nat) (hk : k < 1000000000000) : wr ((k : Int) - 1) = dv k := by
 rw [wr_of (by omega) (by omega)]
 cases k with
 | zero => rfl
 | succ k => show ((k + 1 : Nat) : Int) - 1 = (k : Int); omega
def FORTD {β : Type} (s o : Nat) (T : Tm) (q : Nat × Option Addr × Nat × List β) : Tm := (s, I (dv q.1)) :: (o, .v (.slice q.2.1 q.2.2.2.length q.2.2.1)) :: T
def FORCD {β : Type} (e : TypeId) (La : Lay β) (C0 : List Ass) (q : Nat × Option Addr × Nat × List β) : List Ass := C0 ++ [slA e La (.slice q.2.1 q.2.2.2.length q.2.2.1) q.2.2.2]
def FORID {β : Type} (n : Nat) (Inv : Nat → List β → Prop) (q : Nat × Option Addr × Nat × List β) : Prop := q.1 ≤ n ∧ Inv q.1 q.2.2.2
def FORMD {β : Type} (q : Nat × Option Addr × Nat × List β) : Nat := q.1
theorem gFORDO {c : Code} {L : Bx} {β : Type} {e : TypeId} {La : Lay β} {a0 : Option Addr} {n0 c0 j : Nat} {xs0 : List β} {C0 : List Ass} (s n o : Nat) (hn9 : n < 1000000000000) (Inv : Nat → List β → Prop) (hs : lk T s = some (I (wr ((n : Int) - 1))) := by conv => lhs; whnf) (hsl : lk T o = some (.v (.slice a0 n0 c0)) := by conv => lhs; whnf)
 (hp : pull j C = some (slA e La (.slice a0 n0 c0) xs0, C0) := by exact PU) (h0 : Inv n xs0)
 (body0 : ∀ a c9 xs, Inv 0 xs → CD X P N W S0 c (Exit.then (BKP N W S0 (FORTD s o T) (fun _ => L) (FORCD e La C0) (FORID n Inv) FORMD (0, a, c9, xs)) Q) ((s, I (-1)) :: (o, .v (.slice a xs.length c9)) :: T) L (C0 ++ [slA e La (.slice a xs.length c9) xs]))
 (bodyS : ∀ (k : Nat) a c9 xs, k + 1 ≤ n → Inv (k + 1) xs → CD X P N W S0 c (Exit.then (BKP N W S0 (FORTD s o T) (fun _ => L) (FORCD e La C0) (FORID n Inv) FORMD (k + 1, a, c9, xs)) Q) ((s, I (k : Int)) :: (o, .v (.slice a xs.length c9)) :: T) L (C0 ++ [slA e La (.slice a xs.length c9) xs]))
 (hn0 : n0 = xs0.length := by rfl) (hT : keep ((s, I (dv n)) :: T) ((FORTD s o T (n, a0, c0, xs0)).map (·.1)) = keep (FORTD s o T (n, a0, c0, xs0)) ((FORTD s o T (n, a0, c0, xs0)).map (·.1)) := by kernel_rfl) (hn : ∀ z, boundedB L.length ((s, I z) :: (o, .v (.slice a0 n0 c0)) :: T) = true := by intro z; kernel_rfl) : CD X P N W S0 (.loop c) Q T L C := by
 subst hn0
 have h := gLOOPC (X := X) (P := P) (N := N) (W := W) (S0 := S0) (Q := Q) (T := (s, I (dv n)) :: T) (C := C) (L := L) (FORTD s o T) (fun _ => L) (FORCD e La C0) (FORID n Inv) FORMD (n, a0, c0, xs0) ⟨Nat.le_refl _, h0⟩ (rotJ j C0) [] (pulls_rot j hp) (fun q hk => by
  obtain ⟨k, a, c9, xs⟩ := q
  cases k with
  | zero => exact body0 a c9 xs hk.2
  | succ k => exact bodyS k a c9 xs hk.1 hk.2) hT (hn _) (by simp)
 unfold CD at *
 have e1 : vi (wr ((n : Int) - 1)) = vi (dv n) := by rw [dv_wr n hn9]
 intro a w hsat
 obtain ⟨bs, fps, ht, hb, hm⟩ := hsat
 refine h a w ⟨bs, fps, ⟨ht.1, ht.2.1, fun i x hx => ?_⟩, hb, hm⟩
 simp only [lk] at hx
 by_cases hk : s = i
 · subst hk
   simp at hx; subst hx
   have := ht.2.2 s _ hs
   rw [this]
   show some (vi _) = some (vi _)
   rw [e1]
 · have : (s == i) = false := by simpa using hk
   simp only [this, Bool.false_eq_true, if_false] at hx
   exact ht.2.2 i x hx
theorem gFDBACK {L L1 : Bx} {C1 R R2 : List Ass} {T1 : Tm} {β : Type} {e : TypeId} {La : Lay β} {s n o k c9 c' n' j' : Nat} {Inv : Nat → List β → Prop} {a a' : Option Addr} {xs xs' : List β} {C0 : List Ass} (hs : lk T1 s = some (I (wr ((k : Int) - 1))) := by conv => lhs; whnf) (hsl : lk T1 o = some (.v (.slice a' n' c')) := by conv => lhs; whnf)
 (hp : pull j' C1 = some (slA e La (.slice a' n' c') xs', R) := by exact PU) (hlt : k + 1 ≤ n) (hk9 : k < 1000000000000) (h : Inv k xs') (hn' : n' = xs'.length := by rfl) (hR : R = C0 ++ R2 := by rfl)
 (hT : keep ((s, I (dv k)) :: T1) ((FORTD s o T (k, a', c', xs')).map (·.1)) = keep (FORTD s o T (k, a', c', xs')) ((FORTD s o T (k, a', c', xs')).map (·.1)) := by kernel_rfl)
 (hn : boundedB L.length (FORTD s o T (k, a', c', xs')) = true := by kernel_rfl) (hL : L1.take L.length = L := by kernel_rfl) :
 DN X N W S0 (Exit.then (BKP N W S0 (FORTD s o T) (fun _ => L) (FORCD e La C0) (FORID n Inv) FORMD (k + 1, a, c9, xs)) Q) .normal T1 L1 C1 := by
 subst hn'
 intro aa w hsat
 refine ⟨(k, a', c', xs'), ⟨by show k ≤ n; omega, h⟩, by show k < k + 1; omega, ?_⟩
 have e1 : vi (wr ((k : Int) - 1)) = vi (dv k) := by rw [dv_wr k hk9]
 have h1 : Sat N W S0 ((s, I (dv k)) :: T1) L1 (R ++ [slA e La (.slice a' xs'.length c') xs']) aa w := by
  obtain ⟨bs, fps, ht, hb, hm⟩ := hsat
  obtain ⟨xps, rps, hx, hr, hperm⟩ := holds.pulls (rotJ j' R) hm.ch (pulls_rot j' hp)
  cases rps with
  | nil =>
    have hfl : xps.flatten.Perm fps.flatten := by simpa using flat_perm hperm
    refine ⟨bs, xps, ⟨ht.1, ht.2.1, fun i x hx => ?_⟩, hb, ⟨hm.fr, hm.bx, hx, (List.Perm.append_left bs hfl).nodup_iff.2 hm.nd, fun b hbm => hm.new b ((List.Perm.append_left bs hfl).subset hbm)⟩⟩
    simp only [lk] at hx
    by_cases hk : s = i
    · subst hk
      simp at hx; subst hx
      have := ht.2.2 s _ hs
      rw [this]
      show some (vi _) = some (vi _)
      rw [e1]
    · have : (s == i) = false := by simpa using hk
      simp only [this, Bool.false_eq_true, if_false] at hx
      exact ht.2.2 i x hx
  | cons _ _ => exact hr.elim
 subst hR
 obtain ⟨js, R9, h3⟩ := pulls_last C0 R2 (slA e La (.slice a' xs'.length c') xs')
 exact h1.into (js := js) (R := R9) hT hn hL h3
end rules
end SX
end Go.Proofs.YtejojcoaohlfbaaGreat
