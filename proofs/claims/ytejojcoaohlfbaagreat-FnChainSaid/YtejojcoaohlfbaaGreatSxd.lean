/- Texts of this claim, put together by program. -/
import Derived.Test.YtejojcoaohlfbaaGreatSxs
import Derived.OrdersHeld
import Derived.MapKept
namespace Go.Proofs.YtejojcoaohlfbaaGreat
namespace SX
set_option linter.unusedVariables false
set_option linter.unusedSimpArgs false
open Go Go.RowKit
def nQ (Q : Exit → Act → World → Prop) : Exit → Act → World → Prop
 | .normal, a, w => Q .normal a w
 | _, _, _ => False
section
variable {P : Program} {ops : Array Oper} {Q : Exit → Act → World → Prop} {md : Region.Mode} {S : World → Prop}
theorem lets_nQ (h : LetsOut (nQ Q)) : False := by obtain ⟨a, w, h⟩ := h; exact h
theorem wp_nQ {o : Oper} {a : Act} {w : World} {K : Act → World → Prop} (hh : o.wp P a w K (nQ Q)) : o.wp P a w K Q := by
 unfold Oper.wp at *
 generalize (execOp a.eval o).run P w = r at *
 cases r with
 | ok n w' =>
   cases n <;> simp only [Oper.upon] at hh ⊢ <;>
    first
     | exact hh
     | exact Calls.mono hh (fun e w'' he => by cases e <;> first | exact he | exact absurd he lets_nQ | exact False.elim he)
 | halt x w' => cases x <;> simp only [Oper.upon] at hh ⊢ <;> first | exact hh | exact False.elim hh
theorem wpOp_nQ {i : Nat} {a : Act} {w : World} {K : Act → World → Prop} (hh : wpOp P ops (nQ Q) i K a w) : wpOp P ops Q i K a w := by
 unfold wpOp at *
 split
 · simpa [*] using hh
 · rename_i o ho
   simp only [ho] at hh
   split
   · rename_i hw
     simp only [hw, if_true] at hh
     rcases hh with h | ⟨_, h⟩
     · exact .inl (wp_nQ h)
     · exact (lets_nQ h).elim
   · rename_i hw; simp only [hw] at hh; exact hh
theorem wpAny_nQ : ∀ (fuel : Nat) (listed : Array Bool) (a : Act) (w : World), wpAny P md ops (nQ Q) fuel listed a w → wpAny P md ops Q fuel listed a w
 | 0, _, _, _, h => h
 | fuel + 1, _, _, _, h => ⟨h.1, fun i hi => wpOp_mono (fun a' w' h' => wpAny_nQ fuel _ a' w' h') (wpOp_nQ (h.2 i hi))⟩
end
section rules
variable {P : Program} {N : Nat} {W : World} {S0 : List Nat} {Q : Exit → Act → World → Prop} {T : Tm} {L : Bx} {C : List Ass} {ops : Array Oper} {C0 : List Ass}
def H (P : Program) (N : Nat) (W : World) (S0 : List Nat) (ops : Array Oper) (Q : Exit → Act → World → Prop) (C0 : List Ass) (fuel : Nat) (listed : Array Bool) (T : Tm) (L : Bx) (C : List Ass) : Prop :=
 G N W S0 (fun a w => wpAnyH P .any ops (nQ Q) (At W S0 C0) fuel listed a w) T L C
theorem REGIONH {id : Nat} (hm : P.follows .mixedOrders = true) (n : Nat) (hn : ops.size = n) (C0 : List Ass) (k : H P N W S0 ops Q C0 n (Array.replicate n false) T L C) : CODE P N W S0 (.region id ops true) Q T L C := fun a w h => by
 subst hn
 exact wp_region_any hm (wpAny_nQ _ _ _ _ (wpAny_of_held _ _ _ _ (k a _ h.drew_)))
theorem at_take {w : World} {js : List Nat} (h : At W S0 C w) (hC : (pulls js C).map (·.1) = some C0) : At W S0 C0 w := by
 obtain ⟨hf, fps, hh, hn, hnew⟩ := h
 obtain ⟨⟨X, R⟩, hp, hX⟩ := Option.map_eq_some_iff.1 hC
 simp only at hX
 subst hX
 obtain ⟨xps, rps, hx, hr, hperm⟩ := holds.pulls js hh hp
 have hfl : (xps.flatten ++ rps.flatten).Perm fps.flatten := by simpa using flat_perm hperm
 have hnd := hfl.nodup_iff.2 hn
 exact ⟨hf, xps, hx, (List.nodup_append.1 hnd).1, fun b hb => hnew b (hfl.subset (List.mem_append.2 (.inl hb)))⟩
theorem HTAKE {fuel : Nat} {listed : Array Bool} {i : Nat} (op : Op) (d : Option Nat) (ty : TypeId) (ho : opAt ops T i = some (op, d, ty)) (hd : ∀ k, d = some k → k < N) (s : SV) (hs : ∀ j off, s = .p j off → j < L.length)
 (hk : (Region.noSelect ops && Region.free .any ops listed i && (Region.ready .any ops listed).contains i) = true) {js : List Nat} (hC : (pulls js C).map (·.1) = some C0)
 (hrun : ∀ (a : Act) (o : Oper) (bs : List Nat) (w : World), (∀ x s, evo T x = some s → a.eval x = den bs s) → o.op = op → o.type = ty → At W S0 C0 w → (execOp a.eval o).run P w = .ok (.value (den bs s)) w)
 (k : H P N W S0 ops Q C0 fuel (listed.setIfInBounds i true) (putd d s T) L C) : H P N W S0 ops Q C0 (fuel + 1) listed T L C := by
 rintro a w ⟨bs, fps, ht, hb, hm⟩
 obtain ⟨o, hi, hw, hop, hdst, hty⟩ := opAt_ok ho ht
 simp only [Bool.and_eq_true] at hk
 subst hdst
 refine wpAnyH_take (v := den bs s) hi hk.1.1 hk.1.2 hk.2 (fun c a w h => h.elim) (.inl ⟨hw, fun w' hw' => hrun a o bs w' (fun x s hx => ht.evo hx) hop hty hw'⟩) (at_take hm.at_ hC) ?_
 exact k _ _ ⟨bs, fps, ht.put (put_putd hd) rfl, hb.put hs (put_putd hd), hm⟩
def stillOp : Op → Bool
 | .store .. | .box .. | .alloc .. | .load .. => false
 | _ => true
theorem go1h {o : Oper} (hq : stillOp o.op = true) {T' : Tm} {L' : Bx} (h : go1 P N T L o = some (T', L')) {bs : List Nat} {a : Act} (ht : Tms N T bs a) (hbd : bounded L.length T) :
 ∃ v, (∀ w, (execOp a.eval o).run P w = .ok (.value v) w) ∧ Tms N T' bs (a.put o.dst v) ∧ bounded L.length T' := by
 obtain ⟨dst, op, ty, pos, after, guard⟩ := o
 have rest : ∀ l, opnds op = some l → (if l.all (fun x => (evv T x).isSome) then
       match pureOf P (execOp (evw T) ⟨dst, op, ty, pos, after, guard⟩) with
       | some (.value v) => (put N T dst (.v v)).map (·, L)
       | _ => none
  else none) = some (T', L') →
  ∃ v, (∀ w, (execOp a.eval ⟨dst, op, ty, pos, after, guard⟩).run P w = .ok (.value v) w) ∧ Tms N T' bs (a.put dst v) ∧ bounded L.length T' := by
  intro l hl h
  split at h
  · rename_i hall
    split at h
    · rename_i v hp
      obtain ⟨T1, hput, he⟩ := Option.map_eq_some_iff.1 h
      simp only [Prod.mk.injEq] at he
      obtain ⟨rfl, rfl⟩ := he
      have hc : execOp a.eval ⟨dst, op, ty, pos, after, guard⟩ = execOp (evw T) ⟨dst, op, ty, pos, after, guard⟩ := exec_congr _ l hl _ _ fun x hx => by
       have := List.all_eq_true.1 hall x hx
       cases hv : evv T x with
       | none => simp [hv] at this
       | some y => rw [ht.evv hv]; simp [evw, hv]
      exact ⟨v, fun w => by rw [hc]; exact pureOf_run _ hp w, ht.put hput rfl, hbd.put (by intro i off he; cases he) hput⟩
    · cases h
  · cases h
 cases op with
 | move x =>
   simp only [go1] at h
   obtain ⟨s, hs, h⟩ := Option.bind_eq_some_iff.1 h
   obtain ⟨T1, hput, he⟩ := Option.map_eq_some_iff.1 h
   simp only [Prod.mk.injEq] at he
   obtain ⟨rfl, rfl⟩ := he
   exact ⟨den bs s, fun w => by simp [execOp, Sem.run_pure, ht.evo hs], ht.put hput rfl, hbd.put (by rintro i off rfl; exact hbd.evo hs) hput⟩
 | assign x =>
   simp only [go1] at h
   obtain ⟨s, hs, h⟩ := Option.bind_eq_some_iff.1 h
   obtain ⟨T1, hput, he⟩ := Option.map_eq_some_iff.1 h
   simp only [Prod.mk.injEq] at he
   obtain ⟨rfl, rfl⟩ := he
   exact ⟨den bs s, fun w => by simp [execOp, Sem.run_pure, ht.evo hs], ht.put hput rfl, hbd.put (by rintro i off rfl; exact hbd.evo hs) hput⟩
 | fieldAddr s x f =>
   simp only [go1] at h
   split at h
   · rename_i i off k hx hf
     obtain ⟨T1, hput, he⟩ := Option.map_eq_some_iff.1 h
     simp only [Prod.mk.injEq] at he
     obtain ⟨rfl, rfl⟩ := he
     refine ⟨den bs (.p i (off + k)), fun w => ?_, ht.put hput rfl, hbd.put ?_ hput⟩
     · simp only [execOp, ht.evo hx, den, Sem.run_bind, fieldOff_run hf, Result.andThen_ok, Sem.run_pure, add_lit]
     · intro j o' he; injection he with h1 h2; subst h1; exact hbd.evo hx
   · rename_i a' c off k hx hf
     obtain ⟨T1, hput, he⟩ := Option.map_eq_some_iff.1 h
     simp only [Prod.mk.injEq] at he
     obtain ⟨rfl, rfl⟩ := he
     refine ⟨den bs (.e a' c (off + k)), fun w => ?_, ht.put hput rfl, hbd.put (by intro i o' he; cases he) hput⟩
     simp only [execOp, ht.evo hx, den, Sem.run_bind, fieldOff_run hf, Result.andThen_ok, Sem.run_pure, add_add, Nat.add_assoc]
   · cases h
 | nilCheck x =>
   simp only [go1] at h
   split at h
   · rename_i i off hx
     obtain ⟨T1, hput, he⟩ := Option.map_eq_some_iff.1 h
     simp only [Prod.mk.injEq] at he
     obtain ⟨rfl, rfl⟩ := he
     refine ⟨den bs (.p i off), fun w => ?_, ht.put hput rfl, hbd.put ?_ hput⟩
     · simp [execOp, ht.evo hx, den, Sem.run_pure]
     · intro j o' he; injection he with h1 h2; subst h1; exact hbd.evo hx
   · rename_i a' c off hx
     obtain ⟨T1, hput, he⟩ := Option.map_eq_some_iff.1 h
     simp only [Prod.mk.injEq] at he
     obtain ⟨rfl, rfl⟩ := he
     refine ⟨den bs (.e a' c off), fun w => ?_, ht.put hput rfl, hbd.put (by intro j o' he; cases he) hput⟩
     simp [execOp, ht.evo hx, den, Sem.run_pure]
   · cases h
 | load t x => simp [stillOp] at hq
 | store t x y => simp [stillOp] at hq
 | box t x => simp [stillOp] at hq
 | alloc t => simp [stillOp] at hq
 | pick c x y => exact rest _ rfl h
 | binOp b t x y z => exact rest _ rfl h
 | unOp b t x => exact rest _ rfl h
 | convert b t x => exact rest _ rfl h
 | build t parts => exact rest _ rfl h
 | field t x f => exact rest _ rfl h
 | index t x i => exact rest _ rfl h
 | extract x i => exact rest _ rfl h
 | slice t x lo hi mx => exact rest _ rfl h
 | makeFunc f first cap => exact rest _ rfl h
 | makeInterface t x => exact rest _ rfl h
 | call c => exact rest _ rfl h
 | _ => simp [go1, opnds] at h
theorem HINDEX {fuel : Nat} {listed : Array Bool} {i : Nat} (t : TypeId) (x ix : Operand) (d : Nat) (ty : TypeId) (ho : opAt ops T i = some (.indexAddr t x ix, some d, ty)) (hd : d < N) (a : Option Addr) (n cap : Nat) (kd : IntKind) (z : Int) (e : TypeId) (sz : Nat)
 (hx : evv T x = some (.slice a n cap)) (hix : evv T ix = some (.int kd z)) (hu : P.underlying t = some (.slice e)) (hsz : (P.info? e).map (·.size) = some sz) (ha : a.isSome = true) (h0 : 0 ≤ z) (hn : z < n)
 (hk : (Region.noSelect ops && Region.free .any ops listed i && (Region.ready .any ops listed).contains i) = true) {js : List Nat} (hC : (pulls js C).map (·.1) = some C0)
 (k : H P N W S0 ops Q C0 fuel (listed.setIfInBounds i true) ((d, .e a (z.toNat * sz) 0) :: T) L C) : H P N W S0 ops Q C0 (fuel + 1) listed T L C := by
 refine HTAKE _ _ _ ho (by rintro _ ⟨⟩; exact hd) (.e a (z.toNat * sz) 0) (by intro j off he; cases he) hk hC ?_ k
 intro ac o bs w hev hop _ _
 obtain ⟨ad, rfl⟩ := Option.isSome_iff_exists.1 ha
 obtain ⟨inf, hi, hs⟩ := Option.map_eq_some_iff.1 hsz
 have h1 : ac.eval x = .slice (some ad) n cap := hev x _ (evo_of_evv hx)
 have h2 : ac.eval ix = .int kd z := hev ix _ (evo_of_evv hix)
 simp only [execOp, hop, h1, h2, Instr.indexAt, asIntOf, Sem.run_bind, Sem.run_pure, Result.andThen_ok, run_underlying hu]
 rw [if_pos ⟨h0, hn⟩]
 simp [Sem.run_bind, run_sizeOf hi, Sem.run_pure, hs, den, addrOf]
def HN (P : Program) (W : World) (S0 : List Nat) (ops : Array Oper) (Q : Exit → Act → World → Prop) (C0 : List Ass) (fuel : Nat) (listed : Array Bool) : Act → World → Prop :=
 fun a w => At W S0 C0 w ∧ wpAnyH P .any ops (nQ Q) (At W S0 C0) fuel listed a w
def AllOf (p : Nat → Prop) : List Nat → Prop
 | [] => True
 | [i] => p i
 | i :: is => p i ∧ AllOf p is
theorem AllOf.mem {p : Nat → Prop} : ∀ {is : List Nat}, AllOf p is → ∀ i ∈ is, p i
 | [], _, i, hi => by cases hi
 | [j], h, i, hi => by simp at hi; subst hi; exact h
 | j :: k :: is, h, i, hi => by
   rcases List.mem_cons.1 hi with rfl | hi
   · exact h.1
   · exact AllOf.mem h.2 i hi
theorem HALL {fuel : Nat} {listed : Array Bool} (rs : List Nat) (hr : Region.ready .any ops listed = rs) (hne : rs ≠ [])
 (k : AllOf (fun i => OP P N W S0 ops (nQ Q) i (HN P W S0 ops Q C0 fuel (listed.setIfInBounds i true)) T L C) rs) : H P N W S0 ops Q C0 (fuel + 1) listed T L C := fun a w h =>
 wpAnyH_all hr hne fun i hi => k.mem i hi a w h
theorem HKEEP {fuel : Nat} {listed : Array Bool} {js : List Nat} (hC : (pulls js C).map (·.1) = some C0) (k : H P N W S0 ops Q C0 fuel listed T L C) : G N W S0 (HN P W S0 ops Q C0 fuel listed) T L C := by
 intro a w h
 obtain ⟨bs, fps, ht, hb, hm⟩ := id h
 exact ⟨at_take hm.at_ hC, k a w h⟩
theorem HEND {fuel : Nat} {listed : Array Bool} (hr : Region.ready .any ops listed = []) (k : DONE N W S0 Q .normal T L C) : H P N W S0 ops Q C0 fuel listed T L C := fun a w h =>
 wpAnyH_done (Q := nQ Q) hr (show nQ Q .normal a w from k a w h) fuel
theorem HCAST {fuel : Nat} {listed : Array Bool} {d : Nat} (v v' : Value) (hd : lk T d = some (.v v)) (he : v = v') (k : H P N W S0 ops Q C0 fuel listed ((d, .v v') :: T) L C) : H P N W S0 ops Q C0 fuel listed T L C := CAST v v' hd he k
end rules
def ptC (b : Nat) (t : TypeId) (cells : List Value) : Ass :=
 ⟨fun w f => f = [b] ∧ w.heap[b]? = some (.cells cells.toArray t (0, 0)), fun _ _ _ h hb => ⟨h.1, by rw [hb b (by rw [h.1]; simp)]; exact h.2⟩, fun w f h x hx => by
   rw [h.1] at hx; simp at hx; subst hx; exact (Array.getElem?_eq_some_iff.1 h.2).1⟩
structure Cd where
 lo : Nat
 t : TypeId
 a : Option Addr
 n : Nat
 c : Nat
def RdLo (W : World) (lo : Nat) (a : Option Addr) (xs : List UInt8) : Prop := ∃ f, SlR byteL W a xs f ∧ ∀ x ∈ f, x < lo
theorem RdLo.rd {W w : World} {S0 : List Nat} {lo : Nat} {a : Option Addr} {xs : List UInt8} (h : RdLo W lo a xs) (hf : Fr S0 W w) (hS : ∀ x ∈ S0, lo ≤ x) : Rd byteL w a xs := by
 obtain ⟨f, hs, hl⟩ := h
 exact ⟨f, hs.st fun b hb => hf.block b (hs.lt b hb) (fun hm => by have := hl b hb; have := hS b hm; omega)⟩
theorem RdLo.rd0 {W : World} {lo : Nat} {a : Option Addr} {xs : List UInt8} (h : RdLo W lo a xs) : Rd byteL W a xs := let ⟨f, hs, _⟩ := h; ⟨f, hs⟩
def CodeOk (W : World) (d : Cd) : Prop := ∃ xs : List UInt8, xs.length = d.n ∧ RdLo W d.lo d.a xs
theorem CodeOk.fr {W w : World} {S0 : List Nat} {d : Cd} (h : CodeOk W d) (hf : Fr S0 W w) (hS : ∀ x ∈ S0, d.lo ≤ x) : CodeOk w d := by
 obtain ⟨xs, hn, f, hs, hl⟩ := h
 exact ⟨xs, hn, f, hs.st fun b hb => hf.block b (hs.lt b hb) (fun hm => by have := hl b hb; have := hS b hm; omega), hl⟩
theorem CodeOk.of {W w : World} {t : TypeId} {a : Option Addr} {c : Nat} {xs : List UInt8} (h : Rd byteL W a xs) (hf : Fr [] W w) : CodeOk w ⟨W.heap.size, t, a, xs.length, c⟩ := by
 obtain ⟨f, hs⟩ := h
 exact ⟨xs, rfl, f, hs.fr hf, hs.lt⟩
def curA (d : Cd) (p : Value) : Ass :=
 ⟨fun w f => ∃ b i h, p = .pointer (some ⟨b, 0, none⟩) ∧ 0 ≤ i ∧ d.lo ≤ b ∧ (ptC b d.t [.slice d.a d.n d.c, vi i, vi h]).φ w f,
   fun w w' f ⟨b, i, h, h1, h2, h3, h4⟩ hb => ⟨b, i, h, h1, h2, h3, (ptC b d.t _).st w w' f h4 hb⟩, fun w f ⟨b, i, h, h1, h2, h3, h4⟩ => (ptC b d.t _).lt w f h4⟩
def RdP {α : Type} (W : World) (p : Value) (L : Lay α) (a : Option Addr) (xs : List α) : Prop := ∃ f, SlR L W a xs f ∧ ∀ b, p = .pointer (some ⟨b, 0, none⟩) → b ∉ f
section
variable {α : Type} {L : Lay α} {W w : World} {S0 : List Nat} {C : List Ass} {p : Value} {a : Option Addr} {xs : List α}
theorem RdP.rd0 (h : RdP W p L a xs) : Rd L W a xs := let ⟨f, hs, _⟩ := h; ⟨f, hs⟩
theorem RdP.len (h : RdP W p L a xs) : xs.length ≤ 9223372036854775807 := Rd.len h.rd0
theorem RdP.fr (h : RdP W p L a xs) (hf : Fr S0 W w) (hP : ∀ x ∈ S0, p = .pointer (some ⟨x, 0, none⟩)) : RdP w p L a xs := by
 obtain ⟨f, hs, hn⟩ := h
 exact ⟨f, hs.st fun b hb => hf.block b (hs.lt b hb) (fun hm => hn b (hP b hm) hb), hn⟩
theorem RdP.rd (h : RdP W p L a xs) (hf : Fr S0 W w) (hP : ∀ x ∈ S0, p = .pointer (some ⟨x, 0, none⟩)) : Rd L w a xs := (h.fr hf hP).rd0
theorem RdP.nil (W : World) (p : Value) (L : Lay α) : RdP W p L none [] := ⟨[], ⟨by simp [maxLen], .inl ⟨rfl, rfl⟩⟩, by simp⟩
theorem holds.mem {w : World} : ∀ {C : List Ass} {fps : List (List Nat)} (i : Nat) {A : Ass}, holds w C fps → C[i]? = some A → ∃ g, A.φ w g ∧ g ∈ fps
 | A :: _, f :: _, 0, _, h, hi => by simp at hi; subst hi; exact ⟨f, h.1, by simp⟩
 | _ :: _, _ :: _, i + 1, _, h, hi => by
   obtain ⟨g, hg, hm⟩ := holds.mem i h.2 (by simpa using hi)
   exact ⟨g, hg, by simp [hm]⟩
 | [], _, _, _, _, hi => by simp at hi
 | _ :: _, [], _, _, h, _ => h.elim
theorem holds.nth2 {w : World} : ∀ {C : List Ass} {fps : List (List Nat)} (i j : Nat) {A B : Ass}, holds w C fps → fps.flatten.Nodup → C[i]? = some A → C[j]? = some B → i ≠ j → ∃ f g, A.φ w f ∧ B.φ w g ∧ ∀ x ∈ f, x ∉ g
 | A :: C, f :: fps, 0, 0, _, _, _, _, _, _, hne => absurd rfl hne
 | A :: C, f :: fps, 0, j + 1, _, B, h, hn, hi, hj, _ => by
   simp at hi; subst hi
   have hn' := List.nodup_append.1 (by simpa using hn : (f ++ fps.flatten).Nodup)
   obtain ⟨g, hg, hs⟩ : ∃ g, B.φ w g ∧ g ∈ fps := holds.mem j h.2 (by simpa using hj)
   exact ⟨f, g, h.1, hg, fun x hx hxg => hn'.2.2 x hx x (List.mem_flatten.2 ⟨g, hs, hxg⟩) rfl⟩
 | A :: C, f :: fps, i + 1, 0, _, B, h, hn, hi, hj, _ => by
   simp at hj; subst hj
   have hn' := List.nodup_append.1 (by simpa using hn : (f ++ fps.flatten).Nodup)
   obtain ⟨g, hg, hs⟩ := holds.mem i h.2 (by simpa using hi)
   exact ⟨g, f, hg, h.1, fun x hx hxf => hn'.2.2 x hxf x (List.mem_flatten.2 ⟨g, hs, hx⟩) rfl⟩
 | A :: C, f :: fps, i + 1, j + 1, _, _, h, hn, hi, hj, hne => by
   have hn' := List.nodup_append.1 (by simpa using hn : (f ++ fps.flatten).Nodup)
   exact holds.nth2 i j h.2 hn'.2.1 (by simpa using hi) (by simpa using hj) (by omega)
 | [], _, _, _, _, _, _, _, hi, _, _ => by simp at hi
 | _ :: _, [], _, _, _, _, h, _, _, _, _ => h.elim
theorem RdP.own {e : TypeId} {n c : Nat} {d : Cd} (hw : At W S0 C w) (i j : Nat) (hi : C[i]? = some (slA e L (.slice a n c) xs)) (hj : C[j]? = some (curA d p)) (hij : i ≠ j) : RdP w p L a xs := by
 obtain ⟨fps, hh, hn, _⟩ := hw.ch
 obtain ⟨f, g, hf, hg, hd⟩ := holds.nth2 i j hh hn hi hj hij
 obtain ⟨a', c', f', hv, hsub, hr⟩ := SlO.rd hf
 injection hv with e1 e2 e3
 subst e1
 obtain ⟨b, _, _, h1, _, _, h4, _⟩ := hg
 refine ⟨f', hr, fun b' hb' hm => ?_⟩
 rw [h1] at hb'
 injection hb' with hb'
 injection hb' with hb'
 injection hb' with hb'
 subst hb'
 exact hd _ (hsub _ hm) (by rw [h4]; simp)
end
section rules
variable {P : Program} {N : Nat} {W : World} {S0 : List Nat} {Q : Exit → Act → World → Prop} {T : Tm} {L : Bx} {C : List Ass} {ops : Array Oper} {K : Act → World → Prop}
theorem ptC_elem {b : Nat} {t : TypeId} {cells : List Value} {w : World} (h : ∃ f, (ptC b t cells).φ w f) : ElemAt w (some ⟨b, 0, none⟩) 0 cells := by
 obtain ⟨f, _, hh⟩ := h
 intro j hj
 have e : (addrOf (some ⟨b, 0, none⟩)).add (0 + j) = ⟨b, j, none⟩ := by simp [addrOf, add_lit]
 rw [e]
 simp only [World.cell?, hh]
 simp
theorem STOREC {i : Nat} (t : TypeId) (x y : Operand) (ty : TypeId) (ho : opAt ops T i = some (.store t x y, none, ty)) (j : Nat) (R : List Ass) (b off : Nat) (tb : TypeId) (cells cells' : List Value) (hp : pulls [j] C = some ([ptC b tb cells], R))
 (v : Value) (hx : evo T x = some (.e (some ⟨b, 0, none⟩) 0 off)) (hy : evv T y = some v) (hst : storeOf P t cells off v = some cells') (k' : G N W S0 K T L (R ++ [ptC b tb cells'])) : OP P N W S0 ops Q i K T L C := by
 refine STEPM (js := [j]) (ι := Unit) (val := fun _ => undef) (own := fun _ => [ptC b tb cells']) _ none _ ho (by rintro _ ⟨⟩) hp ?_ (fun _ => k')
 intro ac o bs w fps hev hop hty hat hown hnd
 match fps, hown with
 | [fp], ⟨⟨hfp, hh⟩, _⟩ =>
   obtain ⟨w', hrun, hn, hs, h1, h2, h3, h4⟩ := storeOf_run (P := P) hh hst
   have e1 : ac.eval x = .pointer (some ⟨b, off, none⟩) := by rw [hev x _ hx]; simp [den, addrOf, add_lit]
   have e2 : ac.eval y = v := hev y _ (evo_of_evv hy)
   refine ⟨(), w', .skip, [[b]], ?_, .inr ⟨rfl, rfl⟩, ⟨⟨rfl, hn⟩, trivial⟩, by simp, ?_, ?_⟩
   · simp only [execOp, hop, e1, e2, Instr.storeAt, Instr.sureAddr, Sem.run_bind, Sem.run_pure, Result.andThen_ok, hrun]
   · intro c hc _; rw [hfp]; simpa using hc
   · refine ⟨h1, h2, h3, by omega, fun c hc hne => h4 c (fun e => hne (by rw [hfp]; simp [e]))⟩
end rules
def prodL {α β : Type} (A : Lay α) (B : Lay β) : Lay (α × β) where
 sz := A.sz + B.sz
 rep := fun m w cs x f => ∃ c1 c2 f1 f2, cs = c1 ++ c2 ∧ f = f1 ++ f2 ∧ A.rep m w c1 x.1 f1 ∧ B.rep m w c2 x.2 f2
 len := by rintro m w cs x f ⟨c1, c2, f1, f2, rfl, rfl, h1, h2⟩; rw [List.length_append, A.len h1, B.len h2]
 one := by
  rintro m w cs x f ⟨c1, c2, f1, f2, rfl, rfl, h1, h2⟩ u hu
  rcases List.mem_append.1 hu with h | h
  · exact A.one h1 u h
  · exact B.one h2 u h
 st := by
  rintro m w w' cs x f ⟨c1, c2, f1, f2, rfl, rfl, h1, h2⟩ hb
  exact ⟨c1, c2, f1, f2, rfl, rfl, A.st h1 fun b hm => hb b (List.mem_append.2 (.inl hm)), B.st h2 fun b hm => hb b (List.mem_append.2 (.inr hm))⟩
 lt := by
  rintro m w cs x f ⟨c1, c2, f1, f2, rfl, rfl, h1, h2⟩ b hb
  rcases List.mem_append.1 hb with h | h
  · exact A.lt h1 b h
  · exact B.lt h2 b h
 rd := by
  rintro w cs x f ⟨c1, c2, f1, f2, rfl, rfl, h1, h2⟩
  obtain ⟨g1, hg1, k1⟩ := A.rd h1
  obtain ⟨g2, hg2, k2⟩ := B.rd h2
  refine ⟨g1 ++ g2, fun b hb => ?_, c1, c2, g1, g2, rfl, rfl, k1, k2⟩
  rcases List.mem_append.1 hb with h | h
  · exact List.mem_append.2 (.inl (hg1 b h))
  · exact List.mem_append.2 (.inr (hg2 b h))
def viaL {α β : Type} (L : Lay β) (g : α → β) : Lay α where
 sz := L.sz
 rep := fun m w cs x f => L.rep m w cs (g x) f
 len := L.len
 one := L.one
 st := L.st
 lt := L.lt
 rd := L.rd
theorem ElemAt.fr {W w : World} {a : Option Addr} {c : Nat} {cs : List Value} (h : ElemAt W a c cs) (hf : Fr [] W w) : ElemAt w a c cs := by
 intro j hj
 have h1 := h j hj
 rw [List.getElem?_eq_getElem hj] at h1 ⊢
 have hlt := World.block_lt_of_cell? _ _ h1
 rw [World.cell?_of_block (hf.block _ hlt (by simp))]
 exact h1
theorem sl_view {α : Type} {e : TypeId} {L : Lay α} {W : World} {a : Option Addr} {xss : List (List α)} (h : Rd (sl e L) W a xss) {k : Nat} {x : List α} (hk : xss[k]? = some x) :
 ∃ (a1 : Option Addr) (c1 : Nat), ElemAt W a (k * 1) [.slice a1 x.length c1] ∧ Rd L W a1 x ∧ x.length ≤ c1 := by
 obtain ⟨cs, g, ⟨a1, c1, rfl, h1⟩, h2⟩ := h.elem hk
 simp only [Bool.false_eq_true, if_false] at h1
 exact ⟨a1, c1, h2, ⟨g, h1.2⟩, h1.1⟩
def slX {α : Type} (e : TypeId) (L : Lay α) (v : Value) (xs : List α) (cells : List Value) : Ass :=
 ⟨fun w f => ∃ g, ownsR w e L.sz v xs.length cells ∧ f = v.ownBlock.toList ++ g ∧ cellsRep L true w cells xs g ∧ xs.length ≤ maxLen,
   fun w w' f h hb => by
    obtain ⟨g, h1, rfl, h3, h4⟩ := h
    exact ⟨g, h1.st (fun b hm => hb b (List.mem_append.2 (.inl (by simpa using hm)))), rfl, h3.st fun b hm => hb b (List.mem_append.2 (.inr hm)), h4⟩,
   fun w f h => by
    obtain ⟨g, h1, rfl, h3, h4⟩ := h
    exact SlO.lt ⟨cells, g, h1, rfl, h3, h4⟩⟩
section rules
variable {P : Program} {N : Nat} {W : World} {S0 : List Nat} {Q : Exit → Act → World → Prop} {T : Tm} {L : Bx} {C : List Ass} {ops : Array Oper} {K : Act → World → Prop} {α : Type}
end rules
section
variable {α : Type} {e : TypeId} {L : Lay α} {w : World} {a : Option Addr} {n c : Nat} {cells : List Value}
theorem take_one {cells : List Value} {k : Nat} {v : Value} (h : cells[k]? = [v][0]?) : (cells.drop k).take 1 = [v] := by
 simp at h
 obtain ⟨hk, rfl⟩ := List.getElem?_eq_some_iff.1 h
 rw [List.drop_eq_getElem_cons hk]
 rfl
theorem slX.elem {xs : List α} (h : ∃ f, (slX e L (.slice a n c) xs cells).φ w f) {k : Nat} {x : α} (hk : xs[k]? = some x) : ElemAt w a (k * L.sz) ((cells.drop (k * L.sz)).take L.sz) := by
 obtain ⟨f, g, h1, _, h3, _⟩ := h
 have hkl : k < xs.length := (List.getElem?_eq_some_iff.1 hk).1
 rcases h1.2 with ⟨hv, h0⟩ | ⟨b, ob, cap, cur, fz, hv, _⟩
 · omega
 · injection hv with e1 e2 e3
   subst e1; subst e2; subst e3
   have hl := h3.len
   intro j hj
   rw [List.length_take, List.length_drop] at hj
   have hlt : k * L.sz + j < cells.length := by omega
   have := h1.cells (k * L.sz + j) cells[k * L.sz + j] (List.getElem?_eq_getElem hlt)
   have ea : (addrOf (some ⟨b, ob, none⟩)).add (k * L.sz + j) = (⟨b, ob, none⟩ : Addr).add (k * L.sz + j) := rfl
   rw [ea, this, List.getElem?_take, if_pos (by omega), List.getElem?_drop, List.getElem?_eq_getElem hlt]
theorem slX.rd {e' : TypeId} {xss : List (List α)} (h : ∃ f, (slX e (sl e' L) (.slice a n c) xss cells).φ w f) {k : Nat} {x : List α} (hk : xss[k]? = some x) {a1 : Option Addr} {c1 : Nat} (hc1 : (cells.drop (k * 1)).take 1 = [.slice a1 x.length c1]) : Rd L w a1 x := by
 obtain ⟨f, g, h1, _, h3, _⟩ := h
 obtain ⟨cs, g', ⟨a2, c2, rfl, hr⟩, _, hc⟩ := h3.at_ k hk
 have h0 := hc 0 (show 0 < 1 by decide)
 have hz : (sl e' L).sz = 1 := rfl
 rw [hz, Nat.add_zero] at h0
 rw [take_one h0] at hc1
 injection hc1 with hc1 _
 injection hc1 with e1 e2 e3
 subst e1
 obtain ⟨_, _, f'', hv, _, hr'⟩ := SlO.rd (by simpa using hr)
 injection hv with e4 e5 e6
 subst e4
 exact ⟨f'', hr'⟩
end
theorem cellsRep.set {α : Type} {L : Lay α} {w : World} {z : α} {cs : List Value} {fz : List Nat} (hz : L.rep true w cs z fz) : ∀ {xs : List α} {cells g} (k : Nat), k < xs.length → cellsRep L true w cells xs g →
 ∃ g', cellsRep L true w (setCells cells (k * L.sz) cs) (xs.set k z) g' ∧ ∃ r, r.Sublist g ∧ g'.Perm (r ++ fz)
 | [], cells, g, k, hk, _ => by simp at hk
 | x :: xs, cells, g, 0, _, ⟨c1, rest, f1, f2, h1, h2, h3, h4⟩ => by
   subst h1; subst h2
   have hl1 := L.len h3
   have hl2 := L.len hz
   have hset : setCells (c1 ++ rest) (0 * L.sz) cs = cs ++ rest := by
    rw [Nat.zero_mul, setCells_left _ _ _ _ (by omega)]
    congr 1
    have := setCells_take cs c1 0 (by omega)
    rw [Nat.zero_add, List.take_of_length_le (by rw [setCells_length]; omega)] at this
    simpa using this
   rw [hset]
   exact ⟨fz ++ f2, ⟨cs, rest, fz, f2, rfl, rfl, hz, h4⟩, f2, List.sublist_append_right _ _, List.perm_append_comm⟩
 | x :: xs, cells, g, k + 1, hk, ⟨c1, rest, f1, f2, h1, h2, h3, h4⟩ => by
   subst h1; subst h2
   obtain ⟨g', hg', r, hr, hp⟩ := cellsRep.set hz k (by simpa using hk) h4
   have hl1 := L.len h3
   have hset : setCells (c1 ++ rest) ((k + 1) * L.sz) cs = c1 ++ setCells rest (k * L.sz) cs := by
    rw [show (k + 1) * L.sz = c1.length + k * L.sz by rw [hl1, Nat.add_mul]; omega]
    exact setCells_append c1 rest cs (k * L.sz)
   rw [hset]
   exact ⟨f1 ++ g', ⟨c1, _, f1, g', rfl, rfl, h3, hg'⟩, f1 ++ r, List.Sublist.append_left hr f1, by rw [List.append_assoc]; exact hp.append_left f1⟩
section rules
variable {P : Program} {N : Nat} {W : World} {S0 : List Nat} {Q : Exit → Act → World → Prop} {T : Tm} {L : Bx} {C : List Ass} {ops : Array Oper} {K : Act → World → Prop} {α : Type}
theorem STOREN {i : Nat} (t : TypeId) (x y : Operand) (ty : TypeId) (ho : opAt ops T i = some (.store t x y, none, ty)) (e : TypeId) (La : Lay α) (a : Option Addr) (n cap k : Nat) (xs : List α) (js : List Nat) (pre R : List Ass) (hp : pulls js C = some (slA e La (.slice a n cap) xs :: pre, R))
 (z : α) (hk : k < xs.length) (v : Value) (hx : evo T x = some (.e a (k * La.sz) 0)) (hy : evv T y = some v) (hi : (P.info? t).map (·.size) = some v.cells.size)
 (hrep : ∀ w fps, holds w pre fps → La.rep true w v.cells.toList z fps.flatten)
 (k' : G N W S0 K T L (R ++ [slA e La (.slice a n cap) (xs.set k z)])) : OP P N W S0 ops Q i K T L C := by
 refine STEPM (js := js) (ι := Unit) (val := fun _ => undef) (own := fun _ => [slA e La (.slice a n cap) (xs.set k z)]) _ none _ ho (by rintro _ ⟨⟩) hp ?_ (fun _ => k')
 intro ac o bs w fps hev hop hty hat hown hnd
 match fps, hown with
 | fp :: fps, ⟨⟨cells, g, hrow, hfp, hcr, hlen⟩, hpre⟩ =>
   have hz := hrep w fps hpre
   rcases hrow.2 with ⟨hv, h0⟩ | ⟨b, ob, cap', cur, fz, hv, _, _⟩
   · omega
   · injection hv with e1 e2 e3
     subst e1; subst e2; subst e3
     obtain ⟨inf, hinf, hsz⟩ := Option.map_eq_some_iff.1 hi
     have hzl := La.len hz
     have hcl := hcr.len
     have hone : v.cells.toList.all isCell = true := List.all_eq_true.2 (La.one hz)
     have hkm : (k + 1) * La.sz ≤ xs.length * La.sz := Nat.mul_le_mul_right _ hk
     rw [Nat.add_mul] at hkm
     obtain ⟨w', hr, hrow', hg⟩ := run_storeCells_row (P := P) v.cells.toList w 0 (k * La.sz) _ hrow hone (by rw [Nat.add_zero, hzl]; omega)
     have hnd2 := List.nodup_append.1 (by simpa using hnd : (fp ++ fps.flatten).Nodup)
     have hndf := hnd2.1
     rw [hfp] at hndf
     have hb0 : (Value.slice (some ⟨b, ob, none⟩) xs.length cap).ownBlock.toList = [b] := by simp [Value.ownBlock]
     rw [hb0] at hndf hfp
     have hbg : b ∉ g := by simp only [List.singleton_append, List.nodup_cons] at hndf; exact hndf.1
     have hgn : g.Nodup := by simp only [List.singleton_append, List.nodup_cons] at hndf; exact hndf.2
     have hbf : ∀ q ∈ fps.flatten, q ≠ b := fun q hq he => hnd2.2.2 b (by rw [hfp]; simp) q hq he.symm
     have hltz : ∀ q ∈ fps.flatten, q < w.heap.size := La.lt hz
     have hz' : La.rep true w' v.cells.toList z fps.flatten := La.st hz fun q hq => hg.block q (hltz q hq) (fun he => hbf q hq (by injection he))
     have hcr' : cellsRep La true w' cells xs g := hcr.st fun q hq => hg.block q (hcr.lt q hq) (fun he => by injection he with he; subst he; exact hbg hq)
     obtain ⟨g', hg', r, hrs, hperm⟩ := cellsRep.set hz' k hk hcr'
     have hmem : ∀ q ∈ g', q ∈ g ∨ q ∈ fps.flatten := fun q hq => (List.mem_append.1 (hperm.subset hq)).imp (fun h => hrs.subset h) id
     refine ⟨(), w', .skip, [[b] ++ g'], ?_, .inr ⟨rfl, rfl⟩, ⟨⟨_, g', ?_, by rw [hb0], hg', by simpa using hlen⟩, trivial⟩, ?_, ?_, ?_⟩
     · have h1 : ac.eval x = .pointer (some ⟨b, ob + k * La.sz, none⟩) := by rw [hev x _ hx]; simp [den, addrOf, add_lit]
       have h2 : ac.eval y = v := hev y _ (evo_of_evv hy)
       simp only [execOp, hop, h1, h2, Instr.storeAt, Instr.sureAddr, Sem.run_bind, Sem.run_pure, Result.andThen_ok, storeVar, run_sizeOf hinf, hsz]
       simp [hr, Sem.run_pure]
     · rw [List.length_set]
       simpa using hrow'
     · simp only [List.flatten_cons, List.flatten_nil, List.append_nil, List.singleton_append, List.nodup_cons]
       refine ⟨fun hq => ?_, hperm.nodup_iff.2 (List.nodup_append.2 ⟨hrs.nodup hgn, hnd2.2.1, fun p hp q hq he => ?_⟩)⟩
       · rcases hmem b hq with h | h
         · exact hbg h
         · exact hbf b h rfl
       · exact hnd2.2.2 p (by rw [hfp]; simp [hrs.subset hp]) q hq he
     · intro q hq _
       simp only [List.flatten_cons, List.flatten_nil, List.append_nil, List.mem_append, List.mem_singleton] at hq ⊢
       rw [hfp]
       rcases hq with h | h
       · simp [h]
       · rcases hmem q h with h | h
         · simp [h]
         · exact .inr h
     · refine ⟨hg.os, hg.tape, hg.output, hg.size, fun q hq hne => hg.block q hq (fun he => hne ?_)⟩
       injection he with he
       subst he
       simp [hfp]
end rules
theorem nestRep {α : Type} {e e' : TypeId} {L : Lay α} {a : Option Addr} {c : Nat} {x : List α} : ∀ w fps, holds w [slA e L (.slice a x.length c) x] fps → (sl e L).rep true w [.slice a x.length c] x fps.flatten := by
 intro w fps h
 match fps, h with
 | [f], ⟨h1, _⟩ => exact ⟨a, c, rfl, by simp only [if_true, List.flatten_cons, List.flatten_nil, List.append_nil]; exact h1⟩
theorem oneRep {α : Type} {L : Lay α} {pre : List Ass} {cells : List Value} {x : α} (h : ∀ w fps, holds w pre fps → L.rep true w cells x fps.flatten) : ∀ w fps, holds w pre fps → cellsRep L true w cells [x] fps.flatten :=
 fun w fps hf => ⟨cells, [], fps.flatten, [], by simp, by simp, h w fps hf, rfl, rfl⟩
def expS (bs : List Nat) : SV → SV
 | .p i off => match bs[i]? with
   | some b => .e (some ⟨b, 0, none⟩) 0 off
   | none => .p (i - bs.length) off
 | s => s
def expT (bs : List Nat) : Tm → Tm
 | [] => []
 | (k, s) :: T => (k, expS bs s) :: expT bs T
def expC : List Nat → Bx → List Ass
 | b :: bs, (t, cs) :: L => ptC b t cs :: expC bs L
 | _, _ => []
theorem lk_expT {bs : List Nat} : ∀ {T : Tm} {i : Nat}, lk (expT bs T) i = (lk T i).map (expS bs)
 | [], i => rfl
 | (k, s) :: T, i => by
   simp only [expT, lk]
   split
   · rfl
   · exact lk_expT
theorem den_expS {bs bs1 : List Nat} {s : SV} : den bs1 (expS bs s) = den (bs ++ bs1) s := by
 cases s with
 | v x => rfl
 | e a c off => rfl
 | p i off =>
   simp only [expS]
   split
   · rename_i b hb
     have hlt : i < bs.length := (List.getElem?_eq_some_iff.1 hb).1
     simp only [den, addrOf, Nat.zero_add, List.getD_eq_getElem?_getD, List.getElem?_append_left hlt, hb]
     simp [add_lit]
   · rename_i hb
     have hge : bs.length ≤ i := by
      rcases Nat.lt_or_ge i bs.length with h | h
      · rw [List.getElem?_eq_getElem h] at hb; cases hb
      · exact h
     simp only [den, List.getD_eq_getElem?_getD, List.getElem?_append_right hge]
theorem expC_holds {w : World} : ∀ {L : Bx} {bs : List Nat}, boxes w L bs → holds w (expC bs L) (bs.map fun b => [b])
 | [], [], _ => trivial
 | (t, cs) :: L, b :: bs, h => ⟨⟨rfl, h.1⟩, expC_holds h.2⟩
 | [], _ :: _, h => h.elim
 | _ :: _, [], h => h.elim
theorem holds_expC {w : World} : ∀ {L : Bx} {bs : List Nat} {fps : List (List Nat)}, bs.length = L.length → holds w (expC bs L) fps → boxes w L bs ∧ fps = bs.map fun b => [b]
 | [], [], [], _, _ => ⟨trivial, rfl⟩
 | (t, cs) :: L, b :: bs, f :: fps, hl, h => by
   obtain ⟨h1, h2⟩ := holds_expC (L := L) (bs := bs) (fps := fps) (by simpa using hl) h.2
   exact ⟨⟨h.1.2, h1⟩, by rw [h2, h.1.1]; rfl⟩
 | [], [], _ :: _, _, h => h.elim
 | (_, _) :: _, _ :: _, [], _, h => h.elim
theorem map_one_flatten : ∀ (bs : List Nat), (bs.map fun b => [b]).flatten = bs
 | [] => rfl
 | b :: bs => by simp [map_one_flatten bs]
theorem bounded_expT {bs : List Nat} : ∀ {T : Tm}, bounded bs.length T → bounded 0 (expT bs T)
 | [], _ => trivial
 | (k, .p i off) :: T, h => by
   simp only [expT, expS, List.getElem?_eq_getElem h.1]
   exact bounded_expT h.2
 | (k, .v _) :: T, h => bounded_expT (T := T) h
 | (k, .e _ _ _) :: T, h => bounded_expT (T := T) h
theorem boxes_append {w : World} : ∀ {L M : Bx} {bs cs : List Nat}, boxes w L bs → boxes w M cs → boxes w (L ++ M) (bs ++ cs)
 | [], M, [], cs, _, k => k
 | (t, c) :: L, M, b :: bs, cs, h, k => ⟨h.1, boxes_append h.2 k⟩
 | [], _, _ :: _, _, h, _ => h.elim
 | _ :: _, _, [], _, h, _ => h.elim
section rules
variable {N : Nat} {W : World} {S0 : List Nat} {T : Tm} {L : Bx} {C : List Ass} {K : Act → World → Prop}
theorem EXPORT (k : ∀ bs : List Nat, bs.length = L.length → G N W S0 K (expT bs T) [] (expC bs L ++ C)) : G N W S0 K T L C := by
 rintro a w ⟨bs, fps, ht, hb, hm⟩
 have hl := boxes_len hm.bx
 refine k bs hl a w ⟨[], (bs.map fun b => [b]) ++ fps, ⟨ht.1, ht.2.1, fun i x hx => ?_⟩, bounded_expT (by rw [hl]; exact hb), ⟨hm.fr, trivial, (expC_holds hm.bx).append hm.ch, ?_, ?_⟩⟩
 · rw [lk_expT] at hx
   obtain ⟨s, hs, rfl⟩ := Option.map_eq_some_iff.1 hx
   rw [den_expS, List.append_nil]
   exact ht.2.2 i s hs
 · simp only [List.nil_append, List.flatten_append, map_one_flatten]
   exact hm.nd
 · simp only [List.nil_append, List.flatten_append, map_one_flatten]
   exact hm.new
end rules
theorem len1 {bs : List Nat} (h : bs.length = 1) : ∃ a0, bs = [a0] := by
 match bs, h with
 | [a0], _ => exact ⟨a0, rfl⟩
theorem len2 {bs : List Nat} (h : bs.length = 2) : ∃ a0 a1, bs = [a0, a1] := by
 match bs, h with
 | [a0, a1], _ => exact ⟨a0, a1, rfl⟩
theorem len3 {bs : List Nat} (h : bs.length = 3) : ∃ a0 a1 a2, bs = [a0, a1, a2] := by
 match bs, h with
 | [a0, a1, a2], _ => exact ⟨a0, a1, a2, rfl⟩
theorem len4 {bs : List Nat} (h : bs.length = 4) : ∃ a0 a1 a2 a3, bs = [a0, a1, a2, a3] := by
 match bs, h with
 | [a0, a1, a2, a3], _ => exact ⟨a0, a1, a2, a3, rfl⟩
theorem len5 {bs : List Nat} (h : bs.length = 5) : ∃ a0 a1 a2 a3 a4, bs = [a0, a1, a2, a3, a4] := by
 match bs, h with
 | [a0, a1, a2, a3, a4], _ => exact ⟨a0, a1, a2, a3, a4, rfl⟩
theorem len6 {bs : List Nat} (h : bs.length = 6) : ∃ a0 a1 a2 a3 a4 a5, bs = [a0, a1, a2, a3, a4, a5] := by
 match bs, h with
 | [a0, a1, a2, a3, a4, a5], _ => exact ⟨a0, a1, a2, a3, a4, a5, rfl⟩
theorem At.rdO {α : Type} {W w : World} {S0 : List Nat} {C : List Ass} (hw : At W S0 C w) (j : Nat) {e : TypeId} {La : Lay α} {a : Option Addr} {n c : Nat} {xs : List α} (h : C[j]? = some (slA e La (.slice a n c) xs)) : Rd La w a xs :=
 Rd.own (hw.own j h)
section join
variable {P : Program} {N : Nat} {W : World} {S0 : List Nat} {Q : Exit → Act → World → Prop} {T : Tm} {L : Bx} {C : List Ass}
end join
theorem NL {n m : Nat} (h : Nat.ble n m = true) : n ≤ m := Nat.le_of_ble_eq_true h
theorem NO {n N : Nat} (h : Nat.ble (n + 1) N = true) : ∀ k, some n = some k → k < N := by
 rintro _ ⟨⟩; exact Nat.le_of_ble_eq_true h
theorem cellsRep.split {α : Type} {L : Lay α} {m : Bool} {w : World} : ∀ {xs : List α} {cells f} (k : Nat) {x : α}, cellsRep L m w cells xs f → xs[k]? = some x →
 ∃ cl cs cr gl g gr, cells = cl ++ (cs ++ cr) ∧ f = gl ++ (g ++ gr) ∧ cellsRep L m w cl (xs.take k) gl ∧ L.rep m w cs x g ∧ cellsRep L m w cr (xs.drop (k + 1)) gr
 | [], _, _, _, _, _, hk => by simp at hk
 | y :: xs, cells, f, 0, x, ⟨cs, rest, f1, f2, h1, h2, h3, h4⟩, hk => by
   simp at hk; subst hk; subst h1; subst h2
   exact ⟨[], cs, rest, [], f1, f2, rfl, rfl, ⟨rfl, rfl⟩, h3, by simpa using h4⟩
 | y :: xs, cells, f, k + 1, x, ⟨cs, rest, f1, f2, h1, h2, h3, h4⟩, hk => by
   subst h1; subst h2
   obtain ⟨cl, c1, cr, gl, g, gr, rfl, rfl, h5, h6, h7⟩ := h4.split k (by simpa using hk)
   exact ⟨cs ++ cl, c1, cr, f1 ++ gl, g, gr, by simp, by simp, ⟨cs, cl, f1, gl, rfl, rfl, h3, h5⟩, h6, by simpa using h7⟩
def slHo {α : Type} (e : TypeId) (L : Lay α) (v : Value) (xs : List α) (k : Nat) (cs : List Value) : Ass :=
 ⟨fun w f => ∃ cl cr gl gr, ownsR w e L.sz v xs.length (cl ++ (cs ++ cr)) ∧ f = v.ownBlock.toList ++ (gl ++ gr) ∧ cellsRep L true w cl (xs.take k) gl ∧ cellsRep L true w cr (xs.drop (k + 1)) gr ∧ cs.length = L.sz ∧ k < xs.length ∧ xs.length ≤ maxLen,
   fun w w' f h hb => by
    obtain ⟨cl, cr, gl, gr, h1, rfl, h3, h4, h5⟩ := h
    exact ⟨cl, cr, gl, gr, h1.st (fun b hm => hb b (List.mem_append.2 (.inl (by simpa using hm)))), rfl, h3.st fun b hm => hb b (List.mem_append.2 (.inr (List.mem_append.2 (.inl hm)))), h4.st fun b hm => hb b (List.mem_append.2 (.inr (List.mem_append.2 (.inr hm)))), h5⟩,
   fun w f h b hb => by
    obtain ⟨cl, cr, gl, gr, h1, rfl, h3, h4, h5⟩ := h
    rcases List.mem_append.1 hb with hb | hb
    · exact h1.lt b (by simpa using hb)
    · rcases List.mem_append.1 hb with hb | hb
      · exact h3.lt b hb
      · exact h4.lt b hb⟩
theorem slHo.elem {α : Type} {e : TypeId} {L : Lay α} {w : World} {a : Option Addr} {n c k : Nat} {xs : List α} {cs : List Value} (h : ∃ f, (slHo e L (.slice a n c) xs k cs).φ w f) : ElemAt w a (k * L.sz) cs := by
 obtain ⟨f, cl, cr, gl, gr, h1, _, h3, h4, h5, h6, h7⟩ := h
 have hl := h3.len
 rw [List.length_take, Nat.min_eq_left (by omega)] at hl
 rcases h1.2 with ⟨hv, h0⟩ | ⟨b, ob, cap, cur, fz, hv, _⟩
 · omega
 · injection hv with e1 e2 e3
   subst e1; subst e2; subst e3
   intro j hj
   have hlt : k * L.sz + j < (cl ++ (cs ++ cr)).length := by simp only [List.length_append]; omega
   have := h1.cells (k * L.sz + j) _ (List.getElem?_eq_getElem hlt)
   have ea : (addrOf (some ⟨b, ob, none⟩)).add (k * L.sz + j) = (⟨b, ob, none⟩ : Addr).add (k * L.sz + j) := rfl
   rw [ea, this, ← List.getElem?_eq_getElem hlt, List.getElem?_append_right (by omega), hl, Nat.add_sub_cancel_left, List.getElem?_append_left hj]
section rules
variable {P : Program} {N : Nat} {W : World} {S0 : List Nat} {Q : Exit → Act → World → Prop} {T : Tm} {L : Bx} {C : List Ass} {ops : Array Oper} {K : Act → World → Prop} {α : Type}
theorem HOLE {e : TypeId} {La : Lay α} {v : Value} {xs : List α} {k : Nat} {x : α} {ι : Type} (cv : ι → List Value) (pc : ι → List Ass) (j : Nat) (R : List Ass) (hp : pulls [j] C = some ([slA e La v xs], R)) (hk : xs[k]? = some x)
 (hun : ∀ w cs f, La.rep true w cs x f → ∃ i fps, cs = cv i ∧ holds w (pc i) fps ∧ fps.flatten = f) (kk : ∀ i, G N W S0 K T L (R ++ (slHo e La v xs k (cv i) :: pc i))) : G N W S0 K T L C := by
 rintro a w ⟨bs, fps, ht, hb, hm⟩
 obtain ⟨xps, hx, hnx, hex⟩ := hm.exch hp
 match xps, hx with
 | [fp], ⟨⟨cells, g, h1, h2, h3, h4⟩, _⟩ =>
   obtain ⟨cl, cs, cr, gl, gm, gr, rfl, rfl, h5, h6, h7⟩ := h3.split k hk
   obtain ⟨i, ips, rfl, hi, hf⟩ := hun w cs gm h6
   have hperm : ((v.ownBlock.toList ++ (gl ++ gr)) ++ gm).Perm fp := by
    rw [h2, List.append_assoc]
    refine List.Perm.append_left _ ?_
    rw [List.append_assoc]
    exact List.Perm.append_left _ List.perm_append_comm
   obtain ⟨fps', hmem⟩ := hex w (slHo e La v xs k (cv i) :: pc i) ((v.ownBlock.toList ++ (gl ++ gr)) :: ips) ⟨⟨cl, cr, gl, gr, h1, rfl, h5, h7, La.len h6, (List.getElem?_eq_some_iff.1 hk).1, h4⟩, hi⟩
    (by rw [List.flatten_cons, hf]; exact hperm.nodup_iff.2 (by simpa using hnx)) (fun b hb _ => by rw [List.flatten_cons, hf] at hb; simpa using hperm.subset hb) (Fr.refl _ _)
   exact kk i a w ⟨bs, fps', ht, hb, hmem⟩
theorem UNHOLE {e : TypeId} {La : Lay α} {v : Value} {xs : List α} {k : Nat} {cs : List Value} (x : α) (js : List Nat) (pre R : List Ass) (hp : pulls js C = some (slHo e La v xs k cs :: pre, R))
 (hrep : ∀ w fps, holds w pre fps → La.rep true w cs x fps.flatten) (kk : G N W S0 K T L (R ++ [slA e La v (xs.set k x)])) : G N W S0 K T L C := by
 rintro a w ⟨bs, fps, ht, hb, hm⟩
 obtain ⟨xps, hx, hnx, hex⟩ := hm.exch hp
 match xps, hx with
 | fp :: pps, ⟨⟨cl, cr, gl, gr, h1, h2, h3, h4, h5, h6, h7⟩, hpre⟩ =>
   have hr := hrep w pps hpre
   have hset : xs.set k x = xs.take k ++ (x :: xs.drop (k + 1)) := by
    rw [List.set_eq_take_append_cons_drop, if_pos h6]
   have hc : cellsRep La true w (cl ++ (cs ++ cr)) (xs.set k x) (gl ++ (pps.flatten ++ gr)) := by
    rw [hset]
    exact h3.append ⟨cs, cr, pps.flatten, gr, rfl, rfl, hr, h4⟩
   have hperm : (v.ownBlock.toList ++ (gl ++ (pps.flatten ++ gr))).Perm (fp ++ pps.flatten) := by
    rw [h2, List.append_assoc]
    refine List.Perm.append_left _ ?_
    rw [List.append_assoc]
    exact List.Perm.append_left _ List.perm_append_comm
   obtain ⟨fps', hmem⟩ := hex w [slA e La v (xs.set k x)] [v.ownBlock.toList ++ (gl ++ (pps.flatten ++ gr))] ⟨⟨_, _, by rw [List.length_set]; exact h1, rfl, hc, by rw [List.length_set]; exact h7⟩, trivial⟩
    (by simp only [List.flatten_cons, List.flatten_nil, List.append_nil]; exact hperm.nodup_iff.2 (by simpa using hnx)) (fun b hb _ => by
      simp only [List.flatten_cons, List.flatten_nil, List.append_nil] at hb
      simpa using hperm.subset hb) (Fr.refl _ _)
   exact kk a w ⟨bs, fps', ht, hb, hmem⟩
theorem STOREH {i : Nat} (t : TypeId) (x y : Operand) (ty : TypeId) (ho : opAt ops T i = some (.store t x y, none, ty)) (j : Nat) (R : List Ass) (e : TypeId) (La : Lay α) (a : Option Addr) (n cap k off : Nat) (xs : List α) (cs cs' : List Value)
 (hp : pulls [j] C = some ([slHo e La (.slice a n cap) xs k cs], R)) (v : Value) (hx : evo T x = some (.e a (k * La.sz) off)) (hy : evv T y = some v) (hst : storeOf P t cs off v = some cs')
 (k' : G N W S0 K T L (R ++ [slHo e La (.slice a n cap) xs k cs'])) : OP P N W S0 ops Q i K T L C := by
 refine STEPM (js := [j]) (ι := Unit) (val := fun _ => undef) (own := fun _ => [slHo e La (.slice a n cap) xs k cs']) _ none _ ho (by rintro _ ⟨⟩) hp ?_ (fun _ => k')
 intro ac o bs w fps hev hop hty hat hown hnd
 match fps, hown with
 | [fp], ⟨⟨cl, cr, gl, gr, h1, h2, h3, h4, h5, h6, h7⟩, _⟩ =>
   rcases h1.2 with ⟨hv, h0⟩ | ⟨b, ob, cap', cur, fz, hv, _, _⟩
   · omega
   · injection hv with e1 e2 e3
     subst e1; subst e2; subst e3
     unfold storeOf at hst
     split at hst
     · rename_i inf hinf
       split at hst
       · rename_i hc
         simp only [Option.some.injEq] at hst
         have hl := h3.len
         rw [List.length_take, Nat.min_eq_left (by omega)] at hl
         have hvl : v.cells.toList.length = inf.size := by simp [hc.1]
         obtain ⟨w', hr, hrow', hg⟩ := run_storeCells_row (P := P) v.cells.toList w 0 (k * La.sz + off) _ h1 hc.2.2 (by
          simp only [List.length_append]; have := hc.2.1; omega)
         have hb0 : (Value.slice (some ⟨b, ob, none⟩) xs.length cap).ownBlock.toList = [b] := by simp [Value.ownBlock]
         rw [hb0] at h2
         have hndf : fp.Nodup := by simpa using hnd
         rw [h2] at hndf
         have hbg : b ∉ gl ++ gr := by simp only [List.singleton_append, List.nodup_cons] at hndf; exact hndf.1
         have hcells : setCells (cl ++ (cs ++ cr)) (k * La.sz + off + 0) v.cells.toList = cl ++ (cs' ++ cr) := by
          rw [Nat.add_zero, ← hl, setCells_append, setCells_left _ _ _ _ (by have := hc.2.1; omega), hst]
         rw [hcells] at hrow'
         refine ⟨(), w', .skip, [[b] ++ (gl ++ gr)], ?_, .inr ⟨rfl, rfl⟩, ⟨⟨cl, cr, gl, gr, hrow', by rw [hb0], ?_, ?_, by rw [← hst, setCells_length]; exact h5, h6, h7⟩, trivial⟩, ?_, ?_, ?_⟩
         · have h8 : ac.eval x = .pointer (some ⟨b, ob + (k * La.sz + off), none⟩) := by rw [hev x _ hx]; simp [den, addrOf, add_lit]
           have h9 : ac.eval y = v := hev y _ (evo_of_evv hy)
           simp only [execOp, hop, h8, h9, Instr.storeAt, Instr.sureAddr, Sem.run_bind, Sem.run_pure, Result.andThen_ok, storeVar, run_sizeOf hinf, hc.1]
           simp [hr, Sem.run_pure]
         · exact h3.st fun q hq => hg.block q (h3.lt q hq) (fun he => by injection he with he; subst he; exact hbg (List.mem_append.2 (.inl hq)))
         · exact h4.st fun q hq => hg.block q (h4.lt q hq) (fun he => by injection he with he; subst he; exact hbg (List.mem_append.2 (.inr hq)))
         · simpa using hndf
         · intro q hq _
           simp only [List.flatten_cons, List.flatten_nil, List.append_nil] at hq ⊢
           rw [h2]; exact hq
         · refine ⟨hg.os, hg.tape, hg.output, hg.size, fun q hq hne => hg.block q hq (fun he => hne ?_)⟩
           injection he with he
           subst he
           simp [h2]
       · cases hst
     · cases hst
theorem cellsRep_replicate {La : Lay α} {zs : List Value} {x0 : α} {w : World} (h : La.rep true w zs x0 []) : ∀ n, cellsRep La true w (List.replicate n zs).flatten (List.replicate n x0) []
 | 0 => ⟨rfl, rfl⟩
 | n + 1 => ⟨zs, (List.replicate n zs).flatten, [], [], by simp [List.replicate_succ], rfl, h, cellsRep_replicate h n⟩
theorem MAKEN {i : Nat} (t : TypeId) (l c : Operand) (d : Nat) (ty : TypeId) (ho : opAt ops T i = some (.makeSlice t l c, some d, ty)) (hd : d < N) (n : Nat)
 (hl : evv T l = some (vi n)) (hc : evv T c = some (vi n)) (e : TypeId) (hu : P.underlying t = some (.slice e)) (La : Lay α) (sz : Nat) (hLs : La.sz = sz)
 (x0 : α) (z : Value) (bytes : Nat) (hz : ∀ w, La.rep true w z.cells.toList x0 []) (hi : (P.info? e).map (fun i => (i.zero, i.size, i.bytes)) = some (some z, sz, bytes)) (hsz : 0 < sz) (hn : bytes * n ≤ 281474976710656) (hn' : n ≤ maxLen)
 (k : ∀ a : Option Addr, a.isSome = true → G N W S0 K ((d, .v (.slice a n n)) :: T) L (C ++ [slA e La (.slice a n n) (List.replicate n x0)])) : OP P N W S0 ops Q i K T L C := by
 subst hLs
 obtain ⟨inf, h1, h2, h3, h4⟩ := info_at hi
 refine STEPM (js := []) (pre := []) (R := C) (ι := {a : Option Addr // a.isSome = true}) (val := fun a => .slice a.1 n n) (own := fun a => [slA e La (.slice a.1 n n) (List.replicate n x0)]) _ (some d) _ ho (by rintro _ ⟨⟩; exact hd) rfl ?_ (fun a => k a.1 a.2)
 intro a o bs w fps hev hop hty hat hh' hnd
 obtain ⟨w', hr, hown, hg⟩ := run_make_full (P := P) w 0 t e inf z La.sz hu h1 h2 h3 .i64 .i64 n (by rw [h4]; exact hn) hn' (Nat.zero_le _)
 refine ⟨⟨some ⟨w.heap.size, 0, none⟩, rfl⟩, w', _, [[w.heap.size]], ?_, .inl rfl, ⟨⟨_, [], by simpa using ownsR.of hown, by simp [Value.ownBlock], ?_, by simpa using hn'⟩, trivial⟩, by simp, ?_, ?_⟩
 · simp only [execOp, hop, hev l _ (evo_of_evv hl), hev c _ (evo_of_evv hc), den, Sem.run_bind, hr, Result.andThen_ok, Sem.run_pure]
 · have hzl : z.cells.toList.length = La.sz := La.len (hz w)
   have hm := made_rows z.cells.toList (by omega) n
   rw [hzl, Array.toArray_toList] at hm
   rw [hm]
   exact cellsRep_replicate (hz w') n
 · intro b hb hlt; simp at hb; omega
 · exact ⟨hg.os, hg.tape, hg.output, hg.size, fun b hb _ => hg.block b hb (by simp)⟩
theorem ASV {d b : Nat} (hd : lk T d = some (.e (some ⟨b, 0, none⟩) 0 0)) (k : G N W S0 K ((d, .v (.pointer (some ⟨b, 0, none⟩))) :: T) L C) : G N W S0 K T L C := by
 rintro a w ⟨bs, fps, ht, hb, hm⟩
 refine k a w ⟨bs, fps, ⟨ht.1, ht.2.1, fun i x hx => ?_⟩, hb, hm⟩
 simp only [lk] at hx
 by_cases hk : d = i
 · subst hk
   simp at hx; subst hx
   have := ht.2.2 d _ hd
   rw [this]
   simp [den, addrOf, add_lit]
 · have : (d == i) = false := by simpa using hk
   simp only [this, Bool.false_eq_true, if_false] at hx
   exact ht.2.2 i x hx
end rules
section quiet
variable {P : Program} {N : Nat} {W : World} {S0 : List Nat} {Q : Exit → Act → World → Prop} {T : Tm} {L : Bx} {C : List Ass} {ops : Array Oper}
end quiet
theorem slHun {α : Type} {e : TypeId} {L : Lay α} {x : List α} : ∀ w cs f, (sl e L).rep true w cs x f → ∃ (i : HH) (fps : List (List Nat)), cs = [.slice i.1 x.length i.2] ∧ holds w [slA e L (.slice i.1 x.length i.2) x] fps ∧ fps.flatten = f := by
 rintro w cs f ⟨a, cap, rfl, h⟩
 exact ⟨(a, cap), [f], rfl, ⟨by simp only [if_true] at h; exact h, trivial⟩, by simp⟩
theorem slZ {α : Type} (e : TypeId) (L : Lay α) (w : World) : (sl e L).rep true w [.slice none 0 0] [] [] :=
 ⟨none, 0, rfl, by simp only [if_true]; exact ⟨[], [], ownsR_nil w e L.sz, by simp [Value.ownBlock], ⟨rfl, rfl⟩, by simp [maxLen]⟩⟩
def mapA (r : Nat) (ks : List Int) : Ass :=
 ⟨fun w f => f = [r] ∧ ∃ es clock, w.heap[r]? = some (.map es clock) ∧ es.toList.map (·.key) = ks.map vi ∧ ∀ x ∈ es.toList, ∃ z, x.val = vi z,
   fun _ _ _ h hb => ⟨h.1, by rw [hb r (by rw [h.1]; simp)]; exact h.2⟩, fun w f h x hx => by
   obtain ⟨h1, es, clock, h2, _⟩ := h
   rw [h1] at hx; simp at hx; subst hx; exact (Array.getElem?_eq_some_iff.1 h2).1⟩
def insK (ks : List Int) (z : Int) : List Int := if z ∈ ks then ks else ks ++ [z]
section maps
variable {P : Program} {N : Nat} {W : World} {S0 : List Nat} {Q : Exit → Act → World → Prop} {T : Tm} {L : Bx} {C : List Ass} {ops : Array Oper} {K : Act → World → Prop}
theorem MAPNEW {i : Nat} (t : TypeId) (d : Nat) (ty : TypeId) (ho : opAt ops T i = some (.makeMap t none, some d, ty)) (hd : d < N) (k : ∀ r, G N W S0 K ((d, .v (.map (some r))) :: T) L (C ++ [mapA r []])) : OP P N W S0 ops Q i K T L C := by
 refine STEPM (js := []) (pre := []) (R := C) (ι := Nat) (val := fun r => .map (some r)) (own := fun r => [mapA r []]) _ (some d) _ ho (by rintro _ ⟨⟩; exact hd) rfl ?_ k
 intro a o bs w fps hev hop hty hat hh' hnd
 have hr : (Instr.makeMap t none).run P w = .ok (.map (some w.heap.size)) (w.alloc (.map #[] 0)) := by
  simp [Instr.makeMap, Result.andThen]
 refine ⟨w.heap.size, w.alloc (.map #[] 0), _, [[w.heap.size]], ?_, .inl rfl, ⟨⟨rfl, #[], 0, (MapKept.heap_alloc w _).1, by simp, by simp⟩, trivial⟩, by simp, ?_, ?_⟩
 · simp only [execOp, hop, Option.map_none, Sem.run_bind, hr, Result.andThen_ok, Sem.run_pure]
 · intro b hb hlt; simp at hb; omega
 · have h := Fr.alloc w (.map #[] 0)
   exact ⟨h.os, h.tape, h.output, h.size, fun b hb _ => h.block b hb (by simp)⟩
theorem keys_vi {es : Array MapEntry} {ks : List Int} (h : es.toList.map (·.key) = ks.map vi) : ∀ x ∈ es.toList, MapKept.IsKey (.int .i64) x.key := by
 intro x hx
 have : x.key ∈ ks.map vi := h ▸ List.mem_map.2 ⟨x, hx, rfl⟩
 obtain ⟨z, _, hz⟩ := List.mem_map.1 this
 rw [← hz]
 exact rfl
theorem MAPGET {i : Nat} (t : TypeId) (x ix : Operand) (d : Nat) (ty : TypeId) (ho : opAt ops T i = some (.lookup t x ix false, some d, ty)) (hd : d < N) (kt et : TypeId) (hm : P.underlying t = some (.map kt et)) (hk : P.underlying kt = some (.int .i64))
 (hz : (P.info? et).map (·.zero) = some (some (vi 0))) (r : Nat) (z : Int) (ks : List Int) (j : Nat) (R : List Ass) (hp : pulls [j] C = some ([mapA r ks], R)) (hx : evv T x = some (.map (some r))) (hix : evv T ix = some (vi z))
 (k : ∀ v : Int, G N W S0 K ((d, .v (vi v)) :: T) L (R ++ [mapA r ks])) : OP P N W S0 ops Q i K T L C := by
 refine STEPM (js := [j]) (ι := Int) (val := fun v => vi v) (own := fun _ => [mapA r ks]) _ (some d) _ ho (by rintro _ ⟨⟩; exact hd) hp ?_ k
 intro a o bs w fps hev hop hty hat hown hnd
 match fps, hown with
 | [fp], ⟨⟨hf, es, clock, hes, hks, hvs⟩, _⟩ =>
   have h1 : a.eval x = .map (some r) := hev x _ (evo_of_evv hx)
   have h2 : a.eval ix = vi z := hev ix _ (evo_of_evv hix)
   have hkey : MapKept.IsKey (.int .i64) (vi z) := rfl
   have hfr : Fr fp w w := Fr.refl _ _
   have hzr : (zeroValue et).run P w = .ok (vi 0) w := by
    obtain ⟨inf, hi, hzz⟩ := Option.map_eq_some_iff.1 hz
    simp [zeroValue, typeInfo, hi, hzz, Sem.run_bind, Result.andThen]
   rcases MapKept.findNow_spec hkey es.toList 0 (keys_vi hks) with ⟨h3, h4⟩ | ⟨q, e, h3, h4, h5⟩
   · refine ⟨0, w, .value (vi 0), [fp], ?_, .inl rfl, ⟨⟨hf, es, clock, hes, hks, hvs⟩, trivial⟩, by simpa using hnd, fun b hb _ => hb, by simpa using hfr⟩
     simp only [execOp, hop, h1, h2, Instr.lookup, Sem.run_bind, run_underlying hm, MapKept.run_getObj_map hes, MapKept.run_checkKey hk hkey, MapKept.run_findKey hk h3, Result.andThen, Sem.run_pure]
     simp [hzr, Sem.run_bind, Result.andThen, Sem.run_pure]
   · obtain ⟨v, hv⟩ := hvs e (List.mem_of_getElem? h4)
     refine ⟨v, w, .value (vi v), [fp], ?_, .inl rfl, ⟨⟨hf, es, clock, hes, hks, hvs⟩, trivial⟩, by simpa using hnd, fun b hb _ => hb, by simpa using hfr⟩
     simp only [execOp, hop, h1, h2, Instr.lookup, Sem.run_bind, run_underlying hm, MapKept.run_getObj_map hes, MapKept.run_checkKey hk hkey, MapKept.run_findKey hk h3, Result.andThen, Sem.run_pure]
     simp [hv, Sem.run_pure]
theorem setObj_fr {w : World} {r : Nat} {o o' : Obj} (hb : w.heap[r]? = some o) : Fr [r] w { w with heap := w.heap.setIfInBounds r o' } :=
 ⟨rfl, rfl, rfl, by simp, fun b _ hne => (MapKept.heap_set hb).2 b (by simpa using hne)⟩
theorem MAPPUT {i : Nat} (t : TypeId) (x ix y : Operand) (ty : TypeId) (ho : opAt ops T i = some (.mapUpdate t x ix y, none, ty)) (kt et : TypeId) (hm : P.underlying t = some (.map kt et)) (hk : P.underlying kt = some (.int .i64))
 (r : Nat) (z u : Int) (ks : List Int) (j : Nat) (R : List Ass) (hp : pulls [j] C = some ([mapA r ks], R)) (hx : evv T x = some (.map (some r))) (hix : evv T ix = some (vi z)) (hy : evv T y = some (vi u))
 (k : G N W S0 K T L (R ++ [mapA r (insK ks z)])) : OP P N W S0 ops Q i K T L C := by
 refine STEPM (js := [j]) (ι := Unit) (val := fun _ => undef) (own := fun _ => [mapA r (insK ks z)]) _ none _ ho (by rintro _ ⟨⟩) hp ?_ (fun _ => k)
 intro a o bs w fps hev hop hty hat hown hnd
 match fps, hown with
 | [fp], ⟨⟨hf, es, clock, hes, hks, hvs⟩, _⟩ =>
   have h1 : a.eval x = .map (some r) := hev x _ (evo_of_evv hx)
   have h2 : a.eval ix = vi z := hev ix _ (evo_of_evv hix)
   have h2' : a.eval y = vi u := hev y _ (evo_of_evv hy)
   have hkey : MapKept.IsKey (.int .i64) (vi z) := rfl
   subst hf
   rcases MapKept.findNow_spec hkey es.toList 0 (keys_vi hks) with ⟨h3, h4⟩ | ⟨q, e, h3, h4, h5⟩
   · have hnz : z ∉ ks := by
      intro hz
      have : vi z ∈ es.toList.map (·.key) := by rw [hks]; exact List.mem_map.2 ⟨z, hz, rfl⟩
      obtain ⟨e, he, hee⟩ := List.mem_map.1 this
      exact h4 e he hee
     refine ⟨(), { w with heap := w.heap.setIfInBounds r (.map (es.push { key := vi z, val := vi u, born := clock }) (clock + 1)) }, .skip, [[r]], ?_, .inr ⟨rfl, rfl⟩, ⟨⟨rfl, _, _, (MapKept.heap_set hes).1, ?_, ?_⟩, trivial⟩, by simp, fun b hb _ => hb, by simpa using setObj_fr hes⟩
     · simp only [execOp, hop, h1, h2, h2', Instr.mapUpdate, Sem.run_bind, run_underlying hm, MapKept.run_getObj_map hes, MapKept.run_checkKey hk hkey, MapKept.run_findKey hk h3, Result.andThen, Sem.run_pure, MapKept.run_setObj_map _ hes]
     · simp [insK, hnz, hks]
     · intro m hm9
       simp only [Array.toList_push, List.mem_append, List.mem_singleton] at hm9
       rcases hm9 with hm9 | rfl
       · exact hvs m hm9
       · exact ⟨u, rfl⟩
   · have hz : z ∈ ks := by
      have : e.key ∈ es.toList.map (·.key) := List.mem_map.2 ⟨e, List.mem_of_getElem? h4, rfl⟩
      rw [hks, h5] at this
      obtain ⟨y', hy', hyy⟩ := List.mem_map.1 this
      injection hyy with _ hyy
      subst hyy; exact hy'
     have hst : (Instr.keyThatStays (((es[0 + q]?).map (·.key)).getD (vi z)) (vi z)).run P w = .ok (vi z) w := by
      have : es[0 + q]? = some e := by rw [Nat.zero_add]; simpa using h4
      rw [this]
      simp only [Option.map_some, Option.getD_some, h5]
      exact MapKept.run_keyThatStays hkey
     refine ⟨(), { w with heap := w.heap.setIfInBounds r (.map (es.modify (0 + q) fun e => { e with key := vi z, val := vi u }) clock) }, .skip, [[r]], ?_, .inr ⟨rfl, rfl⟩, ⟨⟨rfl, _, _, (MapKept.heap_set hes).1, ?_, ?_⟩, trivial⟩, by simp, fun b hb _ => hb, by simpa using setObj_fr hes⟩
     · simp only [execOp, hop, h1, h2, h2', Instr.mapUpdate, Sem.run_bind, run_underlying hm, MapKept.run_getObj_map hes, MapKept.run_checkKey hk hkey, MapKept.run_findKey hk h3, Result.andThen, Sem.run_pure, hst, MapKept.run_setObj_map _ hes]
     · rw [insK, if_pos hz, ← hks]
       apply List.ext_getElem?
       intro p
       simp only [List.getElem?_map, Array.getElem?_toList, Array.getElem?_modify]
       by_cases hpq : 0 + q = p
       · subst hpq
         have : es[q]? = some e := by simpa using h4
         simp [this, h5]
       · rw [if_neg hpq]
     · intro m hm9
       obtain ⟨p, hp9⟩ := List.mem_iff_getElem?.1 hm9
       rw [Array.getElem?_toList, Array.getElem?_modify] at hp9
       split at hp9
       · obtain ⟨e9, _, rfl⟩ := Option.map_eq_some_iff.1 hp9
         exact ⟨u, rfl⟩
       · exact hvs m (List.mem_iff_getElem?.2 ⟨p, by rw [Array.getElem?_toList]; exact hp9⟩)
theorem runs_maplen {t ty kt et : TypeId} {x : Operand} {r : Nat} {ks : List Int} {j : Nat} (hm : P.underlying t = some (.map kt et)) (hx : evv T x = some (.map (some r))) (hj : C[j]? = some (mapA r ks)) :
 Runs P W S0 T C (.call { callee := .builtin .len, args := #[x], argTypes := #[t] }) ty (vi ks.length) := by
 intro a o bs w hev hop hty hat
 obtain ⟨fp, hf, es, clock, hes, hks, hvs⟩ := hat.own j hj
 have h1 : a.eval x = .map (some r) := hev x _ (evo_of_evv hx)
 have hl : es.size = ks.length := by have := congrArg List.length hks; simpa using this
 have h2 : (Builtin.len_ #[t] ty #[.map (some r)]).run P w = .ok (vi ks.length) w := by
  simp [Builtin.len_, run_underlying hm, MapKept.run_getObj_map hes, Result.andThen, hl, goInt, Sem.run_pure, Sem.run_bind]
 simp only [execOp, hop, resolve, h1, List.map_toArray, List.map_cons, List.map_nil, Sem.run_bind, Sem.run_pure, Result.andThen, invoke, builtin, hty, h2]
end maps
theorem put_app {N : Nat} {T T' : Tm} {d : Option Nat} {x : SV} (h : put N T d x = some T') : ∃ A, T' = A ++ T := by
 rcases lk_put h with ⟨_, rfl⟩ | ⟨k, _, _, rfl⟩
 · exact ⟨[], rfl⟩
 · exact ⟨[(k, x)], rfl⟩
theorem map_app {N : Nat} {T T' : Tm} {d : Option Nat} {x : SV} {L L' : Bx} (h : (put N T d x).map (·, L) = some (T', L')) : ∃ A, T' = A ++ T := by
 obtain ⟨T1, h1, h2⟩ := Option.map_eq_some_iff.1 h
 injection h2 with h2 _
 subst h2
 exact put_app h1
theorem go1_app {P : Program} {N : Nat} {T T' : Tm} {L L' : Bx} {o : Oper} (h : go1 P N T L o = some (T', L')) : ∃ A, T' = A ++ T := by
 unfold go1 at h
 split at h
 · obtain ⟨s, _, h1⟩ := Option.bind_eq_some_iff.1 h; exact map_app h1
 · obtain ⟨s, _, h1⟩ := Option.bind_eq_some_iff.1 h; exact map_app h1
 · split at h
   · exact map_app h
   · exact map_app h
   · cases h
 · split at h
   · exact map_app h
   · exact map_app h
   · cases h
 · split at h
   · split at h
     · obtain ⟨v, _, h1⟩ := Option.bind_eq_some_iff.1 h; exact map_app h1
     · cases h
   · cases h
 · split at h
   · split at h
     · obtain ⟨v, _, h1⟩ := Option.bind_eq_some_iff.1 h; exact map_app h1
     · cases h
   · cases h
 · split at h
   · exact map_app h
   · cases h
 · split at h
   · exact map_app h
   · cases h
 · split at h
   · split at h
     · split at h
       · exact map_app h
       · cases h
     · cases h
   · cases h
theorem step1_app {P : Program} {N : Nat} {ops : Array Oper} {T T' : Tm} {L L' : Bx} {o : Oper} (h : step1 P N ops T L o = some (T', L')) : ∃ A, T' = A ++ T := by
 unfold step1 at h
 split at h
 · exact go1_app h
 · exact map_app h
 · cases h
theorem runP_app {P : Program} {N : Nat} {ops : Array Oper} : ∀ (n : Nat) (is : List Nat) {T T' : Tm} {L L' : Bx}, runP P N ops n is T L = some (T', L') → ∃ A, T' = A ++ T
 | 0, _, T, T', L, L', h => by simp [runP] at h; exact ⟨[], by simp [h.1]⟩
 | n + 1, [], _, _, _, _, h => by simp [runP] at h
 | n + 1, i :: is, T, T', L, L', h => by
   simp only [runP] at h
   split at h
   · split at h
     · rename_i T1 L1 h1
       obtain ⟨A, rfl⟩ := step1_app h1
       obtain ⟨B, rfl⟩ := runP_app n is h
       exact ⟨B ++ A, by simp⟩
     · cases h
   · cases h
theorem runQ_app {P : Program} {N : Nat} {ops : Array Oper} {L : Bx} : ∀ (n i : Nat) {T T' : Tm}, runQ P N ops L n i T = some T' → ∃ A, T' = A ++ T
 | 0, i, T, T', h => by simp [runQ] at h; exact ⟨[], by simp [h]⟩
 | n + 1, i, T, T', h => by
   simp only [runQ] at h
   split at h
   · split at h
     · split at h
       · split at h
         · rename_i h1
           obtain ⟨A, rfl⟩ := go1_app h1
           obtain ⟨B, rfl⟩ := runQ_app n (i + 1) h
           exact ⟨B ++ A, by simp⟩
         · cases h
       · cases h
     · split at h
       · rename_i h1
         obtain ⟨A, rfl⟩ := put_app h1
         obtain ⟨B, rfl⟩ := runQ_app n (i + 1) h
         exact ⟨B ++ A, by simp⟩
       · cases h
     · cases h
   · cases h
def newOf (T : Tm) (ks : List Nat) (T1 : Tm) : Option Tm :=
 if (T1.take (T1.length - T.length)).all (fun p => ks.contains p.1 || (lk T p.1).isNone) then keep (T1.take (T1.length - T.length)) ks else none
theorem lk_app : ∀ (A T : Tm) (i : Nat), lk (A ++ T) i = match lk A i with | some x => some x | none => lk T i
 | [], T, i => rfl
 | (k, x) :: A, T, i => by
   simp only [List.cons_append, lk]
   split
   · rfl
   · exact lk_app A T i
theorem lk_mem : ∀ {A : Tm} {i : Nat} {x : SV}, lk A i = some x → (i, x) ∈ A
 | (k, y) :: A, i, x, h => by
   simp only [lk] at h
   split at h
   · rename_i hk
     have : k = i := by simpa using hk
     subst this
     injection h with h
     subst h; simp
   · exact List.mem_cons_of_mem _ (lk_mem h)
theorem keep_has : ∀ {A : Tm} {ks : List Nat} {U : Tm}, keep A ks = some U → ∀ i ∈ ks, (lk U i).isSome = true
 | A, [], U, h, i, hi => by cases hi
 | A, k :: ks, U, h, i, hi => by
   simp only [keep] at h
   split at h
   · rename_i x T' h1 h2
     injection h with h
     subst h
     simp only [lk]
     by_cases hk : k = i
     · simp [hk]
     · have hf : (k == i) = false := by simpa using hk
       simp only [hf, Bool.false_eq_true, if_false]
       rcases List.mem_cons.1 hi with rfl | hi
       · exact absurd rfl hk
       · exact keep_has h2 i hi
   · cases h
theorem newOf_ok {T T1 U : Tm} {ks : List Nat} (h : newOf T ks T1 = some U) (ha : ∃ A, T1 = A ++ T) : ∀ i x, lk (U ++ T) i = some x → lk T1 i = some x := by
 obtain ⟨A, rfl⟩ := ha
 unfold newOf at h
 have hA : (A ++ T).take ((A ++ T).length - T.length) = A := by rw [List.length_append, Nat.add_sub_cancel, List.take_left']; rfl
 rw [hA] at h
 split at h
 · rename_i hall
   intro i x hx
   rw [lk_app] at hx ⊢
   split at hx
   · rename_i y hy
     injection hx with hx
     subst hx
     rw [keep_ok h i y hy]
   · rename_i hU
     split
     · rename_i z hz
       have := List.all_eq_true.1 hall _ (lk_mem hz)
       simp only [Bool.or_eq_true] at this
       rcases this with h1 | h1
       · have h2 := keep_has h i (by simpa using h1)
         rw [hU] at h2; cases h2
       · rw [hx] at h1; cases h1
     · exact hx
 · cases h
theorem bounded_app {n : Nat} : ∀ {A T : Tm}, bounded n (A ++ T) ↔ bounded n A ∧ bounded n T
 | [], T => by simp [bounded]
 | (k, .p i off) :: A, T => by
   simp only [List.cons_append, bounded, bounded_app (A := A) (T := T), and_assoc]
 | (k, .v _) :: A, T => by simp only [List.cons_append, bounded]; exact bounded_app (A := A) (T := T)
 | (k, .e _ _ _) :: A, T => by simp only [List.cons_append, bounded]; exact bounded_app (A := A) (T := T)
theorem newOf_bounded {n : Nat} {T T1 U : Tm} {ks : List Nat} (h : newOf T ks T1 = some U) (ha : ∃ A, T1 = A ++ T) (hb : bounded n T1) : bounded n (U ++ T) := by
 obtain ⟨A, rfl⟩ := ha
 unfold newOf at h
 have hA : (A ++ T).take ((A ++ T).length - T.length) = A := by rw [List.length_append, Nat.add_sub_cancel, List.take_left']; rfl
 rw [hA] at h
 obtain ⟨h1, h2⟩ := bounded_app.1 hb
 split at h
 · exact bounded_app.2 ⟨keep_bounded h1 h, h2⟩
 · cases h
theorem Sat.sub {N : Nat} {W : World} {S0 : List Nat} {T T1 : Tm} {L : Bx} {C : List Ass} {a : Act} {w : World} (h : Sat N W S0 T1 L C a w) (hs : ∀ i x, lk T i = some x → lk T1 i = some x) (hb : bounded L.length T1 → bounded L.length T) : Sat N W S0 T L C a w := by
 obtain ⟨bs, fps, ht, hb1, hm⟩ := h
 exact ⟨bs, fps, ⟨ht.1, ht.2.1, fun i x hx => ht.2.2 i x (hs i x hx)⟩, hb hb1, hm⟩
def runD (P : Program) (N : Nat) (ops : Array Oper) (n : Nat) (is : List Nat) (T : Tm) (L : Bx) (ks : List Nat) : Option (Tm × Bx) :=
 match runP P N ops n is T L with
 | some (T', L') => (newOf T ks T').map (·, L')
 | none => none
theorem runD_ok {P : Program} {N : Nat} {ops : Array Oper} {n : Nat} {is : List Nat} {T U : Tm} {L L' : Bx} {ks : List Nat} (h : runD P N ops n is T L ks = some (U, L')) : ∃ T1, runP P N ops n is T L = some (T1, L') ∧ newOf T ks T1 = some U := by
 unfold runD at h
 split at h
 · rename_i T1 L1 h1
   obtain ⟨U1, h2, h3⟩ := Option.map_eq_some_iff.1 h
   injection h3 with h3 h4
   subst h3; subst h4
   exact ⟨T1, h1, h2⟩
 · cases h
section rules
variable {P : Program} {N : Nat} {W : World} {S0 : List Nat} {Q : Exit → Act → World → Prop} {T : Tm} {L : Bx} {C : List Ass} {ops : Array Oper}
theorem RUL (n : Nat) {is : List Nat} (js : List Nat) (U : Tm) (L' : Bx) (h : runD P N ops n is T L (U.map (·.1)) = some (U, L')) (hj : is.drop n = js) (k : OPS P N W S0 ops Q js (U ++ T) L' C) : OPS P N W S0 ops Q is T L C := by
 obtain ⟨T1, h1, h2⟩ := runD_ok h
 subst hj
 have ha := runP_app n is h1
 exact runP_ok n is h1 fun a w hs => k a w (hs.sub (newOf_ok h2 ha) (newOf_bounded h2 ha))
theorem QRU (n i j : Nat) (U : Tm) (h : (runQ P N ops L n i T).bind (fun T1 => newOf T (U.map (·.1)) T1) = some U) (hj : i + n = j) (k : QO P N W S0 ops Q j (U ++ T) L C) : QO P N W S0 ops Q i T L C := by
 obtain ⟨T1, h1, h2⟩ := Option.bind_eq_some_iff.1 h
 subst hj
 have ha := runQ_app n i h1
 refine runQ_ok n i h1 fun bs a ht hb hl => k bs a ⟨ht.1, ht.2.1, fun i x hx => ht.2.2 i x (newOf_ok h2 ha i x hx)⟩ (newOf_bounded h2 ha hb) hl
end rules
def takeD (P : Program) (N : Nat) (ops : Array Oper) (T : Tm) (L : Bx) (i : Nat) (ks : List Nat) : Option Tm :=
 match ops[i]? with
 | some o => match wants ops T o with
   | some true => if stillOp o.op then (match go1 P N T L o with | some (T', _) => newOf T ks T' | none => none) else none
   | _ => none
 | none => none
theorem HPU {P : Program} {N : Nat} {W : World} {S0 : List Nat} {Q : Exit → Act → World → Prop} {T : Tm} {L : Bx} {C C0 : List Ass} {ops : Array Oper} {fuel : Nat} {listed : Array Bool} (i : Nat) (U : Tm) (h : takeD P N ops T L i (U.map (·.1)) = some U) (hk : (Region.noSelect ops && Region.free .any ops listed i && (Region.ready .any ops listed).contains i) = true) {js : List Nat} (hC : (pulls js C).map (·.1) = some C0)
 (k : H P N W S0 ops Q C0 fuel (listed.setIfInBounds i true) (U ++ T) L C) : H P N W S0 ops Q C0 (fuel + 1) listed T L C := by
 rintro a w ⟨bs, fps, ht, hb, hm⟩
 unfold takeD at h
 split at h
 · rename_i o hi
   split at h
   · rename_i hw
     split at h
     · rename_i hq
       split at h
       · rename_i T1 L1 h1
         have ha := go1_app h1
         obtain ⟨v, hr, ht', hb'⟩ := go1h hq h1 ht hb
         simp only [Bool.and_eq_true] at hk
         refine wpAnyH_take (v := v) hi hk.1.1 hk.1.2 hk.2 (fun c a w h => h.elim) (.inl ⟨wants_ok hw ht, fun w' _ => hr w'⟩) (at_take hm.at_ hC) ?_
         exact k _ _ ⟨bs, fps, ⟨ht'.1, ht'.2.1, fun i x hx => ht'.2.2 i x (newOf_ok h ha i x hx)⟩, newOf_bounded h ha hb', hm⟩
       · cases h
     · cases h
   · cases h
 · cases h
section short
variable {P : Program} {N : Nat} {W : World} {S0 : List Nat} {Q : Exit → Act → World → Prop} {T : Tm} {L : Bx} {C : List Ass} {ops : Array Oper}
theorem UU (n : Nat) {is : List Nat} (U : Tm) (k : OPS P N W S0 ops Q (is.drop n) (U ++ T) L C) (h : runD P N ops n is T L (U.map (·.1)) = some (U, L) := by kernel_rfl) : OPS P N W S0 ops Q is T L C := RUL n _ U L h rfl k
theorem UL (n : Nat) {is : List Nat} (U : Tm) (L' : Bx) (k : OPS P N W S0 ops Q (is.drop n) (U ++ T) L' C) (h : runD P N ops n is T L (U.map (·.1)) = some (U, L') := by kernel_rfl) : OPS P N W S0 ops Q is T L C := RUL n _ U L' h rfl k
theorem QU {i : Nat} (n : Nat) (U : Tm) (k : QO P N W S0 ops Q (i + n) (U ++ T) L C) (h : (runQ P N ops L n i T).bind (fun T1 => newOf T (U.map (·.1)) T1) = some U := by kernel_rfl) : QO P N W S0 ops Q i T L C := QRU n i _ U h rfl k
theorem HP {C0 : List Ass} {fuel : Nat} {listed : Array Bool} (js : List Nat) (i : Nat) (U : Tm) (k : H P N W S0 ops Q C0 fuel (listed.setIfInBounds i true) (U ++ T) L C) (h : takeD P N ops T L i (U.map (·.1)) = some U := by kernel_rfl)
 (hk : (Region.noSelect ops && Region.free .any ops listed i && (Region.ready .any ops listed).contains i) = true := by kernel_rfl) (hC : (pulls js C).map (·.1) = some C0 := by rfl) : H P N W S0 ops Q C0 (fuel + 1) listed T L C := HPU i U h hk hC k
theorem RG {id : Nat} (k : OPS P N W S0 ops Q (List.range ops.size) T L C) : CODE P N W S0 (.region id ops false) Q T L C := REGION _ rfl k
theorem NR {id : Nat} {ops2 : Array Oper} {y : Code} {Q' : Exit → Act → World → Prop} {is : List Nat} (k : OPS P N W S0 ops2 (Exit.then (y.wp P Q) Q) (List.range ops2.size) T L C) (h : is = [] := by rfl) : OPS P N W S0 ops (Exit.then ((Code.seq (.region id ops2 false) y).wp P Q) Q') is T L C := by
 subst h; exact ENDOPS (NEXT (SEQ (RG k)))
theorem NI {x : Operand} {c d : Code} {Q' : Exit → Act → World → Prop} {is : List Nat} (b : Bool) (k1 : b = true → CODE P N W S0 c Q T L C) (k2 : b = false → CODE P N W S0 d Q T L C) (hx : evv T x = some (.bool b) := by kernel_rfl) (h : is = [] := by rfl) :
 OPS P N W S0 ops (Exit.then ((Code.cond x c d).wp P Q) Q') is T L C := by
 subst h; exact ENDOPS (NEXT (IF b hx k1 k2))
theorem IFK {x : Operand} {c d : Code} (b : Bool) (k1 : b = true → CODE P N W S0 c Q T L C) (k2 : b = false → CODE P N W S0 d Q T L C) (hx : evv T x = some (.bool b) := by kernel_rfl) : CODE P N W S0 (.cond x c d) Q T L C := IF b hx k1 k2
theorem SP {K : Act → World → Prop} (d : Nat) (b : Bool) (k1 : b = true → G N W S0 K ((d, .v (.bool true)) :: T) L C) (k2 : b = false → G N W S0 K ((d, .v (.bool false)) :: T) L C) (hd : lk T d = some (.v (.bool b)) := by kernel_rfl) : G N W S0 K T L C := SPLIT b hd k1 k2
theorem QSP {i : Nat} (d : Nat) (b : Bool) (k1 : b = true → QO P N W S0 ops Q i ((d, .v (.bool true)) :: T) L C) (k2 : b = false → QO P N W S0 ops Q i ((d, .v (.bool false)) :: T) L C) (hd : lk T d = some (.v (.bool b)) := by kernel_rfl) : QO P N W S0 ops Q i T L C := QSPLIT b hd k1 k2
theorem CS {K : Act → World → Prop} (d : Nat) (v v' : Value) (he : v = v') (k : G N W S0 K ((d, .v v') :: T) L C) (hd : lk T d = some (.v v) := by kernel_rfl) : G N W S0 K T L C := CAST v v' hd he k
theorem IX {i : Nat} {K : Act → World → Prop} (t : TypeId) (x ix : Operand) (d : Nat) (ty : TypeId) (a : Option Addr) (n cap : Nat) (kd : IntKind) (z : Int) (e : TypeId) (sz : Nat) (ha : a.isSome = true) (h0 : 0 ≤ z) (hn : z < n)
 (k : G N W S0 K ((d, .e a (z.toNat * sz) 0) :: T) L C) (ho : opAt ops T i = some (.indexAddr t x ix, some d, ty) := by kernel_rfl) (hd : d < N := by exact NL rfl) (hx : evv T x = some (.slice a n cap) := by kernel_rfl) (hix : evv T ix = some (.int kd z) := by kernel_rfl)
 (hu : P.underlying t = some (.slice e) := by kernel_rfl) (hsz : (P.info? e).map (·.size) = some sz := by kernel_rfl) : OP P N W S0 ops Q i K T L C := INDEX t x ix d ty ho hd a n cap kd z e sz hx hix hu hsz ha h0 hn k
theorem QIX {i : Nat} (t : TypeId) (x ix : Operand) (d : Nat) (ty : TypeId) (a : Option Addr) (n cap : Nat) (kd : IntKind) (z : Int) (e : TypeId) (sz : Nat) (ha : a.isSome = true) (h0 : 0 ≤ z) (hn : z < n)
 (k : QO P N W S0 ops Q (i + 1) ((d, .e a (z.toNat * sz) 0) :: T) L C) (ho : opAt ops T i = some (.indexAddr t x ix, some d, ty) := by kernel_rfl) (hd : d < N := by exact NL rfl) (hx : evv T x = some (.slice a n cap) := by kernel_rfl) (hix : evv T ix = some (.int kd z) := by kernel_rfl)
 (hu : P.underlying t = some (.slice e) := by kernel_rfl) (hsz : (P.info? e).map (·.size) = some sz := by kernel_rfl) : QO P N W S0 ops Q i T L C := QINDEX t x ix d ty ho hd a n cap kd z e sz hx hix hu hsz ha h0 hn k
theorem LE {i : Nat} {K : Act → World → Prop} (t : TypeId) (x : Operand) (d : Nat) (ty : TypeId) (a : Option Addr) (c off : Nat) (cs : List Value) (v : Value) (he : ∀ w, At W S0 C w → ElemAt w a c cs)
 (k : G N W S0 K ((d, .v v) :: T) L C) (ho : opAt ops T i = some (.load t x, some d, ty) := by kernel_rfl) (hd : d < N := by exact NL rfl) (hx : evo T x = some (.e a c off) := by kernel_rfl) (hv : loadOf P t cs off = some v := by kernel_rfl) : OP P N W S0 ops Q i K T L C := LOADE t x d ty ho hd a c off cs v hx he hv k
theorem QLE {i : Nat} (t : TypeId) (x : Operand) (d : Nat) (ty : TypeId) (a : Option Addr) (c off : Nat) (cs : List Value) (v : Value) (he : ∀ w, At W S0 C w → ElemAt w a c cs)
 (k : QO P N W S0 ops Q (i + 1) ((d, .v v) :: T) L C) (ho : opAt ops T i = some (.load t x, some d, ty) := by kernel_rfl) (hd : d < N := by exact NL rfl) (hx : evo T x = some (.e a c off) := by kernel_rfl) (hv : loadOf P t cs off = some v := by kernel_rfl) : QO P N W S0 ops Q i T L C := QLOADE t x d ty ho hd a c off cs v hx he hv k
theorem CA {i : Nat} {K : Act → World → Prop} (f : FuncId) (vs : Array Value) (d : Option Nat) (r : Res) (hcon : ∀ w, At W S0 C w → Spec P w [] f vs r) (k : ∀ x : r.ι, G N W S0 K (putd d (.v (r.val x)) T) L (C ++ r.own x))
 (hc : callOf P ops T i = some (f, vs, d) := by kernel_rfl) (hd : ∀ k, d = some k → k < N := by exact NO rfl) : OP P N W S0 ops Q i K T L C := CALL f vs d hc [] [] C rfl r hcon hd k
theorem QCA {i : Nat} (f : FuncId) (vs : Array Value) (d : Option Nat) (v : Value) (hcon : ∀ w, At W S0 C w → Spec P w [] f vs (RV v)) (k : QO P N W S0 ops Q (i + 1) (putd d (.v v) T) L C)
 (hc : callOf P ops T i = some (f, vs, d) := by kernel_rfl) (hd : ∀ k, d = some k → k < N := by exact NO rfl) : QO P N W S0 ops Q i T L C := QCALL f vs d hc v hcon hd k
theorem RF {fn : Func} {r : Res} (hq : Q .ret = bodyPost P fn (RetM S0 r W) .ret) (v : Value) (x : r.ι) (js : List Nat) (hx : v = r.val x) (hp : (pulls js C).map (·.1) = some (r.own x)) (hv : resOf fn P T L = some v := by kernel_rfl) : CODE P N W S0 .ret Q T L C := by
 refine RET ?_
 have h := FIN (N := N) (W := W) (S0 := S0) (T := T) (L := L) (C := C) (fn := fn) v hv x hx js hp
 intro a w hs
 rw [hq]
 exact h a w hs
theorem BK {ι : Type} {Tf : ι → Tm} {Lf : ι → Bx} {Cf : ι → List Ass} {Inv : ι → Prop} {m : ι → Nat} {j : ι} (j' : ι) (ks : List Nat) (n : Nat) (js : List Nat) (h0 : Inv j') (hm : m j' < m j) (hT : keep T ks = some (Tf j') := by kernel_rfl)
 (hn : boundedB n (Tf j') = true := by rfl) (hL : L.take n = Lf j' := by rfl) (hC : (pulls js C).map (·.1) = some (Cf j') := by rfl) :
 DONE N W S0 (Exit.then (fun a w => ∃ j', Inv j' ∧ m j' < m j ∧ Sat N W S0 (Tf j') (Lf j') (Cf j') a w) Q) .normal T L C := by
 obtain ⟨⟨X, R⟩, hp, hX⟩ := Option.map_eq_some_iff.1 hC
 simp only at hX
 subst hX
 exact BACK j' ks n js R h0 hm hT hn hL hp
theorem RELENK {K : Act → World → Prop} {n m : Nat} (Tf : Nat → Tm) (Lf : Nat → Bx) (Cf : Nat → List Ass) (h : n = m) (k : G N W S0 K (Tf m) (Lf m) (Cf m)) (hT : keep T ((Tf n).map (·.1)) = some (Tf n) := by kernel_rfl) : G N W S0 K T (Lf n) (Cf n) := by
 subst h; exact fun a w hs => k a w (hs.keep hT)
end short
end SX
end Go.Proofs.YtejojcoaohlfbaaGreat
