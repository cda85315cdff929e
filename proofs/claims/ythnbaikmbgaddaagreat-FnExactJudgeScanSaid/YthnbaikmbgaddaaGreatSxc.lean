/- Texts of this claim, put together by program. -/
import Derived.Test.YthnbaikmbgaddaaGreatSxs
import Derived.OrdersHeld
/- Regions whose order is open and whose operations write memory: what yields its value in every world in which the call's arguments stand is taken first. It imports no program. -/
namespace Go.Proofs.YthnbaikmbgaddaaGreat
namespace SX
set_option linter.unusedVariables false
set_option linter.unusedSimpArgs false
open Go Go.RowKit

/-- what is asked at a normal end alone -/
def nQ (Q : Exit → Act → World → Prop) : Exit → Act → World → Prop
  | .normal, a, w => Q .normal a w
  | _, _, _ => False

section
variable {P : Program} {ops : Array Oper} {Q : Exit → Act → World → Prop} {md : Region.Mode} {S : World → Prop}
theorem lets_nQ (h : LetsOut (nQ Q)) : False := by obtain ⟨a, w, h⟩ := h; exact h
theorem wp_nQ {o : Oper} {a : Act} {w : World} {K : Act → World → Prop} (hh : o.wp P a w K (nQ Q)) : o.wp P a w K Q := by
  unfold Oper.wp at *
  generalize (execOp a.eval o).run P w = r at *
  cases r with
  | ok n w' =>
    cases n <;> simp only [Oper.upon] at hh ⊢ <;>
      first
        | exact hh
        | exact Calls.mono hh (fun e w'' he => by cases e <;> first | exact he | exact absurd he lets_nQ | exact False.elim he)
  | halt x w' => cases x <;> simp only [Oper.upon] at hh ⊢ <;> first | exact hh | exact False.elim hh
theorem wpOp_nQ {i : Nat} {a : Act} {w : World} {K : Act → World → Prop} (hh : wpOp P ops (nQ Q) i K a w) : wpOp P ops Q i K a w := by
  unfold wpOp at *
  split
  · simpa [*] using hh
  · rename_i o ho
    simp only [ho] at hh
    split
    · rename_i hw
      simp only [hw, if_true] at hh
      rcases hh with h | ⟨_, h⟩
      · exact .inl (wp_nQ h)
      · exact (lets_nQ h).elim
    · rename_i hw; simp only [hw] at hh; exact hh
theorem wpAny_nQ : ∀ (fuel : Nat) (listed : Array Bool) (a : Act) (w : World), wpAny P md ops (nQ Q) fuel listed a w → wpAny P md ops Q fuel listed a w
  | 0, _, _, _, h => h
  | fuel + 1, _, _, _, h => ⟨h.1, fun i hi => wpOp_mono (fun a' w' h' => wpAny_nQ fuel _ a' w' h') (wpOp_nQ (h.2 i hi))⟩
end

section rules
variable {P : Program} {N : Nat} {W : World} {S0 : List Nat} {Q : Exit → Act → World → Prop} {T : Tm} {L : Bx} {C : List Ass} {ops : Array Oper} {C0 : List Ass}

/-- the region's orders from here on; C0: what no operation of the region changes -/
def H (P : Program) (N : Nat) (W : World) (S0 : List Nat) (ops : Array Oper) (Q : Exit → Act → World → Prop) (C0 : List Ass) (fuel : Nat) (listed : Array Bool) (T : Tm) (L : Bx) (C : List Ass) : Prop :=
  G N W S0 (fun a w => wpAnyH P .any ops (nQ Q) (At W S0 C0) fuel listed a w) T L C

theorem REGIONH {id : Nat} (hm : P.follows .mixedOrders = true) (n : Nat) (hn : ops.size = n) (C0 : List Ass) (k : H P N W S0 ops Q C0 n (Array.replicate n false) T L C) : CODE P N W S0 (.region id ops true) Q T L C := fun a w h => by
  subst hn
  exact wp_region_any hm (wpAny_nQ _ _ _ _ (wpAny_of_held _ _ _ _ (k a _ h.drew_)))

theorem at_take {w : World} {js : List Nat} (h : At W S0 C w) (hC : (pulls js C).map (·.1) = some C0) : At W S0 C0 w := by
  obtain ⟨hf, fps, hh, hn, hnew⟩ := h
  obtain ⟨⟨X, R⟩, hp, hX⟩ := Option.map_eq_some_iff.1 hC
  simp only at hX
  subst hX
  obtain ⟨xps, rps, hx, hr, hperm⟩ := holds.pulls js hh hp
  have hfl : (xps.flatten ++ rps.flatten).Perm fps.flatten := by simpa using flat_perm hperm
  have hnd := hfl.nodup_iff.2 hn
  exact ⟨hf, xps, hx, (List.nodup_append.1 hnd).1, fun b hb => hnew b (hfl.subset (List.mem_append.2 (.inl hb)))⟩

/-- one that is taken first -/
theorem HTAKE {fuel : Nat} {listed : Array Bool} {i : Nat} (op : Op) (d : Option Nat) (ty : TypeId) (ho : opAt ops T i = some (op, d, ty)) (hd : ∀ k, d = some k → k < N) (s : SV) (hs : ∀ j off, s = .p j off → j < L.length)
    (hk : (Region.noSelect ops && Region.free .any ops listed i && (Region.ready .any ops listed).contains i) = true) {js : List Nat} (hC : (pulls js C).map (·.1) = some C0)
    (hrun : ∀ (a : Act) (o : Oper) (bs : List Nat) (w : World), (∀ x s, evo T x = some s → a.eval x = den bs s) → o.op = op → o.type = ty → At W S0 C0 w → (execOp a.eval o).run P w = .ok (.value (den bs s)) w)
    (k : H P N W S0 ops Q C0 fuel (listed.setIfInBounds i true) (putd d s T) L C) : H P N W S0 ops Q C0 (fuel + 1) listed T L C := by
  rintro a w ⟨bs, fps, ht, hb, hm⟩
  obtain ⟨o, hi, hw, hop, hdst, hty⟩ := opAt_ok ho ht
  simp only [Bool.and_eq_true] at hk
  subst hdst
  refine wpAnyH_take (v := den bs s) hi hk.1.1 hk.1.2 hk.2 (fun c a w h => h.elim) (.inl ⟨hw, fun w' hw' => hrun a o bs w' (fun x s hx => ht.evo hx) hop hty hw'⟩) (at_take hm.at_ hC) ?_
  exact k _ _ ⟨bs, fps, ht.put (put_putd hd) rfl, hb.put hs (put_putd hd), hm⟩

/-- it is not wanted -/
theorem HSKIP {fuel : Nat} {listed : Array Bool} {i : Nat} (T' : Tm) (ho : (match ops[i]? with | some o => if wants ops T o = some false then put N T o.dst (.v undef) else none | none => none) = some T')
    (hk : (Region.noSelect ops && Region.free .any ops listed i && (Region.ready .any ops listed).contains i) = true) {js : List Nat} (hC : (pulls js C).map (·.1) = some C0)
    (k : H P N W S0 ops Q C0 fuel (listed.setIfInBounds i true) T' L C) : H P N W S0 ops Q C0 (fuel + 1) listed T L C := by
  rintro a w ⟨bs, fps, ht, hb, hm⟩
  split at ho
  · rename_i o hi
    split at ho
    · rename_i hw
      simp only [Bool.and_eq_true] at hk
      refine wpAnyH_take (v := undef) hi hk.1.1 hk.1.2 hk.2 (fun c a w h => h.elim) (.inr ⟨wants_ok hw ht, rfl⟩) (at_take hm.at_ hC) ?_
      exact k _ _ ⟨bs, fps, ht.put ho rfl, hb.put (by intro i o' he; cases he) ho, hm⟩
    · cases ho
  · cases ho

def stillOp : Op → Bool
  | .store .. | .box .. | .alloc .. | .load .. => false
  | _ => true

theorem go1h {o : Oper} (hq : stillOp o.op = true) {T' : Tm} {L' : Bx} (h : go1 P N T L o = some (T', L')) {bs : List Nat} {a : Act} (ht : Tms N T bs a) (hbd : bounded L.length T) :
    ∃ v, (∀ w, (execOp a.eval o).run P w = .ok (.value v) w) ∧ Tms N T' bs (a.put o.dst v) ∧ bounded L.length T' := by
  obtain ⟨dst, op, ty, pos, after, guard⟩ := o
  have rest : ∀ l, opnds op = some l → (if l.all (fun x => (evv T x).isSome) then
        match pureOf P (execOp (evw T) ⟨dst, op, ty, pos, after, guard⟩) with
        | some (.value v) => (put N T dst (.v v)).map (·, L)
        | _ => none
      else none) = some (T', L') →
      ∃ v, (∀ w, (execOp a.eval ⟨dst, op, ty, pos, after, guard⟩).run P w = .ok (.value v) w) ∧ Tms N T' bs (a.put dst v) ∧ bounded L.length T' := by
    intro l hl h
    split at h
    · rename_i hall
      split at h
      · rename_i v hp
        obtain ⟨T1, hput, he⟩ := Option.map_eq_some_iff.1 h
        simp only [Prod.mk.injEq] at he
        obtain ⟨rfl, rfl⟩ := he
        have hc : execOp a.eval ⟨dst, op, ty, pos, after, guard⟩ = execOp (evw T) ⟨dst, op, ty, pos, after, guard⟩ := exec_congr _ l hl _ _ fun x hx => by
          have := List.all_eq_true.1 hall x hx
          cases hv : evv T x with
          | none => simp [hv] at this
          | some y => rw [ht.evv hv]; simp [evw, hv]
        exact ⟨v, fun w => by rw [hc]; exact pureOf_run _ hp w, ht.put hput rfl, hbd.put (by intro i off he; cases he) hput⟩
      · cases h
    · cases h
  cases op with
  | move x =>
    simp only [go1] at h
    obtain ⟨s, hs, h⟩ := Option.bind_eq_some_iff.1 h
    obtain ⟨T1, hput, he⟩ := Option.map_eq_some_iff.1 h
    simp only [Prod.mk.injEq] at he
    obtain ⟨rfl, rfl⟩ := he
    exact ⟨den bs s, fun w => by simp [execOp, Sem.run_pure, ht.evo hs], ht.put hput rfl, hbd.put (by rintro i off rfl; exact hbd.evo hs) hput⟩
  | assign x =>
    simp only [go1] at h
    obtain ⟨s, hs, h⟩ := Option.bind_eq_some_iff.1 h
    obtain ⟨T1, hput, he⟩ := Option.map_eq_some_iff.1 h
    simp only [Prod.mk.injEq] at he
    obtain ⟨rfl, rfl⟩ := he
    exact ⟨den bs s, fun w => by simp [execOp, Sem.run_pure, ht.evo hs], ht.put hput rfl, hbd.put (by rintro i off rfl; exact hbd.evo hs) hput⟩
  | fieldAddr s x f =>
    simp only [go1] at h
    split at h
    · rename_i i off k hx hf
      obtain ⟨T1, hput, he⟩ := Option.map_eq_some_iff.1 h
      simp only [Prod.mk.injEq] at he
      obtain ⟨rfl, rfl⟩ := he
      refine ⟨den bs (.p i (off + k)), fun w => ?_, ht.put hput rfl, hbd.put ?_ hput⟩
      · simp only [execOp, ht.evo hx, den, Sem.run_bind, fieldOff_run hf, Result.andThen_ok, Sem.run_pure, add_lit]
      · intro j o' he; injection he with h1 h2; subst h1; exact hbd.evo hx
    · rename_i a' c off k hx hf
      obtain ⟨T1, hput, he⟩ := Option.map_eq_some_iff.1 h
      simp only [Prod.mk.injEq] at he
      obtain ⟨rfl, rfl⟩ := he
      refine ⟨den bs (.e a' c (off + k)), fun w => ?_, ht.put hput rfl, hbd.put (by intro i o' he; cases he) hput⟩
      simp only [execOp, ht.evo hx, den, Sem.run_bind, fieldOff_run hf, Result.andThen_ok, Sem.run_pure, add_add, Nat.add_assoc]
    · cases h
  | nilCheck x =>
    simp only [go1] at h
    split at h
    · rename_i i off hx
      obtain ⟨T1, hput, he⟩ := Option.map_eq_some_iff.1 h
      simp only [Prod.mk.injEq] at he
      obtain ⟨rfl, rfl⟩ := he
      refine ⟨den bs (.p i off), fun w => ?_, ht.put hput rfl, hbd.put ?_ hput⟩
      · simp [execOp, ht.evo hx, den, Sem.run_pure]
      · intro j o' he; injection he with h1 h2; subst h1; exact hbd.evo hx
    · rename_i a' c off hx
      obtain ⟨T1, hput, he⟩ := Option.map_eq_some_iff.1 h
      simp only [Prod.mk.injEq] at he
      obtain ⟨rfl, rfl⟩ := he
      refine ⟨den bs (.e a' c off), fun w => ?_, ht.put hput rfl, hbd.put (by intro j o' he; cases he) hput⟩
      simp [execOp, ht.evo hx, den, Sem.run_pure]
    · cases h
  | load t x => simp [stillOp] at hq
  | store t x y => simp [stillOp] at hq
  | box t x => simp [stillOp] at hq
  | alloc t => simp [stillOp] at hq
  | pick c x y => exact rest _ rfl h
  | binOp b t x y z => exact rest _ rfl h
  | unOp b t x => exact rest _ rfl h
  | convert b t x => exact rest _ rfl h
  | build t parts => exact rest _ rfl h
  | field t x f => exact rest _ rfl h
  | index t x i => exact rest _ rfl h
  | extract x i => exact rest _ rfl h
  | slice t x lo hi mx => exact rest _ rfl h
  | makeFunc f first cap => exact rest _ rfl h
  | makeInterface t x => exact rest _ rfl h
  | call c => exact rest _ rfl h
  | _ => simp [go1, opnds] at h

theorem HINDEX {fuel : Nat} {listed : Array Bool} {i : Nat} (t : TypeId) (x ix : Operand) (d : Nat) (ty : TypeId) (ho : opAt ops T i = some (.indexAddr t x ix, some d, ty)) (hd : d < N) (a : Option Addr) (n cap : Nat) (kd : IntKind) (z : Int) (e : TypeId) (sz : Nat)
    (hx : evv T x = some (.slice a n cap)) (hix : evv T ix = some (.int kd z)) (hu : P.underlying t = some (.slice e)) (hsz : (P.info? e).map (·.size) = some sz) (ha : a.isSome = true) (h0 : 0 ≤ z) (hn : z < n)
    (hk : (Region.noSelect ops && Region.free .any ops listed i && (Region.ready .any ops listed).contains i) = true) {js : List Nat} (hC : (pulls js C).map (·.1) = some C0)
    (k : H P N W S0 ops Q C0 fuel (listed.setIfInBounds i true) ((d, .e a (z.toNat * sz) 0) :: T) L C) : H P N W S0 ops Q C0 (fuel + 1) listed T L C := by
  refine HTAKE _ _ _ ho (by rintro _ ⟨⟩; exact hd) (.e a (z.toNat * sz) 0) (by intro j off he; cases he) hk hC ?_ k
  intro ac o bs w hev hop _ _
  obtain ⟨ad, rfl⟩ := Option.isSome_iff_exists.1 ha
  obtain ⟨inf, hi, hs⟩ := Option.map_eq_some_iff.1 hsz
  have h1 : ac.eval x = .slice (some ad) n cap := hev x _ (evo_of_evv hx)
  have h2 : ac.eval ix = .int kd z := hev ix _ (evo_of_evv hix)
  simp only [execOp, hop, h1, h2, Instr.indexAt, asIntOf, Sem.run_bind, Sem.run_pure, Result.andThen_ok, run_underlying hu]
  rw [if_pos ⟨h0, hn⟩]
  simp [Sem.run_bind, run_sizeOf hi, Sem.run_pure, hs, den, addrOf]

theorem HLOADE {fuel : Nat} {listed : Array Bool} {i : Nat} (t : TypeId) (x : Operand) (d : Nat) (ty : TypeId) (ho : opAt ops T i = some (.load t x, some d, ty)) (hd : d < N) (a : Option Addr) (c off : Nat) (cs : List Value) (v : Value)
    (hx : evo T x = some (.e a c off)) (he : ∀ w, At W S0 C0 w → ElemAt w a c cs) (hv : loadOf P t cs off = some v)
    (hk : (Region.noSelect ops && Region.free .any ops listed i && (Region.ready .any ops listed).contains i) = true) {js : List Nat} (hC : (pulls js C).map (·.1) = some C0)
    (k : H P N W S0 ops Q C0 fuel (listed.setIfInBounds i true) ((d, .v v) :: T) L C) : H P N W S0 ops Q C0 (fuel + 1) listed T L C := by
  refine HTAKE _ _ _ ho (by rintro _ ⟨⟩; exact hd) (.v v) (by intro j off he; cases he) hk hC ?_ k
  intro ac o bs w hev hop _ hat
  have h1 : ac.eval x = .pointer (some ((addrOf a).add (c + off))) := hev x _ hx
  simp only [execOp, hop, h1, Instr.loadAt, Instr.sureAddr, Sem.run_bind, Sem.run_pure, Result.andThen_ok, (he w hat).load hv, den]

/-- what comes behind an operation that is carried out -/
def HN (P : Program) (W : World) (S0 : List Nat) (ops : Array Oper) (Q : Exit → Act → World → Prop) (C0 : List Ass) (fuel : Nat) (listed : Array Bool) : Act → World → Prop :=
  fun a w => At W S0 C0 w ∧ wpAnyH P .any ops (nQ Q) (At W S0 C0) fuel listed a w
def AllOf (p : Nat → Prop) : List Nat → Prop
  | [] => True
  | [i] => p i
  | i :: is => p i ∧ AllOf p is
theorem AllOf.mem {p : Nat → Prop} : ∀ {is : List Nat}, AllOf p is → ∀ i ∈ is, p i
  | [], _, i, hi => by cases hi
  | [j], h, i, hi => by simp at hi; subst hi; exact h
  | j :: k :: is, h, i, hi => by
    rcases List.mem_cons.1 hi with rfl | hi
    · exact h.1
    · exact AllOf.mem h.2 i hi
theorem HALL {fuel : Nat} {listed : Array Bool} (rs : List Nat) (hr : Region.ready .any ops listed = rs) (hne : rs ≠ [])
    (k : AllOf (fun i => OP P N W S0 ops (nQ Q) i (HN P W S0 ops Q C0 fuel (listed.setIfInBounds i true)) T L C) rs) : H P N W S0 ops Q C0 (fuel + 1) listed T L C := fun a w h =>
  wpAnyH_all hr hne fun i hi => k.mem i hi a w h
theorem HKEEP {fuel : Nat} {listed : Array Bool} {js : List Nat} (hC : (pulls js C).map (·.1) = some C0) (k : H P N W S0 ops Q C0 fuel listed T L C) : G N W S0 (HN P W S0 ops Q C0 fuel listed) T L C := by
  intro a w h
  obtain ⟨bs, fps, ht, hb, hm⟩ := id h
  exact ⟨at_take hm.at_ hC, k a w h⟩
theorem HEND {fuel : Nat} {listed : Array Bool} (hr : Region.ready .any ops listed = []) (k : DONE N W S0 Q .normal T L C) : H P N W S0 ops Q C0 fuel listed T L C := fun a w h =>
  wpAnyH_done (Q := nQ Q) hr (show nQ Q .normal a w from k a w h) fuel
theorem HCAST {fuel : Nat} {listed : Array Bool} {d : Nat} (v v' : Value) (hd : lk T d = some (.v v)) (he : v = v') (k : H P N W S0 ops Q C0 fuel listed ((d, .v v') :: T) L C) : H P N W S0 ops Q C0 fuel listed T L C := CAST v v' hd he k
end rules
end SX
end Go.Proofs.YthnbaikmbgaddaaGreat
/- Cursors over the bytes of a draw: an object behind a pointer that is handed from call to call. It imports no program. -/
namespace Go.Proofs.YthnbaikmbgaddaaGreat
namespace SX
set_option linter.unusedVariables false
set_option linter.unusedSimpArgs false
open Go Go.RowKit

/-- a block that holds these cells -/
def ptC (b : Nat) (t : TypeId) (cells : List Value) : Ass :=
  ⟨fun w f => f = [b] ∧ w.heap[b]? = some (.cells cells.toArray t (0, 0)), fun _ _ _ h hb => ⟨h.1, by rw [hb b (by rw [h.1]; simp)]; exact h.2⟩, fun w f h x hx => by
    rw [h.1] at hx; simp at hx; subst hx; exact (Array.getElem?_eq_some_iff.1 h.2).1⟩
/-- where the bytes of a draw lie -/
structure Cd where
  lo : Nat
  t : TypeId
  a : Option Addr
  n : Nat
  c : Nat
def RdLo (W : World) (lo : Nat) (a : Option Addr) (xs : List UInt8) : Prop := ∃ f, SlR byteL W a xs f ∧ ∀ x ∈ f, x < lo
theorem RdLo.rd {W w : World} {S0 : List Nat} {lo : Nat} {a : Option Addr} {xs : List UInt8} (h : RdLo W lo a xs) (hf : Fr S0 W w) (hS : ∀ x ∈ S0, lo ≤ x) : Rd byteL w a xs := by
  obtain ⟨f, hs, hl⟩ := h
  exact ⟨f, hs.st fun b hb => hf.block b (hs.lt b hb) (fun hm => by have := hl b hb; have := hS b hm; omega)⟩
theorem RdLo.rd0 {W : World} {lo : Nat} {a : Option Addr} {xs : List UInt8} (h : RdLo W lo a xs) : Rd byteL W a xs := let ⟨f, hs, _⟩ := h; ⟨f, hs⟩
def CodeOk (W : World) (d : Cd) : Prop := ∃ xs : List UInt8, xs.length = d.n ∧ RdLo W d.lo d.a xs
theorem CodeOk.fr {W w : World} {S0 : List Nat} {d : Cd} (h : CodeOk W d) (hf : Fr S0 W w) (hS : ∀ x ∈ S0, d.lo ≤ x) : CodeOk w d := by
  obtain ⟨xs, hn, f, hs, hl⟩ := h
  exact ⟨xs, hn, f, hs.st fun b hb => hf.block b (hs.lt b hb) (fun hm => by have := hl b hb; have := hS b hm; omega), hl⟩
theorem CodeOk.of {W w : World} {t : TypeId} {a : Option Addr} {c : Nat} {xs : List UInt8} (h : Rd byteL W a xs) (hf : Fr [] W w) : CodeOk w ⟨W.heap.size, t, a, xs.length, c⟩ := by
  obtain ⟨f, hs⟩ := h
  exact ⟨xs, rfl, f, hs.fr hf, hs.lt⟩
/-- a cursor -/
def curA (d : Cd) (p : Value) : Ass :=
  ⟨fun w f => ∃ b i h, p = .pointer (some ⟨b, 0, none⟩) ∧ 0 ≤ i ∧ d.lo ≤ b ∧ (ptC b d.t [.slice d.a d.n d.c, vi i, vi h]).φ w f,
    fun w w' f ⟨b, i, h, h1, h2, h3, h4⟩ hb => ⟨b, i, h, h1, h2, h3, (ptC b d.t _).st w w' f h4 hb⟩, fun w f ⟨b, i, h, h1, h2, h3, h4⟩ => (ptC b d.t _).lt w f h4⟩

/-- what is read beside a cursor -/
def RdP {α : Type} (W : World) (p : Value) (L : Lay α) (a : Option Addr) (xs : List α) : Prop := ∃ f, SlR L W a xs f ∧ ∀ b, p = .pointer (some ⟨b, 0, none⟩) → b ∉ f
section
variable {α : Type} {L : Lay α} {W w : World} {S0 : List Nat} {C : List Ass} {p : Value} {a : Option Addr} {xs : List α}
theorem RdP.rd0 (h : RdP W p L a xs) : Rd L W a xs := let ⟨f, hs, _⟩ := h; ⟨f, hs⟩
theorem RdP.len (h : RdP W p L a xs) : xs.length ≤ 9223372036854775807 := Rd.len h.rd0
theorem RdP.fr (h : RdP W p L a xs) (hf : Fr S0 W w) (hP : ∀ x ∈ S0, p = .pointer (some ⟨x, 0, none⟩)) : RdP w p L a xs := by
  obtain ⟨f, hs, hn⟩ := h
  exact ⟨f, hs.st fun b hb => hf.block b (hs.lt b hb) (fun hm => hn b (hP b hm) hb), hn⟩
theorem RdP.rd (h : RdP W p L a xs) (hf : Fr S0 W w) (hP : ∀ x ∈ S0, p = .pointer (some ⟨x, 0, none⟩)) : Rd L w a xs := (h.fr hf hP).rd0
theorem RdP.nil (W : World) (p : Value) (L : Lay α) : RdP W p L none [] := ⟨[], ⟨by simp [maxLen], .inl ⟨rfl, rfl⟩⟩, by simp⟩
theorem holds.mem {w : World} : ∀ {C : List Ass} {fps : List (List Nat)} (i : Nat) {A : Ass}, holds w C fps → C[i]? = some A → ∃ g, A.φ w g ∧ g ∈ fps
  | A :: _, f :: _, 0, _, h, hi => by simp at hi; subst hi; exact ⟨f, h.1, by simp⟩
  | _ :: _, _ :: _, i + 1, _, h, hi => by
    obtain ⟨g, hg, hm⟩ := holds.mem i h.2 (by simpa using hi)
    exact ⟨g, hg, by simp [hm]⟩
  | [], _, _, _, _, hi => by simp at hi
  | _ :: _, [], _, _, h, _ => h.elim
theorem holds.nth2 {w : World} : ∀ {C : List Ass} {fps : List (List Nat)} (i j : Nat) {A B : Ass}, holds w C fps → fps.flatten.Nodup → C[i]? = some A → C[j]? = some B → i ≠ j → ∃ f g, A.φ w f ∧ B.φ w g ∧ ∀ x ∈ f, x ∉ g
  | A :: C, f :: fps, 0, 0, _, _, _, _, _, _, hne => absurd rfl hne
  | A :: C, f :: fps, 0, j + 1, _, B, h, hn, hi, hj, _ => by
    simp at hi; subst hi
    have hn' := List.nodup_append.1 (by simpa using hn : (f ++ fps.flatten).Nodup)
    obtain ⟨g, hg, hs⟩ : ∃ g, B.φ w g ∧ g ∈ fps := holds.mem j h.2 (by simpa using hj)
    exact ⟨f, g, h.1, hg, fun x hx hxg => hn'.2.2 x hx x (List.mem_flatten.2 ⟨g, hs, hxg⟩) rfl⟩
  | A :: C, f :: fps, i + 1, 0, _, B, h, hn, hi, hj, _ => by
    simp at hj; subst hj
    have hn' := List.nodup_append.1 (by simpa using hn : (f ++ fps.flatten).Nodup)
    obtain ⟨g, hg, hs⟩ := holds.mem i h.2 (by simpa using hi)
    exact ⟨g, f, hg, h.1, fun x hx hxf => hn'.2.2 x hxf x (List.mem_flatten.2 ⟨g, hs, hx⟩) rfl⟩
  | A :: C, f :: fps, i + 1, j + 1, _, _, h, hn, hi, hj, hne => by
    have hn' := List.nodup_append.1 (by simpa using hn : (f ++ fps.flatten).Nodup)
    exact holds.nth2 i j h.2 hn'.2.1 (by simpa using hi) (by simpa using hj) (by omega)
  | [], _, _, _, _, _, _, _, hi, _, _ => by simp at hi
  | _ :: _, [], _, _, _, _, h, _, _, _, _ => h.elim
theorem RdP.own {e : TypeId} {n c : Nat} {d : Cd} (hw : At W S0 C w) (i j : Nat) (hi : C[i]? = some (slA e L (.slice a n c) xs)) (hj : C[j]? = some (curA d p)) (hij : i ≠ j) : RdP w p L a xs := by
  obtain ⟨fps, hh, hn, _⟩ := hw.ch
  obtain ⟨f, g, hf, hg, hd⟩ := holds.nth2 i j hh hn hi hj hij
  obtain ⟨a', c', f', hv, hsub, hr⟩ := SlO.rd hf
  injection hv with e1 e2 e3
  subst e1
  obtain ⟨b, _, _, h1, _, _, h4, _⟩ := hg
  refine ⟨f', hr, fun b' hb' hm => ?_⟩
  rw [h1] at hb'
  injection hb' with hb'
  injection hb' with hb'
  injection hb' with hb'
  subst hb'
  exact hd _ (hsub _ hm) (by rw [h4]; simp)
end

section rules
variable {P : Program} {N : Nat} {W : World} {S0 : List Nat} {Q : Exit → Act → World → Prop} {T : Tm} {L : Bx} {C : List Ass} {ops : Array Oper} {K : Act → World → Prop}

/-- a pointer into a block, seen as one into a row -/
theorem ASE {d b : Nat} (hd : lk T d = some (.v (.pointer (some ⟨b, 0, none⟩)))) (k : G N W S0 K ((d, .e (some ⟨b, 0, none⟩) 0 0) :: T) L C) : G N W S0 K T L C := by
  rintro a w ⟨bs, fps, ht, hb, hm⟩
  refine k a w ⟨bs, fps, ⟨ht.1, ht.2.1, fun i x hx => ?_⟩, hb, hm⟩
  simp only [lk] at hx
  by_cases hk : d = i
  · subst hk
    simp at hx; subst hx
    have := ht.2.2 d _ hd
    rw [this]
    simp [den, addrOf, add_lit]
  · have : (d == i) = false := by simpa using hk
    simp only [this, Bool.false_eq_true, if_false] at hx
    exact ht.2.2 i x hx
theorem ptC_elem {b : Nat} {t : TypeId} {cells : List Value} {w : World} (h : ∃ f, (ptC b t cells).φ w f) : ElemAt w (some ⟨b, 0, none⟩) 0 cells := by
  obtain ⟨f, _, hh⟩ := h
  intro j hj
  have e : (addrOf (some ⟨b, 0, none⟩)).add (0 + j) = ⟨b, j, none⟩ := by simp [addrOf, add_lit]
  rw [e]
  simp only [World.cell?, hh]
  simp
/-- a store into the block -/
theorem STOREC {i : Nat} (t : TypeId) (x y : Operand) (ty : TypeId) (ho : opAt ops T i = some (.store t x y, none, ty)) (j : Nat) (R : List Ass) (b off : Nat) (tb : TypeId) (cells cells' : List Value) (hp : pulls [j] C = some ([ptC b tb cells], R))
    (v : Value) (hx : evo T x = some (.e (some ⟨b, 0, none⟩) 0 off)) (hy : evv T y = some v) (hst : storeOf P t cells off v = some cells') (k' : G N W S0 K T L (R ++ [ptC b tb cells'])) : OP P N W S0 ops Q i K T L C := by
  refine STEPM (js := [j]) (ι := Unit) (val := fun _ => undef) (own := fun _ => [ptC b tb cells']) _ none _ ho (by rintro _ ⟨⟩) hp ?_ (fun _ => k')
  intro ac o bs w fps hev hop hty hat hown hnd
  match fps, hown with
  | [fp], ⟨⟨hfp, hh⟩, _⟩ =>
    obtain ⟨w', hrun, hn, hs, h1, h2, h3, h4⟩ := storeOf_run (P := P) hh hst
    have e1 : ac.eval x = .pointer (some ⟨b, off, none⟩) := by rw [hev x _ hx]; simp [den, addrOf, add_lit]
    have e2 : ac.eval y = v := hev y _ (evo_of_evv hy)
    refine ⟨(), w', .skip, [[b]], ?_, .inr ⟨rfl, rfl⟩, ⟨⟨rfl, hn⟩, trivial⟩, by simp, ?_, ?_⟩
    · simp only [execOp, hop, e1, e2, Instr.storeAt, Instr.sureAddr, Sem.run_bind, Sem.run_pure, Result.andThen_ok, hrun]
    · intro c hc _; rw [hfp]; simpa using hc
    · refine ⟨h1, h2, h3, by omega, fun c hc hne => h4 c (fun e => hne (by rw [hfp]; simp [e]))⟩
end rules
end SX
end Go.Proofs.YthnbaikmbgaddaaGreat
