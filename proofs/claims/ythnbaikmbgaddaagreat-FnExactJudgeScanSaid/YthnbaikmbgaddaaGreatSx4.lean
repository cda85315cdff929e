/- The rules of control, of calls and of returns. It imports no program. -/
import Derived.Test.YthnbaikmbgaddaaGreatSx3
namespace Go.Proofs.YthnbaikmbgaddaaGreat
namespace SX
set_option linter.unusedVariables false
set_option linter.unusedSimpArgs false
open Go Go.RowKit

section rules
variable {P : Program} {N : Nat} {W : World} {S0 : List Nat} {Q : Exit → Act → World → Prop} {T : Tm} {L : Bx} {C : List Ass} {ops : Array Oper}

theorem REGION {id : Nat} (is : List Nat) (hi : List.range ops.size = is) (k : OPS P N W S0 ops Q is T L C) : CODE P N W S0 (.region id ops false) Q T L C := fun a w h => by
  subst hi
  exact wp_region (k a w h)
theorem ENDOPS (k : DONE N W S0 Q .normal T L C) : OPS P N W S0 ops Q [] T L C := fun a w h => k a w h
theorem Sat.drew_ {a : Act} {w : World} (h : Sat N W S0 T L C a w) : Sat N W S0 T L C a { w with drawn := w.drawn + 1 } := by
  obtain ⟨bs, fps, ht, hb, hm⟩ := h
  refine ⟨bs, fps, ht, hb, ⟨⟨hm.fr.os, hm.fr.tape, hm.fr.output, hm.fr.size, hm.fr.block⟩, boxes.st hm.bx fun _ _ => rfl, holds.st hm.ch fun _ _ => rfl, hm.nd, hm.new⟩⟩
theorem SEQ {x y : Code} (k : CODE P N W S0 x (Exit.then (y.wp P Q) Q) T L C) : CODE P N W S0 (.seq x y) Q T L C := fun a w h => wp_seq (k a w h)
theorem NEXT {y : Code} {Q' : Exit → Act → World → Prop} (k : CODE P N W S0 y Q T L C) : DONE N W S0 (Exit.then (y.wp P Q) Q') .normal T L C := fun a w h => k a w h
theorem SKIP (k : DONE N W S0 Q .normal T L C) : CODE P N W S0 .skip Q T L C := fun a w h => wp_skip (k a w h)
theorem RET (k : DONE N W S0 Q .ret T L C) : CODE P N W S0 .ret Q T L C := fun a w h => wp_ret (k a w h)
theorem EXIT {id : Nat} (k : DONE N W S0 Q (.exit id) T L C) : CODE P N W S0 (.exit id) Q T L C := fun a w h => wp_exit (k a w h)
theorem BLOCK {id : Nat} {c : Code} (k : CODE P N W S0 c (Exit.inBlock id Q) T L C) : CODE P N W S0 (.block id c) Q T L C := fun a w h => wp_block (k a w h)
/-- a return, or a leave, passes what stands behind -/
theorem PASS {K : Act → World → Prop} {e : Exit} (he : match e with | .ret | .exit _ => True | _ => False) (k : DONE N W S0 Q e T L C) : DONE N W S0 (Exit.then K Q) e T L C := fun a w h => by
  cases e with
  | ret => exact k a w h
  | exit id => exact k a w h
  | _ => exact he.elim
theorem OUT {id : Nat} (k : DONE N W S0 Q .normal T L C) : DONE N W S0 (Exit.inBlock id Q) (.exit id) T L C := fun a w h => by
  simpa [Exit.inBlock] using k a w h
theorem OUTN {id : Nat} (k : DONE N W S0 Q .normal T L C) : DONE N W S0 (Exit.inBlock id Q) .normal T L C := fun a w h => k a w h
theorem OUTR {id : Nat} (k : DONE N W S0 Q .ret T L C) : DONE N W S0 (Exit.inBlock id Q) .ret T L C := fun a w h => k a w h
theorem OUTX {id id' : Nat} (hne : id' ≠ id) (k : DONE N W S0 Q (.exit id') T L C) : DONE N W S0 (Exit.inBlock id Q) (.exit id') T L C := fun a w h => by
  simpa [Exit.inBlock, hne] using k a w h

theorem IF {x : Operand} {c d : Code} (b : Bool) (hx : evv T x = some (.bool b)) (k1 : b = true → CODE P N W S0 c Q T L C) (k2 : b = false → CODE P N W S0 d Q T L C) : CODE P N W S0 (.cond x c d) Q T L C := by
  rintro a w ⟨bs, fps, ht, hb, hm⟩
  exact wp_cond_split (ht.evv hx) (fun h => k1 h a w ⟨bs, fps, ht, hb, hm⟩) (fun h => k2 h a w ⟨bs, fps, ht, hb, hm⟩)
theorem IFT {x : Operand} {c d : Code} (hx : evv T x = some (.bool true)) (k : CODE P N W S0 c Q T L C) : CODE P N W S0 (.cond x c d) Q T L C := IF true hx (fun _ => k) (fun h => by cases h)
theorem IFF {x : Operand} {c d : Code} (hx : evv T x = some (.bool false)) (k : CODE P N W S0 d Q T L C) : CODE P N W S0 (.cond x c d) Q T L C := IF false hx (fun h => by cases h) (fun _ => k)

/-- slot d holds the Bool b: both ways -/
theorem SPLIT {K : Act → World → Prop} {d : Nat} (b : Bool) (hd : lk T d = some (.v (.bool b))) (k1 : b = true → G N W S0 K ((d, .v (.bool true)) :: T) L C) (k2 : b = false → G N W S0 K ((d, .v (.bool false)) :: T) L C) :
    G N W S0 K T L C := by
  rintro a w ⟨bs, fps, ht, hb, hm⟩
  have key : ∀ c, b = c → Sat N W S0 ((d, .v (.bool c)) :: T) L C a w := by
    rintro c rfl
    refine ⟨bs, fps, ⟨ht.1, ht.2.1, fun i x hx => ?_⟩, hb, hm⟩
    simp only [lk] at hx
    by_cases hk : d = i
    · subst hk; simp at hx; subst hx; exact ht.2.2 d _ hd
    · have : (d == i) = false := by simpa using hk
      simp only [this, Bool.false_eq_true, if_false] at hx
      exact ht.2.2 i x hx
  cases hbb : b
  · exact k2 hbb a w (key _ hbb)
  · exact k1 hbb a w (key _ hbb)

/-- slot d holds v, which is v' -/
theorem CAST {K : Act → World → Prop} {d : Nat} (v v' : Value) (hd : lk T d = some (.v v)) (he : v = v') (k : G N W S0 K ((d, .v v') :: T) L C) : G N W S0 K T L C := by
  subst he
  rintro a w ⟨bs, fps, ht, hb, hm⟩
  refine k a w ⟨bs, fps, ⟨ht.1, ht.2.1, fun i x hx => ?_⟩, hb, hm⟩
  simp only [lk] at hx
  by_cases hk : d = i
  · subst hk; simp at hx; subst hx; exact ht.2.2 d _ hd
  · have : (d == i) = false := by simpa using hk
    simp only [this, Bool.false_eq_true, if_false] at hx
    exact ht.2.2 i x hx

/-! ### What the memory is at a call -/
structure At (W : World) (S0 : List Nat) (C : List Ass) (w : World) : Prop where
  fr : Fr S0 W w
  ch : ∃ fps, holds w C fps ∧ fps.flatten.Nodup ∧ ∀ b ∈ fps.flatten, b < W.heap.size → b ∈ S0

theorem holds.nth {w : World} : ∀ {C : List Ass} {fps : List (List Nat)} (i : Nat) {A : Ass}, holds w C fps → C[i]? = some A → ∃ fp, A.φ w fp
  | A :: _, fp :: _, 0, _, h, hi => by simp at hi; subst hi; exact ⟨fp, h.1⟩
  | _ :: _, _ :: _, i + 1, _, h, hi => holds.nth i h.2 (by simpa using hi)
  | [], _, _, _, _, hi => by simp at hi
  | _ :: _, [], _, _, h, _ => h.elim

theorem At.own {W : World} {S0 : List Nat} {C : List Ass} {w : World} (h : At W S0 C w) (i : Nat) {A : Ass} (hi : C[i]? = some A) : ∃ fp, A.φ w fp := by
  obtain ⟨fps, hf, _⟩ := h.ch
  exact hf.nth i hi

theorem Mem.at_ {bs : List Nat} {fps : List (List Nat)} {w : World} (h : Mem W S0 L C bs fps w) : At W S0 C w := ⟨h.fr, fps, h.ch, (List.nodup_append.1 h.nd).2.1, fun b hb => h.new b (List.mem_append.2 (.inr hb))⟩

/-! ### Calls -/
/-- what a call hands back: a value and memory of the caller's own, by a parameter -/
structure Res where
  ι : Type
  val : ι → Value
  own : ι → List Ass

def RetM (S : List Nat) (r : Res) (w : World) : Ending → World → Prop := fun e w' =>
  ∃ (x : r.ι) (fps : List (List Nat)), e = .returned (r.val x) ∧ holds w' (r.own x) fps ∧ fps.flatten.Nodup ∧ (∀ b ∈ fps.flatten, b < w.heap.size → b ∈ S) ∧ Fr S w w'

/-- f, called with vs in the world W of which it may take what 'pre' says for its own -/
def Spec (P : Program) (W : World) (pre : List Ass) (f : FuncId) (vs : Array Value) (r : Res) : Prop :=
  ∀ fps, holds W pre fps → fps.flatten.Nodup → Calls P f vs W (RetM fps.flatten r W)

def callOf (P : Program) (ops : Array Oper) (T : Tm) (i : Nat) : Option (FuncId × Array Value × Option Nat) :=
  match ops[i]? with
  | some o =>
    if wants ops T o = some true then
      match opnds o.op with
      | some l =>
        if l.all (fun x => (evv T x).isSome) then
          match pureOf P (execOp (evw T) o) with
          | some (.enter f args) => some (f, args, o.dst)
          | _ => none
        else none
      | none => none
    else none
  | none => none

theorem callOf_ok {i : Nat} {f : FuncId} {vs : Array Value} {d : Option Nat} (h : callOf P ops T i = some (f, vs, d)) {bs : List Nat} {a : Act} (ht : Tms N T bs a) :
    ∃ o, ops[i]? = some o ∧ Region.wanted o (yielded ops a.tmps) = true ∧ o.dst = d ∧ ∀ w, (execOp a.eval o).run P w = .ok (.enter f vs) w := by
  unfold callOf at h
  split at h
  · rename_i o hi
    split at h
    · rename_i hw
      split at h
      · rename_i l hl
        split at h
        · rename_i hall
          split at h
          · rename_i f' args hp
            simp only [Option.some.injEq, Prod.mk.injEq] at h
            obtain ⟨rfl, rfl, rfl⟩ := h
            have hc : execOp a.eval o = execOp (evw T) o := exec_congr o l hl _ _ fun x hx => by
              have := List.all_eq_true.1 hall x hx
              cases hv : evv T x with
              | none => simp [hv] at this
              | some y => rw [ht.evv hv]; simp [evw, hv]
            exact ⟨o, hi, wants_ok hw ht, rfl, fun w => by rw [hc]; exact pureOf_run _ hp w⟩
          · cases h
        · cases h
      · cases h
    · cases h
  · cases h

theorem flat_perm {α : Type} {l m : List (List α)} (h : l.Perm m) : l.flatten.Perm m.flatten := by
  induction h with
  | nil => exact .refl _
  | cons x _ ih => simpa using ih.append_left x
  | swap x y l =>
    simp only [List.flatten_cons, ← List.append_assoc]
    exact List.perm_append_comm.append_right _
  | trans _ _ h1 h2 => exact h1.trans h2

/-- memory handed over, and what comes back for it -/
theorem Mem.exch {bs : List Nat} {fps : List (List Nat)} {w : World} (hm : Mem W S0 L C bs fps w) {js : List Nat} {pre R : List Ass} (hp : pulls js C = some (pre, R)) :
    ∃ xps, holds w pre xps ∧ xps.flatten.Nodup ∧ ∀ w' own nps, holds w' own nps → nps.flatten.Nodup → (∀ b ∈ nps.flatten, b < w.heap.size → b ∈ xps.flatten) → Fr xps.flatten w w' →
      ∃ fps', Mem W S0 L (R ++ own) bs fps' w' := by
  obtain ⟨xps, rps, hx, hr, hperm⟩ := holds.pulls js hm.ch hp
  have hfl : (xps.flatten ++ rps.flatten).Perm fps.flatten := by simpa using flat_perm hperm
  have hnd := List.nodup_append.1 hm.nd
  have hndf : (xps.flatten ++ rps.flatten).Nodup := hfl.nodup_iff.2 hnd.2.1
  have hndx := List.nodup_append.1 hndf
  refine ⟨xps, hx, hndx.1, ?_⟩
  intro w' own nps hn hnn hnew hfr
  have hbl := boxes.lt hm.bx
  have hrl := holds.lt hr
  -- what is not handed over stays
  have hkeepb : ∀ b ∈ bs, w'.heap[b]? = w.heap[b]? := fun b hbm => hfr.block b (hbl b hbm) (fun hxm => hnd.2.2 b hbm b (hfl.subset (List.mem_append.2 (.inl hxm))) rfl)
  have hkeepr : ∀ b ∈ rps.flatten, w'.heap[b]? = w.heap[b]? := fun b hbm => hfr.block b (hrl b hbm) (fun hxm => hndx.2.2 b hxm b hbm rfl)
  refine ⟨rps ++ nps, hm.fr.trans' hfr (fun y hy hlt => hm.new y (List.mem_append.2 (.inr (hfl.subset (List.mem_append.2 (.inl hy))))) hlt), boxes.st hm.bx hkeepb, (holds.st hr hkeepr).append hn, ?_, ?_⟩
  · rw [List.flatten_append, List.nodup_append]
    refine ⟨hnd.1, List.nodup_append.2 ⟨hndx.2.1, hnn, fun y hy z hz e => ?_⟩, fun y hy z hz e => ?_⟩
    · subst e
      exact hndx.2.2 y (hnew y hz (hrl y hy)) y hy rfl
    · subst e
      rcases List.mem_append.1 hz with h1 | h1
      · exact hnd.2.2 y hy y (hfl.subset (List.mem_append.2 (.inr h1))) rfl
      · exact hnd.2.2 y hy y (hfl.subset (List.mem_append.2 (.inl (hnew y h1 (hbl y hy))))) rfl
  · intro b hbm hlt
    rw [List.flatten_append] at hbm
    rcases List.mem_append.1 hbm with h1 | h1
    · exact hm.new b (List.mem_append.2 (.inl h1)) hlt
    · rcases List.mem_append.1 h1 with h1 | h1
      · exact hm.new b (List.mem_append.2 (.inr (hfl.subset (List.mem_append.2 (.inr h1))))) hlt
      · exact hm.new b (List.mem_append.2 (.inr (hfl.subset (List.mem_append.2 (.inl (hnew b h1 (Nat.lt_of_lt_of_le hlt hm.fr.size))))))) hlt

def putd (d : Option Nat) (x : SV) (T : Tm) : Tm :=
  match d with
  | some k => (k, x) :: T
  | none => T

theorem put_putd {d : Option Nat} {x : SV} (hd : ∀ k, d = some k → k < N) : put N T d x = some (putd d x T) := by
  cases d with
  | none => rfl
  | some k => simp [put, putd, hd k rfl]

/-- CALL: the places 'js' of what is owned are handed over; the callee's result comes to slot d -/
theorem CALL {i : Nat} {K : Act → World → Prop} (f : FuncId) (vs : Array Value) (d : Option Nat) (hc : callOf P ops T i = some (f, vs, d)) (js : List Nat) (pre R : List Ass) (hp : pulls js C = some (pre, R)) (r : Res)
    (hcon : ∀ w, At W S0 C w → Spec P w pre f vs r) (hd : ∀ k, d = some k → k < N) (k : ∀ x : r.ι, G N W S0 K (putd d (.v (r.val x)) T) L (R ++ r.own x)) : OP P N W S0 ops Q i K T L C := by
  rintro a w ⟨bs, fps, ht, hb, hm⟩
  obtain ⟨o, hi, hw, hdst, hrun⟩ := callOf_ok hc ht
  refine op_step hi ?_
  rw [hw, if_pos rfl]
  unfold Oper.wp
  rw [hrun w, Oper.upon_enter]
  obtain ⟨xps, hx, hnx, hex⟩ := hm.exch hp
  refine (hcon w hm.at_ xps hx hnx).mono ?_
  rintro e w' ⟨x, nps, rfl, hn, hnn, hnew, hfr⟩
  obtain ⟨fps', hmem⟩ := hex w' _ nps hn hnn hnew hfr
  refine k x _ _ ⟨bs, fps', ?_, ?_, hmem⟩
  · subst hdst
    exact ht.put (put_putd hd) rfl
  · cases d with
    | none => exact hb
    | some kk => exact hb

/-! ### Returns -/
def resOf1 (P : Program) (T : Tm) (L : Bx) : ResultVar → Option Value
  | .tmp t => match lk T t with | some (.v v) => some v | _ => none
  | .cell t ty => match lk T t with | some (.p i off) => (match L[i]? with | some b => loadOf P ty b.2 off | none => none) | _ => none
def resOfs (P : Program) (T : Tm) (L : Bx) : List ResultVar → Option (List Value)
  | [] => some []
  | r :: rs => match resOf1 P T L r, resOfs P T L rs with
    | some v, some vs => some (v :: vs)
    | _, _ => none
def resOf (fn : Func) (P : Program) (T : Tm) (L : Bx) : Option Value :=
  match resOfs P T L fn.results.toList with
  | some [v] => some v
  | some vs => some (.tuple vs.toArray)
  | none => none
def resStep (tmps : Array Value) : ResultVar → Sem Value
  | .tmp t => pure (tmps.getD t undef)
  | .cell a t => do loadVar t (← asAddr (tmps.getD a undef))

theorem resOf1_ok {r : ResultVar} {v : Value} (h : resOf1 P T L r = some v) {a : Act} {w : World} {bs : List Nat} {fps : List (List Nat)} (ht : Tms N T bs a) (hm : Mem W S0 L C bs fps w) :
    (resStep a.tmps r).run P w = .ok v w := by
  cases r with
  | tmp t =>
    simp only [resOf1] at h
    split at h
    · rename_i v' hl
      simp only [Option.some.injEq] at h
      subst h
      have := ht.2.2 t _ hl
      simp [resStep, Array.getD_eq_getD_getElem?, this, den, Sem.run_pure]
    · cases h
  | cell t ty =>
    simp only [resOf1] at h
    split at h
    · rename_i i off hl
      split at h
      · rename_i b hb
        obtain ⟨bt, bcs⟩ := b
        obtain ⟨bk, hbk, hheap⟩ := boxes.at hm.bx hb
        have hp := ht.2.2 t _ hl
        simp [resStep, hp, den, hbk, asAddr, loadOf_run hheap h]
      · cases h
    · cases h

theorem resOfs_ok : ∀ {rs : List ResultVar} {vs : List Value}, resOfs P T L rs = some vs → ∀ {a : Act} {w : World} {bs : List Nat} {fps : List (List Nat)}, Tms N T bs a → Mem W S0 L C bs fps w →
    (rs.mapM (resStep a.tmps)).run P w = .ok vs w
  | [], vs, h, a, w, bs, fps, ht, hm => by simp [resOfs] at h; subst h; simp [Sem.run_pure]
  | r :: rs, vs, h, a, w, bs, fps, ht, hm => by
    simp only [resOfs] at h
    split at h
    · rename_i v vs' hv hvs
      simp only [Option.some.injEq] at h
      subst h
      simp [List.mapM_cons, Sem.run_bind, resOf1_ok hv ht hm, resOfs_ok hvs ht hm, Sem.run_pure]
    · cases h

theorem resOf_ok {fn : Func} {v : Value} (h : resOf fn P T L = some v) {a : Act} {w : World} {bs : List Nat} {fps : List (List Nat)} (ht : Tms N T bs a) (hm : Mem W S0 L C bs fps w) :
    (results fn a.tmps).run P w = .ok v w := by
  have hr : results fn a.tmps = (fn.results.mapM (resStep a.tmps) >>= fun vs => pure (if h : vs.size = 1 then vs[0] else .tuple vs)) := by
    unfold results
    congr 1
  rw [hr]
  unfold resOf at h
  have key : ∀ vs, resOfs P T L fn.results.toList = some vs → (fn.results.mapM (resStep a.tmps)).run P w = .ok vs.toArray w := by
    intro vs hvs
    have h1 := resOfs_ok hvs ht hm
    rw [Array.mapM_eq_mapM_toList, map_eq_pure_bind, Sem.run_bind, h1]
    simp [Sem.run_pure]
  split at h
  · rename_i v' hv
    simp only [Option.some.injEq] at h
    subst h
    rw [Sem.run_bind, key _ hv]
    simp [Sem.run_pure]
  · rename_i vs hn hv
    simp only [Option.some.injEq] at h
    subst h
    rw [Sem.run_bind, key _ hv]
    have : ¬ vs.toArray.size = 1 := by
      intro hs
      simp at hs
      obtain ⟨x, rfl⟩ := List.length_eq_one_iff.1 hs
      exact hn x rfl
    simp [Sem.run_pure, this]
    intro hs
    exact absurd (by simpa using hs) this
  · cases h

theorem FIN {fn : Func} {r : Res} (v : Value) (hv : resOf fn P T L = some v) (x : r.ι) (hx : v = r.val x) (js : List Nat) (hp' : (pulls js C).map (·.1) = some (r.own x)) :
    DONE N W S0 (bodyPost P fn (RetM S0 r W)) .ret T L C := by
  rintro a w ⟨bs, fps, ht, hb, hm⟩
  obtain ⟨⟨X, R⟩, hp, hX⟩ := Option.map_eq_some_iff.1 hp'
  simp only at hX
  subst hX
  obtain ⟨xps, rps, hxx, hr, hperm⟩ := holds.pulls js hm.ch hp
  have hfl : (xps.flatten ++ rps.flatten).Perm fps.flatten := by simpa using flat_perm hperm
  have hnd := List.nodup_append.1 hm.nd
  have hndf : (xps.flatten ++ rps.flatten).Nodup := hfl.nodup_iff.2 hnd.2.1
  refine bodyPost_ret (resOf_ok hv ht hm) ht.1 ⟨x, xps, by rw [hx], hxx, (List.nodup_append.1 hndf).1, fun b hbm hlt => ?_, hm.fr⟩
  exact hm.new b (List.mem_append.2 (.inr (hfl.subset (List.mem_append.2 (.inl hbm))))) hlt

/-- FINN: the same at a body's end -/
theorem FINN {fn : Func} {r : Res} (v : Value) (hv : resOf fn P T L = some v) (x : r.ι) (hx : v = r.val x) (js : List Nat) (hp : (pulls js C).map (·.1) = some (r.own x)) :
    DONE N W S0 (bodyPost P fn (RetM S0 r W)) .normal T L C := fun a w h => FIN (fn := fn) v hv x hx js hp a w h

/-! ### The entry -/
def argsT : Nat → List Value → Tm
  | _, [] => []
  | i, v :: vs => (i, .v v) :: argsT (i + 1) vs

theorem lk_argsT : ∀ (vs : List Value) (i j : Nat) (x : SV), lk (argsT i vs) j = some x → i ≤ j ∧ ∃ v, vs[j - i]? = some v ∧ x = .v v
  | [], i, j, x, h => by simp [argsT, lk] at h
  | v :: vs, i, j, x, h => by
    simp only [argsT, lk] at h
    by_cases hk : i = j
    · subst hk; simp at h; exact ⟨Nat.le_refl _, v, by simp, h.symm⟩
    · have : (i == j) = false := by simpa using hk
      simp only [this, Bool.false_eq_true, if_false] at h
      obtain ⟨h1, v', h2, h3⟩ := lk_argsT vs (i + 1) j x h
      exact ⟨by omega, v', by rw [show j - i = (j - (i + 1)) + 1 by omega]; simpa using h2, h3⟩

theorem bounded_argsT (n : Nat) : ∀ (vs : List Value) (i : Nat), bounded n (argsT i vs)
  | [], _ => trivial
  | _ :: vs, i => bounded_argsT n vs (i + 1)

theorem ENTER {f : FuncId} {fn : Func} {c : Code} {vs : List Value} {pre : List Ass} {r : Res} (hf : P.funcs[f]? = some fn) (hb : fn.body = some c) (hn : fn.ntmps = N) (hl : vs.length ≤ N)
    (k : ∀ S0, CODE P N W S0 c (bodyPost P fn (RetM S0 r W)) (argsT 0 vs) [] pre) : Spec P W pre f vs.toArray r := by
  intro fps hh hnd
  refine calls_of_wp hf hb (k _ _ _ ⟨[], fps, ⟨rfl, ?_, fun i x hx => ?_⟩, bounded_argsT _ _ _, ⟨Fr.refl _ _, trivial, hh, by simpa using hnd, fun b hbm _ => by simpa using hbm⟩⟩)
  · simp [hn]; omega
  · obtain ⟨_, v, hv, rfl⟩ := lk_argsT vs 0 i x hx
    have hlt : i < vs.length := (List.getElem?_eq_some_iff.1 hv).1
    simp only [Nat.sub_zero] at hv
    show _ = some v
    rw [← hv]
    simp [Array.getElem?_append, hlt]

/-- the entry where nothing is handed over -/
theorem ENTER0 {f : FuncId} {fn : Func} {c : Code} {vs : List Value} {r : Res} (hf : P.funcs[f]? = some fn) (hb : fn.body = some c) (hn : fn.ntmps = N) (hl : vs.length ≤ N)
    (k : CODE P N W [] c (bodyPost P fn (RetM [] r W)) (argsT 0 vs) [] []) : Spec P W [] f vs.toArray r := by
  intro fps hh hnd
  cases fps with
  | nil =>
    refine calls_of_wp hf hb (k _ _ ⟨[], [], ⟨rfl, ?_, fun i x hx => ?_⟩, bounded_argsT _ _ _, ⟨Fr.refl _ _, trivial, trivial, by simp, fun b hbm _ => by simp at hbm⟩⟩)
    · simp [hn]; omega
    · obtain ⟨_, v, hv, rfl⟩ := lk_argsT vs 0 i x hx
      have hlt : i < vs.length := (List.getElem?_eq_some_iff.1 hv).1
      simp only [Nat.sub_zero] at hv
      show _ = some v
      rw [← hv]
      simp [Array.getElem?_append, hlt]
  | cons _ _ => exact hh.elim

/-! ### Loops -/
theorem least {p : Nat → Prop} (h : ∃ n, p n) : ∃ n, p n ∧ ∀ m, p m → n ≤ m := by
  obtain ⟨n, hn⟩ := h
  induction n using Nat.strongRecOn with
  | _ n ih =>
    by_cases hq : ∃ m, m < n ∧ p m
    · obtain ⟨m, hm, hp⟩ := hq
      exact ih m hm hp
    · exact ⟨n, hn, fun m hp => Nat.le_of_not_lt fun hlt => hq ⟨m, hlt, hp⟩⟩

open Classical in
noncomputable def leastOf (p : Nat → Prop) : Nat := if h : ∃ n, p n then Classical.choose (least h) else 0
theorem leastOf_spec {p : Nat → Prop} (h : ∃ n, p n) : p (leastOf p) ∧ ∀ m, p m → leastOf p ≤ m := by
  unfold leastOf
  rw [dif_pos h]
  exact Classical.choose_spec (least h)

theorem LOOP {c : Code} {ι : Type} (Tf : ι → Tm) (Lf : ι → Bx) (Cf : ι → List Ass) (Inv : ι → Prop) (m : ι → Nat) (j0 : ι) (ks : List Nat) (h0 : Inv j0) (hT : keep T ks = some (Tf j0)) (hL : L = Lf j0) (hC : C = Cf j0)
    (body : ∀ j, Inv j → CODE P N W S0 c (Exit.then (fun a w => ∃ j', Inv j' ∧ m j' < m j ∧ Sat N W S0 (Tf j') (Lf j') (Cf j') a w) Q) (Tf j) (Lf j) (Cf j)) : CODE P N W S0 (.loop c) Q T L C := by
  intro a w h
  subst hL
  subst hC
  let p : Act → World → Nat → Prop := fun a w n => ∃ j, Inv j ∧ m j = n ∧ Sat N W S0 (Tf j) (Lf j) (Cf j) a w
  refine wp_loop (fun a w => ∃ n, p a w n) (fun a w => leastOf (p a w)) ⟨_, j0, h0, rfl, h.keep hT⟩ ?_
  intro a w hI
  obtain ⟨⟨j, hj, hmj, hs⟩, _⟩ := leastOf_spec hI
  refine wp_mono (body j hj a w hs) ?_
  intro e a' w' hq
  cases e with
  | normal =>
    obtain ⟨j', h1, h2, h3⟩ := hq
    have hI' : ∃ n, p a' w' n := ⟨_, j', h1, rfl, h3⟩
    refine ⟨hI', ?_⟩
    have := (leastOf_spec hI').2 _ ⟨j', h1, rfl, h3⟩
    show leastOf (p a' w') < leastOf (p a w)
    omega
  | _ => exact hq

theorem boxes.take {w : World} : ∀ {L : Bx} {bs : List Nat} (n : Nat), boxes w L bs → boxes w (L.take n) (bs.take n)
  | [], [], n, _ => by simp [boxes]
  | (_, _) :: L, b :: bs, 0, _ => by simp [boxes]
  | (_, _) :: L, b :: bs, n + 1, h => ⟨h.1, boxes.take n h.2⟩
  | [], _ :: _, _, h => h.elim
  | _ :: _, [], _, h => h.elim

/-- bounded, as a test -/
def boundedB (n : Nat) : Tm → Bool
  | [] => true
  | (_, .p i _) :: r => decide (i < n) && boundedB n r
  | _ :: r => boundedB n r
theorem boundedB_ok {n : Nat} : ∀ {T : Tm}, boundedB n T = true → bounded n T
  | [], _ => trivial
  | (_, .p i _) :: _, h => by simp [boundedB] at h; exact ⟨h.1, boundedB_ok h.2⟩
  | (_, .v _) :: r, h => boundedB_ok (T := r) h
  | (_, .e _ _ _) :: r, h => boundedB_ok (T := r) h

theorem den_take (bs : List Nat) (n : Nat) : ∀ (x : SV), (∀ i off, x = .p i off → i < n) → den (bs.take n) x = den bs x
  | .v _, _ => rfl
  | .e _ _ _, _ => rfl
  | .p i off, h => by
    have := h i off rfl
    simp [den, this]

/-- less: fewer slots, the first n boxes, the named assertions in their order -/
theorem Sat.less {a : Act} {w : World} (h : Sat N W S0 T L C a w) {ks : List Nat} {T' : Tm} (n : Nat) {L' : Bx} {js : List Nat} {C' R : List Ass} (hT : SX.keep T ks = some T') (hn : boundedB n T' = true) (hL : L.take n = L') (hC : pulls js C = some (C', R)) :
    Sat N W S0 T' L' C' a w := by
  subst hL
  obtain ⟨bs, fps, ht, hb, hm⟩ := h.keep hT
  have hbn := boundedB_ok hn
  obtain ⟨xps, rps, hx, hr, hperm⟩ := holds.pulls js hm.ch hC
  have hfl : (xps.flatten ++ rps.flatten).Perm fps.flatten := by simpa using flat_perm hperm
  have hnd := List.nodup_append.1 hm.nd
  have hndf : (xps.flatten ++ rps.flatten).Nodup := hfl.nodup_iff.2 hnd.2.1
  have hlen := boxes_len hm.bx
  refine ⟨bs.take n, xps, ⟨ht.1, ht.2.1, fun i x hx => ?_⟩, ?_, ⟨hm.fr, boxes.take n hm.bx, hx, List.nodup_append.2 ⟨hnd.1.sublist (List.take_sublist n bs), (List.nodup_append.1 hndf).1, fun y hy z hz e => ?_⟩, fun b hbm hlt => ?_⟩⟩
  · rw [den_take bs n x (fun j off he => hbn.all i x hx j off he)]; exact ht.2.2 i x hx
  · have hmin : (L.take n).length = min n L.length := by simp
    rw [hmin]
    clear hm hn hx hr hperm hfl hndf hnd hlen ht hT h
    induction T' with
    | nil => trivial
    | cons q r ih =>
      obtain ⟨k, x⟩ := q
      cases x with
      | v _ => exact ih hb hbn
      | e _ _ _ => exact ih hb hbn
      | p i off => exact ⟨by have h1 := hb.1; have h2 := hbn.1; omega, ih hb.2 hbn.2⟩
  · subst e
    exact hnd.2.2 y (List.mem_of_mem_take hy) y (hfl.subset (List.mem_append.2 (.inl hz))) rfl
  · rcases List.mem_append.1 hbm with h1 | h1
    · exact hm.new b (List.mem_append.2 (.inl (List.mem_of_mem_take h1))) hlt
    · exact hm.new b (List.mem_append.2 (.inr (hfl.subset (List.mem_append.2 (.inl h1))))) hlt

theorem BACK {ι : Type} {Tf : ι → Tm} {Lf : ι → Bx} {Cf : ι → List Ass} {Inv : ι → Prop} {m : ι → Nat} {j : ι} (j' : ι) (ks : List Nat) (n : Nat) (js : List Nat) (R : List Ass) (h0 : Inv j') (hm : m j' < m j) (hT : keep T ks = some (Tf j'))
    (hn : boundedB n (Tf j') = true) (hL : L.take n = Lf j') (hC : pulls js C = some (Cf j', R)) :
    DONE N W S0 (Exit.then (fun a w => ∃ j', Inv j' ∧ m j' < m j ∧ Sat N W S0 (Tf j') (Lf j') (Cf j') a w) Q) .normal T L C := fun a w h =>
  ⟨j', h0, hm, h.less n hT hn hL hC⟩

end rules
end SX
end Go.Proofs.YthnbaikmbgaddaaGreat
