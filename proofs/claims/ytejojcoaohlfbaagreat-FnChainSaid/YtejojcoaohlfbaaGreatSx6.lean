/- Texts of this claim, put together by program. -/
import Derived.Test.YtejojcoaohlfbaaGreatSx3
import Derived.Maps.AppendAt
import Derived.Laws.OwnMore
import Derived.Deep.AppendSrc
namespace Go.Proofs.YtejojcoaohlfbaaGreat
namespace SX
set_option linter.unusedVariables false
set_option linter.unusedSimpArgs false
open Go Go.RowKit
section rules
variable {P : Program} {N : Nat} {W : World} {S0 : List Nat} {Q : Exit → Act → World → Prop} {T : Tm} {L : Bx} {C : List Ass} {ops : Array Oper}
theorem REGION {id : Nat} (is : List Nat) (hi : List.range ops.size = is) (k : OPS P N W S0 ops Q is T L C) : CODE P N W S0 (.region id ops false) Q T L C := fun a w h => by
 subst hi
 exact wp_region (k a w h)
theorem ENDOPS (k : DONE N W S0 Q .normal T L C) : OPS P N W S0 ops Q [] T L C := fun a w h => k a w h
theorem Sat.drew_ {a : Act} {w : World} (h : Sat N W S0 T L C a w) : Sat N W S0 T L C a { w with drawn := w.drawn + 1 } := by
 obtain ⟨bs, fps, ht, hb, hm⟩ := h
 refine ⟨bs, fps, ht, hb, ⟨⟨hm.fr.os, hm.fr.tape, hm.fr.output, hm.fr.size, hm.fr.block⟩, boxes.st hm.bx fun _ _ => rfl, holds.st hm.ch fun _ _ => rfl, hm.nd, hm.new⟩⟩
theorem SEQ {x y : Code} (k : CODE P N W S0 x (Exit.then (y.wp P Q) Q) T L C) : CODE P N W S0 (.seq x y) Q T L C := fun a w h => wp_seq (k a w h)
theorem NEXT {y : Code} {Q' : Exit → Act → World → Prop} (k : CODE P N W S0 y Q T L C) : DONE N W S0 (Exit.then (y.wp P Q) Q') .normal T L C := fun a w h => k a w h
theorem SKIP (k : DONE N W S0 Q .normal T L C) : CODE P N W S0 .skip Q T L C := fun a w h => wp_skip (k a w h)
theorem RET (k : DONE N W S0 Q .ret T L C) : CODE P N W S0 .ret Q T L C := fun a w h => wp_ret (k a w h)
theorem EXIT {id : Nat} (k : DONE N W S0 Q (.exit id) T L C) : CODE P N W S0 (.exit id) Q T L C := fun a w h => wp_exit (k a w h)
theorem BLOCK {id : Nat} {c : Code} (k : CODE P N W S0 c (Exit.inBlock id Q) T L C) : CODE P N W S0 (.block id c) Q T L C := fun a w h => wp_block (k a w h)
theorem PASS {K : Act → World → Prop} {e : Exit} (he : match e with | .ret | .exit _ => True | _ => False) (k : DONE N W S0 Q e T L C) : DONE N W S0 (Exit.then K Q) e T L C := fun a w h => by
 cases e with
 | ret => exact k a w h
 | exit id => exact k a w h
 | _ => exact he.elim
theorem OUT {id : Nat} (k : DONE N W S0 Q .normal T L C) : DONE N W S0 (Exit.inBlock id Q) (.exit id) T L C := fun a w h => by
 simpa [Exit.inBlock] using k a w h
theorem OUTN {id : Nat} (k : DONE N W S0 Q .normal T L C) : DONE N W S0 (Exit.inBlock id Q) .normal T L C := fun a w h => k a w h
theorem OUTR {id : Nat} (k : DONE N W S0 Q .ret T L C) : DONE N W S0 (Exit.inBlock id Q) .ret T L C := fun a w h => k a w h
theorem OUTX {id id' : Nat} (hne : id' ≠ id) (k : DONE N W S0 Q (.exit id') T L C) : DONE N W S0 (Exit.inBlock id Q) (.exit id') T L C := fun a w h => by
 simpa [Exit.inBlock, hne] using k a w h
theorem IF {x : Operand} {c d : Code} (b : Bool) (hx : evv T x = some (.bool b)) (k1 : b = true → CODE P N W S0 c Q T L C) (k2 : b = false → CODE P N W S0 d Q T L C) : CODE P N W S0 (.cond x c d) Q T L C := by
 rintro a w ⟨bs, fps, ht, hb, hm⟩
 exact wp_cond_split (ht.evv hx) (fun h => k1 h a w ⟨bs, fps, ht, hb, hm⟩) (fun h => k2 h a w ⟨bs, fps, ht, hb, hm⟩)
theorem IFT {x : Operand} {c d : Code} (hx : evv T x = some (.bool true)) (k : CODE P N W S0 c Q T L C) : CODE P N W S0 (.cond x c d) Q T L C := IF true hx (fun _ => k) (fun h => by cases h)
theorem IFF {x : Operand} {c d : Code} (hx : evv T x = some (.bool false)) (k : CODE P N W S0 d Q T L C) : CODE P N W S0 (.cond x c d) Q T L C := IF false hx (fun h => by cases h) (fun _ => k)
theorem SPLIT {K : Act → World → Prop} {d : Nat} (b : Bool) (hd : lk T d = some (.v (.bool b))) (k1 : b = true → G N W S0 K ((d, .v (.bool true)) :: T) L C) (k2 : b = false → G N W S0 K ((d, .v (.bool false)) :: T) L C) :
 G N W S0 K T L C := by
 rintro a w ⟨bs, fps, ht, hb, hm⟩
 have key : ∀ c, b = c → Sat N W S0 ((d, .v (.bool c)) :: T) L C a w := by
  rintro c rfl
  refine ⟨bs, fps, ⟨ht.1, ht.2.1, fun i x hx => ?_⟩, hb, hm⟩
  simp only [lk] at hx
  by_cases hk : d = i
  · subst hk; simp at hx; subst hx; exact ht.2.2 d _ hd
  · have : (d == i) = false := by simpa using hk
    simp only [this, Bool.false_eq_true, if_false] at hx
    exact ht.2.2 i x hx
 cases hbb : b
 · exact k2 hbb a w (key _ hbb)
 · exact k1 hbb a w (key _ hbb)
theorem CAST {K : Act → World → Prop} {d : Nat} (v v' : Value) (hd : lk T d = some (.v v)) (he : v = v') (k : G N W S0 K ((d, .v v') :: T) L C) : G N W S0 K T L C := by
 subst he
 rintro a w ⟨bs, fps, ht, hb, hm⟩
 refine k a w ⟨bs, fps, ⟨ht.1, ht.2.1, fun i x hx => ?_⟩, hb, hm⟩
 simp only [lk] at hx
 by_cases hk : d = i
 · subst hk; simp at hx; subst hx; exact ht.2.2 d _ hd
 · have : (d == i) = false := by simpa using hk
   simp only [this, Bool.false_eq_true, if_false] at hx
   exact ht.2.2 i x hx
structure At (W : World) (S0 : List Nat) (C : List Ass) (w : World) : Prop where
 fr : Fr S0 W w
 ch : ∃ fps, holds w C fps ∧ fps.flatten.Nodup ∧ ∀ b ∈ fps.flatten, b < W.heap.size → b ∈ S0
theorem holds.nth {w : World} : ∀ {C : List Ass} {fps : List (List Nat)} (i : Nat) {A : Ass}, holds w C fps → C[i]? = some A → ∃ fp, A.φ w fp
 | A :: _, fp :: _, 0, _, h, hi => by simp at hi; subst hi; exact ⟨fp, h.1⟩
 | _ :: _, _ :: _, i + 1, _, h, hi => holds.nth i h.2 (by simpa using hi)
 | [], _, _, _, _, hi => by simp at hi
 | _ :: _, [], _, _, h, _ => h.elim
theorem At.own {W : World} {S0 : List Nat} {C : List Ass} {w : World} (h : At W S0 C w) (i : Nat) {A : Ass} (hi : C[i]? = some A) : ∃ fp, A.φ w fp := by
 obtain ⟨fps, hf, _⟩ := h.ch
 exact hf.nth i hi
theorem Mem.at_ {bs : List Nat} {fps : List (List Nat)} {w : World} (h : Mem W S0 L C bs fps w) : At W S0 C w := ⟨h.fr, fps, h.ch, (List.nodup_append.1 h.nd).2.1, fun b hb => h.new b (List.mem_append.2 (.inr hb))⟩
structure Res where
 ι : Type
 val : ι → Value
 own : ι → List Ass
def RetM (S : List Nat) (r : Res) (w : World) : Ending → World → Prop := fun e w' =>
 ∃ (x : r.ι) (fps : List (List Nat)), e = .returned (r.val x) ∧ holds w' (r.own x) fps ∧ fps.flatten.Nodup ∧ (∀ b ∈ fps.flatten, b < w.heap.size → b ∈ S) ∧ Fr S w w'
def Spec (P : Program) (W : World) (pre : List Ass) (f : FuncId) (vs : Array Value) (r : Res) : Prop :=
 ∀ fps, holds W pre fps → fps.flatten.Nodup → Calls P f vs W (RetM fps.flatten r W)
def callOf (P : Program) (ops : Array Oper) (T : Tm) (i : Nat) : Option (FuncId × Array Value × Option Nat) :=
 match ops[i]? with
 | some o =>
   if wants ops T o = some true then
    match opnds o.op with
    | some l =>
      if l.all (fun x => (evv T x).isSome) then
       match pureOf P (execOp (evw T) o) with
       | some (.enter f args) => some (f, args, o.dst)
       | _ => none
      else none
    | none => none
   else none
 | none => none
theorem callOf_ok {i : Nat} {f : FuncId} {vs : Array Value} {d : Option Nat} (h : callOf P ops T i = some (f, vs, d)) {bs : List Nat} {a : Act} (ht : Tms N T bs a) :
 ∃ o, ops[i]? = some o ∧ Region.wanted o (yielded ops a.tmps) = true ∧ o.dst = d ∧ ∀ w, (execOp a.eval o).run P w = .ok (.enter f vs) w := by
 unfold callOf at h
 split at h
 · rename_i o hi
   split at h
   · rename_i hw
     split at h
     · rename_i l hl
       split at h
       · rename_i hall
         split at h
         · rename_i f' args hp
           simp only [Option.some.injEq, Prod.mk.injEq] at h
           obtain ⟨rfl, rfl, rfl⟩ := h
           have hc : execOp a.eval o = execOp (evw T) o := exec_congr o l hl _ _ fun x hx => by
            have := List.all_eq_true.1 hall x hx
            cases hv : evv T x with
            | none => simp [hv] at this
            | some y => rw [ht.evv hv]; simp [evw, hv]
           exact ⟨o, hi, wants_ok hw ht, rfl, fun w => by rw [hc]; exact pureOf_run _ hp w⟩
         · cases h
       · cases h
     · cases h
   · cases h
 · cases h
theorem flat_perm {α : Type} {l m : List (List α)} (h : l.Perm m) : l.flatten.Perm m.flatten := by
 induction h with
 | nil => exact .refl _
 | cons x _ ih => simpa using ih.append_left x
 | swap x y l =>
   simp only [List.flatten_cons, ← List.append_assoc]
   exact List.perm_append_comm.append_right _
 | trans _ _ h1 h2 => exact h1.trans h2
theorem Mem.exch {bs : List Nat} {fps : List (List Nat)} {w : World} (hm : Mem W S0 L C bs fps w) {js : List Nat} {pre R : List Ass} (hp : pulls js C = some (pre, R)) :
 ∃ xps, holds w pre xps ∧ xps.flatten.Nodup ∧ ∀ w' own nps, holds w' own nps → nps.flatten.Nodup → (∀ b ∈ nps.flatten, b < w.heap.size → b ∈ xps.flatten) → Fr xps.flatten w w' →
   ∃ fps', Mem W S0 L (R ++ own) bs fps' w' := by
 obtain ⟨xps, rps, hx, hr, hperm⟩ := holds.pulls js hm.ch hp
 have hfl : (xps.flatten ++ rps.flatten).Perm fps.flatten := by simpa using flat_perm hperm
 have hnd := List.nodup_append.1 hm.nd
 have hndf : (xps.flatten ++ rps.flatten).Nodup := hfl.nodup_iff.2 hnd.2.1
 have hndx := List.nodup_append.1 hndf
 refine ⟨xps, hx, hndx.1, ?_⟩
 intro w' own nps hn hnn hnew hfr
 have hbl := boxes.lt hm.bx
 have hrl := holds.lt hr
 have hkeepb : ∀ b ∈ bs, w'.heap[b]? = w.heap[b]? := fun b hbm => hfr.block b (hbl b hbm) (fun hxm => hnd.2.2 b hbm b (hfl.subset (List.mem_append.2 (.inl hxm))) rfl)
 have hkeepr : ∀ b ∈ rps.flatten, w'.heap[b]? = w.heap[b]? := fun b hbm => hfr.block b (hrl b hbm) (fun hxm => hndx.2.2 b hxm b hbm rfl)
 refine ⟨rps ++ nps, hm.fr.trans' hfr (fun y hy hlt => hm.new y (List.mem_append.2 (.inr (hfl.subset (List.mem_append.2 (.inl hy))))) hlt), boxes.st hm.bx hkeepb, (holds.st hr hkeepr).append hn, ?_, ?_⟩
 · rw [List.flatten_append, List.nodup_append]
   refine ⟨hnd.1, List.nodup_append.2 ⟨hndx.2.1, hnn, fun y hy z hz e => ?_⟩, fun y hy z hz e => ?_⟩
   · subst e
     exact hndx.2.2 y (hnew y hz (hrl y hy)) y hy rfl
   · subst e
     rcases List.mem_append.1 hz with h1 | h1
     · exact hnd.2.2 y hy y (hfl.subset (List.mem_append.2 (.inr h1))) rfl
     · exact hnd.2.2 y hy y (hfl.subset (List.mem_append.2 (.inl (hnew y h1 (hbl y hy))))) rfl
 · intro b hbm hlt
   rw [List.flatten_append] at hbm
   rcases List.mem_append.1 hbm with h1 | h1
   · exact hm.new b (List.mem_append.2 (.inl h1)) hlt
   · rcases List.mem_append.1 h1 with h1 | h1
     · exact hm.new b (List.mem_append.2 (.inr (hfl.subset (List.mem_append.2 (.inr h1))))) hlt
     · exact hm.new b (List.mem_append.2 (.inr (hfl.subset (List.mem_append.2 (.inl (hnew b h1 (Nat.lt_of_lt_of_le hlt hm.fr.size))))))) hlt
def putd (d : Option Nat) (x : SV) (T : Tm) : Tm :=
 match d with
 | some k => (k, x) :: T
 | none => T
theorem put_putd {d : Option Nat} {x : SV} (hd : ∀ k, d = some k → k < N) : put N T d x = some (putd d x T) := by
 cases d with
 | none => rfl
 | some k => simp [put, putd, hd k rfl]
theorem CALL {i : Nat} {K : Act → World → Prop} (f : FuncId) (vs : Array Value) (d : Option Nat) (hc : callOf P ops T i = some (f, vs, d)) (js : List Nat) (pre R : List Ass) (hp : pulls js C = some (pre, R)) (r : Res)
 (hcon : ∀ w, At W S0 C w → Spec P w pre f vs r) (hd : ∀ k, d = some k → k < N) (k : ∀ x : r.ι, G N W S0 K (putd d (.v (r.val x)) T) L (R ++ r.own x)) : OP P N W S0 ops Q i K T L C := by
 rintro a w ⟨bs, fps, ht, hb, hm⟩
 obtain ⟨o, hi, hw, hdst, hrun⟩ := callOf_ok hc ht
 refine op_step hi ?_
 rw [hw, if_pos rfl]
 unfold Oper.wp
 rw [hrun w, Oper.upon_enter]
 obtain ⟨xps, hx, hnx, hex⟩ := hm.exch hp
 refine (hcon w hm.at_ xps hx hnx).mono ?_
 rintro e w' ⟨x, nps, rfl, hn, hnn, hnew, hfr⟩
 obtain ⟨fps', hmem⟩ := hex w' _ nps hn hnn hnew hfr
 refine k x _ _ ⟨bs, fps', ?_, ?_, hmem⟩
 · subst hdst
   exact ht.put (put_putd hd) rfl
 · cases d with
   | none => exact hb
   | some kk => exact hb
def resOf1 (P : Program) (T : Tm) (L : Bx) : ResultVar → Option Value
 | .tmp t => match lk T t with | some (.v v) => some v | _ => none
 | .cell t ty => match lk T t with | some (.p i off) => (match L[i]? with | some b => loadOf P ty b.2 off | none => none) | _ => none
def resOfs (P : Program) (T : Tm) (L : Bx) : List ResultVar → Option (List Value)
 | [] => some []
 | r :: rs => match resOf1 P T L r, resOfs P T L rs with
   | some v, some vs => some (v :: vs)
   | _, _ => none
def resOf (fn : Func) (P : Program) (T : Tm) (L : Bx) : Option Value :=
 match resOfs P T L fn.results.toList with
 | some [v] => some v
 | some vs => some (.tuple vs.toArray)
 | none => none
def resStep (tmps : Array Value) : ResultVar → Sem Value
 | .tmp t => pure (tmps.getD t undef)
 | .cell a t => do loadVar t (← asAddr (tmps.getD a undef))
theorem resOf1_ok {r : ResultVar} {v : Value} (h : resOf1 P T L r = some v) {a : Act} {w : World} {bs : List Nat} {fps : List (List Nat)} (ht : Tms N T bs a) (hm : Mem W S0 L C bs fps w) :
 (resStep a.tmps r).run P w = .ok v w := by
 cases r with
 | tmp t =>
   simp only [resOf1] at h
   split at h
   · rename_i v' hl
     simp only [Option.some.injEq] at h
     subst h
     have := ht.2.2 t _ hl
     simp [resStep, Array.getD_eq_getD_getElem?, this, den, Sem.run_pure]
   · cases h
 | cell t ty =>
   simp only [resOf1] at h
   split at h
   · rename_i i off hl
     split at h
     · rename_i b hb
       obtain ⟨bt, bcs⟩ := b
       obtain ⟨bk, hbk, hheap⟩ := boxes.at hm.bx hb
       have hp := ht.2.2 t _ hl
       simp [resStep, hp, den, hbk, asAddr, loadOf_run hheap h]
     · cases h
   · cases h
theorem resOfs_ok : ∀ {rs : List ResultVar} {vs : List Value}, resOfs P T L rs = some vs → ∀ {a : Act} {w : World} {bs : List Nat} {fps : List (List Nat)}, Tms N T bs a → Mem W S0 L C bs fps w →
 (rs.mapM (resStep a.tmps)).run P w = .ok vs w
 | [], vs, h, a, w, bs, fps, ht, hm => by simp [resOfs] at h; subst h; simp [Sem.run_pure]
 | r :: rs, vs, h, a, w, bs, fps, ht, hm => by
   simp only [resOfs] at h
   split at h
   · rename_i v vs' hv hvs
     simp only [Option.some.injEq] at h
     subst h
     simp [List.mapM_cons, Sem.run_bind, resOf1_ok hv ht hm, resOfs_ok hvs ht hm, Sem.run_pure]
   · cases h
theorem resOf_ok {fn : Func} {v : Value} (h : resOf fn P T L = some v) {a : Act} {w : World} {bs : List Nat} {fps : List (List Nat)} (ht : Tms N T bs a) (hm : Mem W S0 L C bs fps w) :
 (results fn a.tmps).run P w = .ok v w := by
 have hr : results fn a.tmps = (fn.results.mapM (resStep a.tmps) >>= fun vs => pure (if h : vs.size = 1 then vs[0] else .tuple vs)) := by
  unfold results
  congr 1
 rw [hr]
 unfold resOf at h
 have key : ∀ vs, resOfs P T L fn.results.toList = some vs → (fn.results.mapM (resStep a.tmps)).run P w = .ok vs.toArray w := by
  intro vs hvs
  have h1 := resOfs_ok hvs ht hm
  rw [Array.mapM_eq_mapM_toList, map_eq_pure_bind, Sem.run_bind, h1]
  simp [Sem.run_pure]
 split at h
 · rename_i v' hv
   simp only [Option.some.injEq] at h
   subst h
   rw [Sem.run_bind, key _ hv]
   simp [Sem.run_pure]
 · rename_i vs hn hv
   simp only [Option.some.injEq] at h
   subst h
   rw [Sem.run_bind, key _ hv]
   have : ¬ vs.toArray.size = 1 := by
    intro hs
    simp at hs
    obtain ⟨x, rfl⟩ := List.length_eq_one_iff.1 hs
    exact hn x rfl
   simp [Sem.run_pure, this]
   intro hs
   exact absurd (by simpa using hs) this
 · cases h
theorem FIN {fn : Func} {r : Res} (v : Value) (hv : resOf fn P T L = some v) (x : r.ι) (hx : v = r.val x) (js : List Nat) (hp' : (pulls js C).map (·.1) = some (r.own x)) :
 DONE N W S0 (bodyPost P fn (RetM S0 r W)) .ret T L C := by
 rintro a w ⟨bs, fps, ht, hb, hm⟩
 obtain ⟨⟨X, R⟩, hp, hX⟩ := Option.map_eq_some_iff.1 hp'
 simp only at hX
 subst hX
 obtain ⟨xps, rps, hxx, hr, hperm⟩ := holds.pulls js hm.ch hp
 have hfl : (xps.flatten ++ rps.flatten).Perm fps.flatten := by simpa using flat_perm hperm
 have hnd := List.nodup_append.1 hm.nd
 have hndf : (xps.flatten ++ rps.flatten).Nodup := hfl.nodup_iff.2 hnd.2.1
 refine bodyPost_ret (resOf_ok hv ht hm) ht.1 ⟨x, xps, by rw [hx], hxx, (List.nodup_append.1 hndf).1, fun b hbm hlt => ?_, hm.fr⟩
 exact hm.new b (List.mem_append.2 (.inr (hfl.subset (List.mem_append.2 (.inl hbm))))) hlt
theorem FINN {fn : Func} {r : Res} (v : Value) (hv : resOf fn P T L = some v) (x : r.ι) (hx : v = r.val x) (js : List Nat) (hp : (pulls js C).map (·.1) = some (r.own x)) :
 DONE N W S0 (bodyPost P fn (RetM S0 r W)) .normal T L C := fun a w h => FIN (fn := fn) v hv x hx js hp a w h
def argsT : Nat → List Value → Tm
 | _, [] => []
 | i, v :: vs => (i, .v v) :: argsT (i + 1) vs
theorem lk_argsT : ∀ (vs : List Value) (i j : Nat) (x : SV), lk (argsT i vs) j = some x → i ≤ j ∧ ∃ v, vs[j - i]? = some v ∧ x = .v v
 | [], i, j, x, h => by simp [argsT, lk] at h
 | v :: vs, i, j, x, h => by
   simp only [argsT, lk] at h
   by_cases hk : i = j
   · subst hk; simp at h; exact ⟨Nat.le_refl _, v, by simp, h.symm⟩
   · have : (i == j) = false := by simpa using hk
     simp only [this, Bool.false_eq_true, if_false] at h
     obtain ⟨h1, v', h2, h3⟩ := lk_argsT vs (i + 1) j x h
     exact ⟨by omega, v', by rw [show j - i = (j - (i + 1)) + 1 by omega]; simpa using h2, h3⟩
theorem bounded_argsT (n : Nat) : ∀ (vs : List Value) (i : Nat), bounded n (argsT i vs)
 | [], _ => trivial
 | _ :: vs, i => bounded_argsT n vs (i + 1)
theorem ENTER {f : FuncId} {fn : Func} {c : Code} {vs : List Value} {pre : List Ass} {r : Res} (hf : P.funcs[f]? = some fn) (hb : fn.body = some c) (hn : fn.ntmps = N) (hl : vs.length ≤ N)
 (k : ∀ S0, CODE P N W S0 c (bodyPost P fn (RetM S0 r W)) (argsT 0 vs) [] pre) : Spec P W pre f vs.toArray r := by
 intro fps hh hnd
 refine calls_of_wp hf hb (k _ _ _ ⟨[], fps, ⟨rfl, ?_, fun i x hx => ?_⟩, bounded_argsT _ _ _, ⟨Fr.refl _ _, trivial, hh, by simpa using hnd, fun b hbm _ => by simpa using hbm⟩⟩)
 · simp [hn]; omega
 · obtain ⟨_, v, hv, rfl⟩ := lk_argsT vs 0 i x hx
   have hlt : i < vs.length := (List.getElem?_eq_some_iff.1 hv).1
   simp only [Nat.sub_zero] at hv
   show _ = some v
   rw [← hv]
   simp [Array.getElem?_append, hlt]
theorem ENTER0 {f : FuncId} {fn : Func} {c : Code} {vs : List Value} {r : Res} (hf : P.funcs[f]? = some fn) (hb : fn.body = some c) (hn : fn.ntmps = N) (hl : vs.length ≤ N)
 (k : CODE P N W [] c (bodyPost P fn (RetM [] r W)) (argsT 0 vs) [] []) : Spec P W [] f vs.toArray r := by
 intro fps hh hnd
 cases fps with
 | nil =>
   refine calls_of_wp hf hb (k _ _ ⟨[], [], ⟨rfl, ?_, fun i x hx => ?_⟩, bounded_argsT _ _ _, ⟨Fr.refl _ _, trivial, trivial, by simp, fun b hbm _ => by simp at hbm⟩⟩)
   · simp [hn]; omega
   · obtain ⟨_, v, hv, rfl⟩ := lk_argsT vs 0 i x hx
     have hlt : i < vs.length := (List.getElem?_eq_some_iff.1 hv).1
     simp only [Nat.sub_zero] at hv
     show _ = some v
     rw [← hv]
     simp [Array.getElem?_append, hlt]
 | cons _ _ => exact hh.elim
theorem least {p : Nat → Prop} (h : ∃ n, p n) : ∃ n, p n ∧ ∀ m, p m → n ≤ m := by
 obtain ⟨n, hn⟩ := h
 induction n using Nat.strongRecOn with
 | _ n ih =>
   by_cases hq : ∃ m, m < n ∧ p m
   · obtain ⟨m, hm, hp⟩ := hq
     exact ih m hm hp
   · exact ⟨n, hn, fun m hp => Nat.le_of_not_lt fun hlt => hq ⟨m, hlt, hp⟩⟩
open Classical in
noncomputable def leastOf (p : Nat → Prop) : Nat := if h : ∃ n, p n then Classical.choose (least h) else 0
theorem leastOf_spec {p : Nat → Prop} (h : ∃ n, p n) : p (leastOf p) ∧ ∀ m, p m → leastOf p ≤ m := by
 unfold leastOf
 rw [dif_pos h]
 exact Classical.choose_spec (least h)
theorem LOOP {c : Code} {ι : Type} (Tf : ι → Tm) (Lf : ι → Bx) (Cf : ι → List Ass) (Inv : ι → Prop) (m : ι → Nat) (j0 : ι) (ks : List Nat) (h0 : Inv j0) (hT : keep T ks = some (Tf j0)) (hL : L = Lf j0) (hC : C = Cf j0)
 (body : ∀ j, Inv j → CODE P N W S0 c (Exit.then (fun a w => ∃ j', Inv j' ∧ m j' < m j ∧ Sat N W S0 (Tf j') (Lf j') (Cf j') a w) Q) (Tf j) (Lf j) (Cf j)) : CODE P N W S0 (.loop c) Q T L C := by
 intro a w h
 subst hL
 subst hC
 let p : Act → World → Nat → Prop := fun a w n => ∃ j, Inv j ∧ m j = n ∧ Sat N W S0 (Tf j) (Lf j) (Cf j) a w
 refine wp_loop (fun a w => ∃ n, p a w n) (fun a w => leastOf (p a w)) ⟨_, j0, h0, rfl, h.keep hT⟩ ?_
 intro a w hI
 obtain ⟨⟨j, hj, hmj, hs⟩, _⟩ := leastOf_spec hI
 refine wp_mono (body j hj a w hs) ?_
 intro e a' w' hq
 cases e with
 | normal =>
   obtain ⟨j', h1, h2, h3⟩ := hq
   have hI' : ∃ n, p a' w' n := ⟨_, j', h1, rfl, h3⟩
   refine ⟨hI', ?_⟩
   have := (leastOf_spec hI').2 _ ⟨j', h1, rfl, h3⟩
   show leastOf (p a' w') < leastOf (p a w)
   omega
 | _ => exact hq
theorem boxes.take {w : World} : ∀ {L : Bx} {bs : List Nat} (n : Nat), boxes w L bs → boxes w (L.take n) (bs.take n)
 | [], [], n, _ => by simp [boxes]
 | (_, _) :: L, b :: bs, 0, _ => by simp [boxes]
 | (_, _) :: L, b :: bs, n + 1, h => ⟨h.1, boxes.take n h.2⟩
 | [], _ :: _, _, h => h.elim
 | _ :: _, [], _, h => h.elim
def boundedB (n : Nat) : Tm → Bool
 | [] => true
 | (_, .p i _) :: r => decide (i < n) && boundedB n r
 | _ :: r => boundedB n r
theorem boundedB_ok {n : Nat} : ∀ {T : Tm}, boundedB n T = true → bounded n T
 | [], _ => trivial
 | (_, .p i _) :: _, h => by simp [boundedB] at h; exact ⟨h.1, boundedB_ok h.2⟩
 | (_, .v _) :: r, h => boundedB_ok (T := r) h
 | (_, .e _ _ _) :: r, h => boundedB_ok (T := r) h
theorem den_take (bs : List Nat) (n : Nat) : ∀ (x : SV), (∀ i off, x = .p i off → i < n) → den (bs.take n) x = den bs x
 | .v _, _ => rfl
 | .e _ _ _, _ => rfl
 | .p i off, h => by
   have := h i off rfl
   simp [den, this]
theorem Sat.less {a : Act} {w : World} (h : Sat N W S0 T L C a w) {ks : List Nat} {T' : Tm} (n : Nat) {L' : Bx} {js : List Nat} {C' R : List Ass} (hT : SX.keep T ks = some T') (hn : boundedB n T' = true) (hL : L.take n = L') (hC : pulls js C = some (C', R)) :
 Sat N W S0 T' L' C' a w := by
 subst hL
 obtain ⟨bs, fps, ht, hb, hm⟩ := h.keep hT
 have hbn := boundedB_ok hn
 obtain ⟨xps, rps, hx, hr, hperm⟩ := holds.pulls js hm.ch hC
 have hfl : (xps.flatten ++ rps.flatten).Perm fps.flatten := by simpa using flat_perm hperm
 have hnd := List.nodup_append.1 hm.nd
 have hndf : (xps.flatten ++ rps.flatten).Nodup := hfl.nodup_iff.2 hnd.2.1
 have hlen := boxes_len hm.bx
 refine ⟨bs.take n, xps, ⟨ht.1, ht.2.1, fun i x hx => ?_⟩, ?_, ⟨hm.fr, boxes.take n hm.bx, hx, List.nodup_append.2 ⟨hnd.1.sublist (List.take_sublist n bs), (List.nodup_append.1 hndf).1, fun y hy z hz e => ?_⟩, fun b hbm hlt => ?_⟩⟩
 · rw [den_take bs n x (fun j off he => hbn.all i x hx j off he)]; exact ht.2.2 i x hx
 · have hmin : (L.take n).length = min n L.length := by simp
   rw [hmin]
   clear hm hn hx hr hperm hfl hndf hnd hlen ht hT h
   induction T' with
   | nil => trivial
   | cons q r ih =>
     obtain ⟨k, x⟩ := q
     cases x with
     | v _ => exact ih hb hbn
     | e _ _ _ => exact ih hb hbn
     | p i off => exact ⟨by have h1 := hb.1; have h2 := hbn.1; omega, ih hb.2 hbn.2⟩
 · subst e
   exact hnd.2.2 y (List.mem_of_mem_take hy) y (hfl.subset (List.mem_append.2 (.inl hz))) rfl
 · rcases List.mem_append.1 hbm with h1 | h1
   · exact hm.new b (List.mem_append.2 (.inl (List.mem_of_mem_take h1))) hlt
   · exact hm.new b (List.mem_append.2 (.inr (hfl.subset (List.mem_append.2 (.inl h1))))) hlt
theorem BACK {ι : Type} {Tf : ι → Tm} {Lf : ι → Bx} {Cf : ι → List Ass} {Inv : ι → Prop} {m : ι → Nat} {j : ι} (j' : ι) (ks : List Nat) (n : Nat) (js : List Nat) (R : List Ass) (h0 : Inv j') (hm : m j' < m j) (hT : keep T ks = some (Tf j'))
 (hn : boundedB n (Tf j') = true) (hL : L.take n = Lf j') (hC : pulls js C = some (Cf j', R)) :
 DONE N W S0 (Exit.then (fun a w => ∃ j', Inv j' ∧ m j' < m j ∧ Sat N W S0 (Tf j') (Lf j') (Cf j') a w) Q) .normal T L C := fun a w h =>
 ⟨j', h0, hm, h.less n hT hn hL hC⟩
end rules
structure Lay (α : Type) where
 sz : Nat
 rep : Bool → World → List Value → α → List Nat → Prop
 len : ∀ {m w cs x f}, rep m w cs x f → cs.length = sz
 one : ∀ {m w cs x f}, rep m w cs x f → ∀ u ∈ cs, isCell u = true
 st : ∀ {m w w' cs x f}, rep m w cs x f → (∀ b ∈ f, w'.heap[b]? = w.heap[b]?) → rep m w' cs x f
 lt : ∀ {m w cs x f}, rep m w cs x f → ∀ b ∈ f, b < w.heap.size
 rd : ∀ {w cs x f}, rep true w cs x f → ∃ f', (∀ b ∈ f', b ∈ f) ∧ rep false w cs x f'
def flat {α : Type} (sz : Nat) (enc : α → List Value) (h : ∀ x, (enc x).length = sz ∧ ∀ u ∈ enc x, isCell u = true) : Lay α where
 sz := sz
 rep := fun _ _ cs x f => cs = enc x ∧ f = []
 len := by rintro m w cs x f ⟨rfl, _⟩; exact (h x).1
 one := by rintro m w cs x f ⟨rfl, _⟩; exact (h x).2
 st := fun h _ => h
 lt := by rintro m w cs x f ⟨_, rfl⟩ b hb; cases hb
 rd := fun h => ⟨_, fun _ hb => hb, h⟩
def cellsRep {α : Type} (L : Lay α) (m : Bool) (w : World) : List Value → List α → List Nat → Prop
 | cells, [], f => cells = [] ∧ f = []
 | cells, x :: xs, f => ∃ cs rest f1 f2, cells = cs ++ rest ∧ f = f1 ++ f2 ∧ L.rep m w cs x f1 ∧ cellsRep L m w rest xs f2
section cells
variable {α : Type} {L : Lay α} {m : Bool} {w w' : World}
theorem cellsRep.len : ∀ {xs : List α} {cells f}, cellsRep L m w cells xs f → cells.length = xs.length * L.sz
 | [], cells, f, h => by simp [cellsRep] at h; simp [h.1]
 | x :: xs, cells, f, ⟨cs, rest, f1, f2, h1, h2, h3, h4⟩ => by
   subst h1; rw [List.length_append, L.len h3, cellsRep.len h4, List.length_cons, Nat.add_mul, Nat.one_mul, Nat.add_comm]
theorem cellsRep.one : ∀ {xs : List α} {cells f}, cellsRep L m w cells xs f → ∀ u ∈ cells, isCell u = true
 | [], cells, f, h, u, hu => by simp [cellsRep] at h; rw [h.1] at hu; cases hu
 | x :: xs, cells, f, ⟨cs, rest, f1, f2, h1, h2, h3, h4⟩, u, hu => by
   subst h1
   rcases List.mem_append.1 hu with h | h
   · exact L.one h3 u h
   · exact cellsRep.one h4 u h
theorem cellsRep.st : ∀ {xs : List α} {cells f}, cellsRep L m w cells xs f → (∀ b ∈ f, w'.heap[b]? = w.heap[b]?) → cellsRep L m w' cells xs f
 | [], _, _, h, _ => h
 | x :: xs, cells, f, ⟨cs, rest, f1, f2, h1, h2, h3, h4⟩, hb => by
   subst h2
   exact ⟨cs, rest, f1, f2, h1, rfl, L.st h3 fun b hm => hb b (List.mem_append.2 (.inl hm)), h4.st fun b hm => hb b (List.mem_append.2 (.inr hm))⟩
theorem cellsRep.lt : ∀ {xs : List α} {cells f}, cellsRep L m w cells xs f → ∀ b ∈ f, b < w.heap.size
 | [], cells, f, h, b, hb => by simp [cellsRep] at h; rw [h.2] at hb; cases hb
 | x :: xs, cells, f, ⟨cs, rest, f1, f2, h1, h2, h3, h4⟩, b, hb => by
   subst h2
   rcases List.mem_append.1 hb with h | h
   · exact L.lt h3 b h
   · exact h4.lt b h
theorem cellsRep.rd : ∀ {xs : List α} {cells f}, cellsRep L true w cells xs f → ∃ f', (∀ b ∈ f', b ∈ f) ∧ cellsRep L false w cells xs f'
 | [], cells, f, h => ⟨f, fun _ hb => hb, h⟩
 | x :: xs, cells, f, ⟨cs, rest, f1, f2, h1, h2, h3, h4⟩ => by
   obtain ⟨g1, hg1, h3'⟩ := L.rd h3
   obtain ⟨g2, hg2, h4'⟩ := cellsRep.rd h4
   subst h2
   refine ⟨g1 ++ g2, fun b hb => ?_, cs, rest, g1, g2, h1, rfl, h3', h4'⟩
   rcases List.mem_append.1 hb with h | h
   · exact List.mem_append.2 (.inl (hg1 b h))
   · exact List.mem_append.2 (.inr (hg2 b h))
theorem cellsRep.append : ∀ {xs ys : List α} {c d f g}, cellsRep L m w c xs f → cellsRep L m w d ys g → cellsRep L m w (c ++ d) (xs ++ ys) (f ++ g)
 | [], ys, c, d, f, g, h, k => by simp [cellsRep] at h; simpa [h.1, h.2] using k
 | x :: xs, ys, c, d, f, g, ⟨cs, rest, f1, f2, h1, h2, h3, h4⟩, k => by
   subst h1; subst h2
   exact ⟨cs, rest ++ d, f1, f2 ++ g, by simp, by simp, h3, h4.append k⟩
theorem cellsRep.at_ : ∀ {xs : List α} {cells f} (k : Nat) {x : α}, cellsRep L m w cells xs f → xs[k]? = some x →
 ∃ cs g, L.rep m w cs x g ∧ (∀ b ∈ g, b ∈ f) ∧ ∀ j, j < L.sz → cells[k * L.sz + j]? = cs[j]?
 | [], _, _, _, _, _, hk => by simp at hk
 | y :: xs, cells, f, 0, x, ⟨cs, rest, f1, f2, h1, h2, h3, h4⟩, hk => by
   simp at hk; subst hk; subst h1; subst h2
   refine ⟨cs, f1, h3, fun b hb => List.mem_append.2 (.inl hb), fun j hj => ?_⟩
   rw [Nat.zero_mul, Nat.zero_add, List.getElem?_append_left (by rw [L.len h3]; exact hj)]
 | y :: xs, cells, f, k + 1, x, ⟨cs, rest, f1, f2, h1, h2, h3, h4⟩, hk => by
   subst h1; subst h2
   obtain ⟨cs', g, hr, hg, hc⟩ := h4.at_ k (by simpa using hk)
   refine ⟨cs', g, hr, fun b hb => List.mem_append.2 (.inr (hg b hb)), fun j hj => ?_⟩
   rw [← hc j hj, List.getElem?_append_right (by rw [L.len h3, Nat.add_mul]; omega)]
   congr 1
   rw [L.len h3, Nat.add_mul]; omega
end cells
theorem cellsRep_flat {α : Type} {sz : Nat} {enc : α → List Value} {h : ∀ x, (enc x).length = sz ∧ ∀ u ∈ enc x, isCell u = true} {m : Bool} {w : World} : ∀ (xs : List α), cellsRep (flat sz enc h) m w (xs.flatMap enc) xs []
 | [] => ⟨rfl, rfl⟩
 | x :: xs => ⟨enc x, xs.flatMap enc, [], [], by simp, rfl, ⟨rfl, rfl⟩, cellsRep_flat xs⟩
def ownsR (w : World) (e : TypeId) (size : Nat) (v : Value) (n : Nat) (xs : List Value) : Prop :=
 xs.length = n * size ∧ ((v = .slice none 0 0 ∧ n = 0) ∨
  ∃ g o cap cur fz, v = .slice (some ⟨g, o, none⟩) n cap ∧ w.heap[g]? = some (.cells cur e fz) ∧ (fz.2 ≤ fz.1 ∨ cur.size ≤ fz.1) ∧ n ≤ cap ∧ cap ≤ maxLen ∧ o + cap * size ≤ cur.size ∧ (cur.toList.drop o).take (n * size) = xs)
section
variable {w w' : World} {e : TypeId} {size : Nat} {v : Value} {n : Nat} {xs : List Value}
theorem ownsR.of (h : w.ownsRow 0 e size v n xs) : ownsR w e size v n xs := by
 refine ⟨h.1, ?_⟩
 rcases h.2 with hn | ⟨g, cap, cur, hv, _, hg, h1, h2, h3, h4⟩
 · exact .inl hn
 · exact .inr ⟨g, 0, cap, cur, (0, 0), hv, hg, .inl (Nat.le_refl _), h1, h2, by rw [h3, Nat.zero_add]; exact Nat.le_refl _, h4⟩
theorem ownsR_nil (w : World) (e : TypeId) (size : Nat) : ownsR w e size (.slice none 0 0) 0 [] := ⟨by simp, .inl ⟨rfl, rfl⟩⟩
theorem ownsR.lt (h : ownsR w e size v n xs) : ∀ k, v.ownBlock = some k → k < w.heap.size := by
 intro k hk
 rcases h.2 with ⟨rfl, _⟩ | ⟨g, o, cap, cur, fz, rfl, hg, _⟩
 · simp [Value.ownBlock] at hk
 · simp [Value.ownBlock] at hk
   subst hk
   exact (Array.getElem?_eq_some_iff.1 hg).1
theorem ownsR.cells {g o cap : Nat} (h : ownsR w e size (.slice (some ⟨g, o, none⟩) n cap) n xs) : ∀ j u, xs[j]? = some u → w.cell? ((⟨g, o, none⟩ : Addr).add j) = some u := by
 intro j u hu
 rcases h.2 with ⟨h', _⟩ | ⟨g', o', cap', cur, fz, h', hgg, _, _, _, _, htake⟩
 · simp at h'
 · simp only [Value.slice.injEq, Option.some.injEq, Addr.mk.injEq, and_true, true_and] at h'
   obtain ⟨⟨rfl, rfl⟩, rfl⟩ := h'
   rw [add_lit, cell_of_row w g (o + j) cur e fz hgg]
   rw [← htake, List.getElem?_take] at hu
   split at hu
   · rw [List.getElem?_drop] at hu; simpa using hu
   · cases hu
theorem ownsR.cellAt {g o cap : Nat} (h : ownsR w e size (.slice (some ⟨g, o, none⟩) n cap) n xs) (j : Nat) (hj : j < n * size) : w.cell? ⟨g, o + j, none⟩ = xs[j]? := by
 have hl : j < xs.length := by rw [h.1]; exact hj
 have := h.cells j xs[j] (List.getElem?_eq_getElem hl)
 rw [add_lit] at this
 rw [this, List.getElem?_eq_getElem hl]
theorem ownsR.frozenAt {g o cap : Nat} (h : ownsR w e size (.slice (some ⟨g, o, none⟩) n cap) n xs) (j : Nat) (hj : j < n * size) : w.frozen? ⟨g, o + j, none⟩ = false := by
 rcases h.2 with ⟨h', _⟩ | ⟨g', o', cap', cur, fz, h', hg, hfz, hnc, _, hcs, _⟩
 · simp at h'
 · simp only [Value.slice.injEq, Option.some.injEq, Addr.mk.injEq, and_true, true_and] at h'
   obtain ⟨⟨rfl, rfl⟩, rfl⟩ := h'
   obtain ⟨lo, hi⟩ := fz
   have : n * size ≤ cap * size := Nat.mul_le_mul_right _ hnc
   simp only [World.frozen?, hg, Bool.and_eq_false_iff, decide_eq_false_iff_not]
   simp only at hfz
   omega
theorem ownsR.stored {g o cap : Nat} (h : ownsR w e size (.slice (some ⟨g, o, none⟩) n cap) n xs) (j : Nat) (u : Value) :
 ownsR (w.setCell ⟨g, o + j, none⟩ u) e size (.slice (some ⟨g, o, none⟩) n cap) n (xs.set j u) ∧ w.grownBy (w.setCell ⟨g, o + j, none⟩ u) (some g) := by
 rcases h.2 with ⟨h', _⟩ | ⟨g', o', cap', cur, fz, h', hg, hfz, hnc, hcm, hcs, htake⟩
 · simp at h'
 · simp only [Value.slice.injEq, Option.some.injEq, Addr.mk.injEq, and_true, true_and] at h'
   obtain ⟨⟨rfl, rfl⟩, rfl⟩ := h'
   refine ⟨⟨by simpa using h.1, .inr ⟨g, o, cap, cur.setIfInBounds (o + j) u, fz, rfl, ?_, by simpa using hfz, hnc, hcm, by simpa using hcs, ?_⟩⟩,
    ⟨rfl, rfl, rfl, by simp, fun k _ hk => heap_setCell_other w ⟨g, o + j, none⟩ k u (fun e => hk (by simp [e]))⟩⟩
   · simp only [World.setCell, Array.getElem?_modify, hg, if_true, Option.map_some]; rfl
   · rw [Array.toList_setIfInBounds, ← htake, List.drop_set, if_neg (by omega), List.take_set, Nat.add_sub_cancel_left]
theorem ownsR.st (h : ownsR w e size v n xs) (hb : ∀ b ∈ v.ownBlock, w'.heap[b]? = w.heap[b]?) : ownsR w' e size v n xs := by
 refine ⟨h.1, ?_⟩
 rcases h.2 with h | ⟨b, o, cap, cur, fz, rfl, hh2, hh3⟩
 · exact .inl h
 · exact .inr ⟨b, o, cap, cur, fz, rfl, (hb b (by simp [Value.ownBlock])).trans hh2, hh3⟩
theorem ownsR.all {g o cap : Nat} (h : ownsR w e size (.slice (some ⟨g, o, none⟩) n cap) n xs) : ∃ full, ownsR w e size (.slice (some ⟨g, o, none⟩) cap cap) cap full ∧ full.take (n * size) = xs ∧ n ≤ cap ∧ cap ≤ maxLen := by
 rcases h.2 with ⟨h', _⟩ | ⟨g', o', cap', cur, fz, h', hg, hfz, hnc, hcm, hcs, htake⟩
 · simp at h'
 · simp only [Value.slice.injEq, Option.some.injEq, Addr.mk.injEq, and_true, true_and] at h'
   obtain ⟨⟨rfl, rfl⟩, rfl⟩ := h'
   have hl : ((cur.toList.drop o).take (cap * size)).length = cap * size := by rw [List.length_take, List.length_drop, Array.length_toList]; omega
   refine ⟨(cur.toList.drop o).take (cap * size), ⟨hl, .inr ⟨g, o, cap, cur, fz, rfl, hg, hfz, Nat.le_refl _, hcm, hcs, rfl⟩⟩, ?_, hnc, hcm⟩
   rw [List.take_take, Nat.min_eq_left (Nat.mul_le_mul_right _ hnc)]
   exact htake
theorem ownsR.part {g o cap k : Nat} {full : List Value} (h : ownsR w e size (.slice (some ⟨g, o, none⟩) cap cap) cap full) (hk : k ≤ cap) : ownsR w e size (.slice (some ⟨g, o, none⟩) k cap) k (full.take (k * size)) := by
 rcases h.2 with ⟨h', _⟩ | ⟨g', o', cap', cur, fz, h', hg, hfz, hnc, hcm, hcs, htake⟩
 · simp at h'
 · simp only [Value.slice.injEq, Option.some.injEq, Addr.mk.injEq, and_true, true_and] at h'
   obtain ⟨⟨rfl, rfl⟩, rfl⟩ := h'
   have : k * size ≤ cap * size := Nat.mul_le_mul_right _ hk
   refine ⟨by rw [List.length_take, h.1]; omega, .inr ⟨g, o, cap, cur, fz, rfl, hg, hfz, hk, hcm, hcs, ?_⟩⟩
   rw [← htake, List.take_take]
   congr 1
   omega
theorem ownsR.tail {g o cap k : Nat} (h : ownsR w e size (.slice (some ⟨g, o, none⟩) n cap) n xs) (hk : k ≤ n) : ownsR w e size (.slice (some ⟨g, if cap = k then o else o + k * size, none⟩) (n - k) (cap - k)) (n - k) (xs.drop (k * size)) := by
 rcases h.2 with ⟨h', _⟩ | ⟨g', o', cap', cur, fz, h', hg, hfz, hnc, hcm, hcs, htake⟩
 · simp at h'
 · simp only [Value.slice.injEq, Option.some.injEq, Addr.mk.injEq, and_true, true_and] at h'
   obtain ⟨⟨rfl, rfl⟩, rfl⟩ := h'
   have e1 : (cap - k) * size + k * size = cap * size := by rw [← Nat.add_mul]; congr 1; omega
   have e2 : (n - k) * size + k * size = n * size := by rw [← Nat.add_mul]; congr 1; omega
   have e3 : xs.length = n * size := h.1
   refine ⟨by rw [List.length_drop, h.1]; omega, .inr ⟨g, _, cap - k, cur, fz, rfl, hg, hfz, by omega, by omega, ?_, ?_⟩⟩
   · split <;> omega
   · split
     · rename_i hck
       have : n = k := by omega
       subst this
       rw [Nat.sub_self, Nat.zero_mul, List.take_zero, List.drop_eq_nil_of_le (by omega)]
     · rw [← htake, List.drop_take, List.drop_drop]
       congr 1
       omega
end
def SlR {α : Type} (L : Lay α) (w : World) (a : Option Addr) (xs : List α) (f : List Nat) : Prop :=
 xs.length ≤ maxLen ∧ ((xs = [] ∧ f = []) ∨
  ∃ b o g cells, a = some ⟨b, o, none⟩ ∧ b < w.heap.size ∧ f = b :: g ∧ cellsRep L false w cells xs g ∧ ∀ j, j < cells.length → w.cell? ⟨b, o + j, none⟩ = cells[j]?)
def SlO {α : Type} (e : TypeId) (L : Lay α) (w : World) (v : Value) (xs : List α) (f : List Nat) : Prop :=
 ∃ cells g, ownsR w e L.sz v xs.length cells ∧ f = v.ownBlock.toList ++ g ∧ cellsRep L true w cells xs g ∧ xs.length ≤ maxLen
section slices
variable {α : Type} {L : Lay α} {w w' : World} {a : Option Addr} {xs : List α} {f : List Nat} {e : TypeId} {v : Value}
theorem SlR.st (h : SlR L w a xs f) (hb : ∀ b ∈ f, w'.heap[b]? = w.heap[b]?) : SlR L w' a xs f := by
 obtain ⟨hl, h⟩ := h
 refine ⟨hl, ?_⟩
 rcases h with h | ⟨b, o, g, cells, h1, h2, h3, h4, h5⟩
 · exact .inl h
 · subst h3
   have hbb := hb b (by simp)
   refine .inr ⟨b, o, g, cells, h1, ?_, rfl, h4.st fun c hc => hb c (by simp [hc]), fun j hj => ?_⟩
   · rcases Nat.lt_or_ge b w'.heap.size with h | h
     · exact h
     · rw [Array.getElem?_eq_none h, Array.getElem?_eq_getElem h2] at hbb; cases hbb
   · rw [World.cell?_of_block (w := w) (a := ⟨b, o + j, none⟩) hbb]; exact h5 j hj
theorem SlR.lt (h : SlR L w a xs f) : ∀ b ∈ f, b < w.heap.size := by
 intro c hc
 rcases h.2 with ⟨_, rfl⟩ | ⟨b, o, g, cells, h1, h2, rfl, h4, h5⟩
 · cases hc
 · rcases List.mem_cons.1 hc with rfl | hc
   · exact h2
   · exact h4.lt c hc
theorem SlR.isS (h : SlR L w a xs f) (hn : 0 < xs.length) : a.isSome = true := by
 rcases h.2 with ⟨rfl, _⟩ | ⟨b, o, g, cells, h1, _⟩
 · simp at hn
 · simp [h1]
def ElemAt (w : World) (a : Option Addr) (c : Nat) (cs : List Value) : Prop := ∀ j, j < cs.length → w.cell? ((addrOf a).add (c + j)) = cs[j]?
theorem SlR.elem (h : SlR L w a xs f) {k : Nat} {x : α} (hk : xs[k]? = some x) : ∃ cs g, L.rep false w cs x g ∧ ElemAt w a (k * L.sz) cs ∧ (∀ b ∈ g, b ∈ f) ∧ (∀ b, a.map (·.block) = some b → b ∈ f) := by
 rcases h.2 with ⟨rfl, _⟩ | ⟨b, o, g, cells, h1, h2, rfl, h4, h5⟩
 · simp at hk
 · obtain ⟨cs, g', hr, hg, hc⟩ := h4.at_ k hk
   refine ⟨cs, g', hr, fun j hj => ?_, fun b hb => by simp [hg b hb], fun b' hb' => by simp [h1] at hb'; simp [hb']⟩
   have hsz := L.len hr
   have hlt : k * L.sz + j < cells.length := by
    rcases Nat.lt_or_ge (k * L.sz + j) cells.length with h | h
    · exact h
    · have := hc j (by omega)
      rw [List.getElem?_eq_none h, List.getElem?_eq_getElem hj] at this; cases this
   rw [← hc j (by omega), ← h5 _ hlt, h1]
   simp [addrOf, add_lit]
theorem SlO.st (h : SlO e L w v xs f) (hb : ∀ b ∈ f, w'.heap[b]? = w.heap[b]?) : SlO e L w' v xs f := by
 obtain ⟨cells, g, h1, rfl, h3, h4⟩ := h
 exact ⟨cells, g, h1.st (fun b hm => hb b (List.mem_append.2 (.inl (by simpa using hm)))), rfl, h3.st fun b hm => hb b (List.mem_append.2 (.inr hm)), h4⟩
theorem SlO.lt (h : SlO e L w v xs f) : ∀ b ∈ f, b < w.heap.size := by
 obtain ⟨cells, g, h1, rfl, h3, h4⟩ := h
 intro b hb
 rcases List.mem_append.1 hb with hb | hb
 · exact h1.lt b (by simpa using hb)
 · exact h3.lt b hb
theorem SlO.rd (h : SlO e L w v xs f) : ∃ a cap f', v = .slice a xs.length cap ∧ (∀ b ∈ f', b ∈ f) ∧ SlR L w a xs f' := by
 obtain ⟨cells, g, h1, rfl, h3, h4⟩ := h
 obtain ⟨g', hg, h3'⟩ := h3.rd
 rcases h1.2 with ⟨rfl, h0⟩ | ⟨b, o, cap, cur, fz, rfl, hh2, hh3⟩
 · exact ⟨none, 0, [], by rw [h0], by simp, h4, .inl ⟨List.eq_nil_of_length_eq_zero h0, rfl⟩⟩
 · refine ⟨_, cap, b :: g', rfl, ?_, h4, .inr ⟨b, o, g', cells, rfl, h1.lt b rfl, rfl, h3', fun j hj => ?_⟩⟩
   · intro c hc
     rcases List.mem_cons.1 hc with rfl | hc
     · simp [Value.ownBlock]
     · exact List.mem_append.2 (.inr (hg c hc))
   · have := h1.cells j cells[j] (List.getElem?_eq_getElem hj)
     rw [add_lit] at this
     rw [this, List.getElem?_eq_getElem hj]
end slices
def slA {α : Type} (e : TypeId) (L : Lay α) (v : Value) (xs : List α) : Ass := ⟨fun w f => SlO e L w v xs f, fun _ _ _ h hb => h.st hb, fun _ _ h => h.lt⟩
def sl {α : Type} (e : TypeId) (L : Lay α) : Lay (List α) where
 sz := 1
 rep := fun m w cs xs f => ∃ a cap, cs = [.slice a xs.length cap] ∧ (if m then SlO e L w (.slice a xs.length cap) xs f else (xs.length ≤ cap ∧ SlR L w a xs f))
 len := by rintro m w cs x f ⟨a, cap, rfl, _⟩; rfl
 one := by rintro m w cs x f ⟨a, cap, rfl, _⟩ u hu; simp at hu; subst hu; rfl
 st := by
  rintro m w w' cs x f ⟨a, cap, rfl, h⟩ hb
  refine ⟨a, cap, rfl, ?_⟩
  cases m
  · simp only [Bool.false_eq_true, if_false] at h ⊢
    exact ⟨h.1, SlR.st h.2 hb⟩
  · exact SlO.st (by simpa using h) hb
 lt := by
  rintro m w cs x f ⟨a, cap, rfl, h⟩
  cases m
  · simp only [Bool.false_eq_true, if_false] at h
    exact SlR.lt h.2
  · exact SlO.lt (by simpa using h)
 rd := by
  rintro w cs x f ⟨a, cap, rfl, h⟩
  simp only [if_true] at h
  obtain ⟨a', cap', f', hv, hf, hr⟩ := SlO.rd h
  injection hv with h1 h2 h3
  subst h1; subst h3
  refine ⟨f', hf, _, _, rfl, ?_⟩
  simp only [Bool.false_eq_true, if_false]
  refine ⟨?_, hr⟩
  obtain ⟨cells, g, h9, _⟩ := h
  rcases h9.2 with ⟨hv, h0⟩ | ⟨b, o, c', cur, fz, hv, _, _, hnc, _⟩
  · omega
  · injection hv with _ h4 h5; omega
section rules
variable {P : Program} {N : Nat} {W : World} {S0 : List Nat} {Q : Exit → Act → World → Prop} {T : Tm} {L : Bx} {C : List Ass} {ops : Array Oper}
def opAt (ops : Array Oper) (T : Tm) (i : Nat) : Option (Op × Option Nat × TypeId) :=
 match ops[i]? with
 | some o => if wants ops T o = some true then some (o.op, o.dst, o.type) else none
 | none => none
theorem opAt_ok {i : Nat} {op : Op} {d : Option Nat} {ty : TypeId} (h : opAt ops T i = some (op, d, ty)) {bs : List Nat} {a : Act} (ht : Tms N T bs a) : ∃ o, ops[i]? = some o ∧ Region.wanted o (yielded ops a.tmps) = true ∧ o.op = op ∧ o.dst = d ∧ o.type = ty := by
 unfold opAt at h
 split at h
 · rename_i o hi
   split at h
   · rename_i hw
     simp only [Option.some.injEq, Prod.mk.injEq] at h
     obtain ⟨rfl, rfl, rfl⟩ := h
     exact ⟨o, hi, wants_ok hw ht, rfl, rfl, rfl⟩
   · cases h
 · cases h
theorem STEP {i : Nat} {K : Act → World → Prop} (op : Op) (d : Option Nat) (ty : TypeId) (ho : opAt ops T i = some (op, d, ty)) (hd : ∀ k, d = some k → k < N) (s : SV) (hs : ∀ j off, s = .p j off → j < L.length)
 (hrun : ∀ (a : Act) (o : Oper) (bs : List Nat) (w : World), (∀ x s, evo T x = some s → a.eval x = den bs s) → o.op = op → o.type = ty → At W S0 C w → (execOp a.eval o).run P w = .ok (.value (den bs s)) w)
 (k : G N W S0 K (putd d s T) L C) : OP P N W S0 ops Q i K T L C := by
 rintro a w ⟨bs, fps, ht, hb, hm⟩
 obtain ⟨o, hi, hw, hop, hdst, hty⟩ := opAt_ok ho ht
 refine op_step hi ?_
 rw [hw, if_pos rfl]
 unfold Oper.wp
 rw [hrun a o bs w (fun x s hx => ht.evo hx) hop hty hm.at_]
 subst hdst
 exact k _ _ ⟨bs, fps, ht.put (put_putd hd) rfl, hb.put hs (put_putd hd), hm⟩
theorem evo_of_evv {x : Operand} {v : Value} (h : evv T x = some v) : evo T x = some (.v v) := by
 unfold evv at h
 split at h
 · rename_i hx; simp at h; subst h; exact hx
 · cases h
theorem INDEX {i : Nat} {K : Act → World → Prop} (t : TypeId) (x ix : Operand) (d : Nat) (ty : TypeId) (ho : opAt ops T i = some (.indexAddr t x ix, some d, ty)) (hd : d < N) (a : Option Addr) (n cap : Nat) (kd : IntKind) (z : Int) (e : TypeId) (sz : Nat)
 (hx : evv T x = some (.slice a n cap)) (hix : evv T ix = some (.int kd z)) (hu : P.underlying t = some (.slice e)) (hsz : (P.info? e).map (·.size) = some sz) (ha : a.isSome = true) (h0 : 0 ≤ z) (hn : z < n)
 (k : G N W S0 K ((d, .e a (z.toNat * sz) 0) :: T) L C) : OP P N W S0 ops Q i K T L C := by
 refine STEP _ _ _ ho (by rintro _ ⟨⟩; exact hd) (.e a (z.toNat * sz) 0) (by intro j off he; cases he) ?_ k
 intro ac o bs w hev hop _ _
 obtain ⟨ad, rfl⟩ := Option.isSome_iff_exists.1 ha
 obtain ⟨inf, hi, hs⟩ := Option.map_eq_some_iff.1 hsz
 have h1 : ac.eval x = .slice (some ad) n cap := hev x _ (evo_of_evv hx)
 have h2 : ac.eval ix = .int kd z := hev ix _ (evo_of_evv hix)
 simp only [execOp, hop, h1, h2, Instr.indexAt, asIntOf, Sem.run_bind, Sem.run_pure, Result.andThen_ok, run_underlying hu]
 rw [if_pos ⟨h0, hn⟩]
 simp [Sem.run_bind, run_sizeOf hi, Sem.run_pure, hs, den, addrOf]
theorem ElemAt.load {w : World} {a : Option Addr} {c off : Nat} {cs : List Value} {t : TypeId} {v : Value} (h : ElemAt w a c cs) (hv : loadOf P t cs off = some v) : (loadVar t ((addrOf a).add (c + off))).run P w = .ok v w := by
 unfold loadOf at hv
 split at hv
 · rename_i hg
   split at hv
   · rename_i i hi
     split at hv
     · rename_i hle
       simp only [Option.some.injEq] at hv
       subst hv
       refine run_loadVar_cells hg (.inl ⟨rfl, i, _, hi, by simp; omega, rfl, fun j hj => ?_⟩)
       rw [add_add, Nat.add_assoc, h (off + j) (by omega)]
       simp [List.getElem?_take, hj]
     · cases hv
   · cases hv
 · rename_i hg
   refine run_loadVar_cells hg (.inr ⟨rfl, ?_⟩)
   rw [h off (List.getElem?_eq_some_iff.1 hv).1]
   exact hv
 · cases hv
theorem LOADE {i : Nat} {K : Act → World → Prop} (t : TypeId) (x : Operand) (d : Nat) (ty : TypeId) (ho : opAt ops T i = some (.load t x, some d, ty)) (hd : d < N) (a : Option Addr) (c off : Nat) (cs : List Value) (v : Value)
 (hx : evo T x = some (.e a c off)) (he : ∀ w, At W S0 C w → ElemAt w a c cs) (hv : loadOf P t cs off = some v)
 (k : G N W S0 K ((d, .v v) :: T) L C) : OP P N W S0 ops Q i K T L C := by
 refine STEP _ _ _ ho (by rintro _ ⟨⟩; exact hd) (.v v) (by intro j off he; cases he) ?_ k
 intro ac o bs w hev hop _ hat
 have h1 : ac.eval x = .pointer (some ((addrOf a).add (c + off))) := hev x _ hx
 simp only [execOp, hop, h1, Instr.loadAt, Instr.sureAddr, Sem.run_bind, Sem.run_pure, Result.andThen_ok, (he w hat).load hv, den]
end rules
theorem SlR.fr {α : Type} {L : Lay α} {W w : World} {a : Option Addr} {xs : List α} {f : List Nat} (h : SlR L W a xs f) (hf : Fr [] W w) : SlR L w a xs f := h.st fun b hb => hf.block b (h.lt b hb) (by simp)
theorem SlR.elemF {α : Type} {sz : Nat} {enc : α → List Value} {hh : ∀ x, (enc x).length = sz ∧ ∀ u ∈ enc x, isCell u = true} {w : World} {a : Option Addr} {xs : List α} {f : List Nat} (h : SlR (flat sz enc hh) w a xs f) {k : Nat} {x : α} (hk : xs[k]? = some x) :
 ElemAt w a (k * sz) (enc x) := by
 obtain ⟨cs, g, ⟨rfl, _⟩, h2, _⟩ := h.elem hk
 exact h2
abbrev I (x : Int) : SV := .v (.int .i64 x)
abbrev B (b : Bool) : SV := .v (.bool b)
abbrev vi (x : Int) : Value := .int .i64 x
abbrev wr (x : Int) : Int := IntKind.wrap .i64 x
def RV (v : Value) : Res := ⟨Unit, fun _ => v, fun _ => []⟩
def intL : Lay Int := flat 1 (fun z => [.int .i64 z]) (fun z => ⟨rfl, by simp [isCell]⟩)
def byteL : Lay UInt8 := flat 1 (fun z => [.int .u8 z.toNat]) (fun z => ⟨rfl, by simp [isCell]⟩)
def bs (s : List UInt8) : ByteArray := ⟨⟨s⟩⟩
def Rd {α : Type} (L : Lay α) (w : World) (a : Option Addr) (xs : List α) : Prop := ∃ f, SlR L w a xs f
section
variable {α : Type} {L : Lay α} {w w' W : World} {a : Option Addr} {xs : List α} {e : TypeId}
theorem Rd.fr (h : Rd L W a xs) (hf : Fr [] W w) : Rd L w a xs := let ⟨f, h⟩ := h; ⟨f, h.fr hf⟩
theorem Rd.len (h : Rd L w a xs) : xs.length ≤ 9223372036854775807 := let ⟨_, h⟩ := h; h.1
theorem Rd.some (h : Rd L w a xs) (hn : 0 < xs.length) : a.isSome = true := let ⟨_, h⟩ := h; h.isS hn
theorem Rd.own {n cap : Nat} (h : ∃ f, SlO e L w (.slice a n cap) xs f) : Rd L w a xs := by
 obtain ⟨f, h⟩ := h
 obtain ⟨a', cap', f', hv, _, hr⟩ := h.rd
 injection hv with h1 h2 h3
 subst h1
 exact ⟨f', hr⟩
theorem SlO.isS {n cap : Nat} (h : ∃ f, SlO e L w (.slice a n cap) xs f) (hn : 0 < n) : a.isSome = true := by
 obtain ⟨f, cells, g, h1, _⟩ := h
 rcases h1.2 with ⟨hv, _⟩ | ⟨b, ob, c', cur, fz, hv, _⟩
 · injection hv with _ h2; omega
 · injection hv with h1; simp [h1]
theorem SlO.lenE {n cap : Nat} (h : ∃ f, SlO e L w (.slice a n cap) xs f) : n = xs.length ∧ xs.length ≤ 9223372036854775807 := by
 obtain ⟨f, cells, g, h1, _, _, hl⟩ := h
 refine ⟨?_, hl⟩
 rcases h1.2 with ⟨hv, h0⟩ | ⟨b, ob, c', cur, fz, hv, _⟩
 · injection hv with _ h2; rw [h2, h0]
 · injection hv
theorem Rd.nil (L : Lay α) (w : World) : Rd L w none [] := ⟨[], by simp [maxLen], .inl ⟨rfl, rfl⟩⟩
theorem Rd.elem (h : Rd L w a xs) {k : Nat} {x : α} (hk : xs[k]? = Option.some x) : ∃ cs g, L.rep false w cs x g ∧ ElemAt w a (k * L.sz) cs := by
 obtain ⟨f, h⟩ := h
 obtain ⟨cs, g, h1, h2, _⟩ := h.elem hk
 exact ⟨cs, g, h1, h2⟩
theorem Rd.flat {sz : Nat} {enc : α → List Value} {hh : ∀ x, (enc x).length = sz ∧ ∀ u ∈ enc x, isCell u = true} (h : Rd (SX.flat sz enc hh) w a xs) {k : Nat} {x : α} (hk : xs[k]? = Option.some x) : ElemAt w a (k * sz) (enc x) := by
 obtain ⟨f, h⟩ := h
 exact h.elemF hk
theorem SlO.capE {n cap : Nat} (h : ∃ f, SlO e L w (.slice a n cap) xs f) : n ≤ cap := by
 obtain ⟨f, cells, g, h1, _⟩ := h
 rcases h1.2 with ⟨hv, h0⟩ | ⟨b, ob, c', cur, fz, hv, _, _, hnc, _⟩
 · injection hv with _ h2 h3; omega
 · injection hv with _ h2 h3; omega
theorem cellsRep.drop {m : Bool} : ∀ {xs : List α} {cells f} (k : Nat), cellsRep L m w cells xs f → ∃ g, cellsRep L m w (cells.drop (k * L.sz)) (xs.drop k) g
 | [], cells, f, k, h => by
   simp [cellsRep] at h
   exact ⟨[], by simp [h.1, cellsRep]⟩
 | x :: xs, cells, f, 0, h => ⟨f, by simpa using h⟩
 | x :: xs, cells, f, k + 1, ⟨cs, rest, f1, f2, h1, h2, h3, h4⟩ => by
   obtain ⟨g, hg⟩ := h4.drop k
   refine ⟨g, ?_⟩
   subst h1
   have hl := L.len h3
   rw [show (k + 1) * L.sz = cs.length + k * L.sz by rw [hl, Nat.add_mul]; omega, List.drop_append, List.drop_eq_nil_of_le (by omega), Nat.add_sub_cancel_left]
   simpa using hg
theorem Rd.drop (h : Rd L w a xs) {cap : Nat} (hc : xs.length ≤ cap) (l : Nat) (hl : l ≤ xs.length) : Rd L w (if cap = l then a else a.map (·.add (l * L.sz))) (xs.drop l) := by
 obtain ⟨f, hm, h⟩ := h
 by_cases he : l = xs.length
 · exact ⟨[], by rw [List.length_drop]; omega, .inl ⟨by rw [he]; simp, rfl⟩⟩
 · rw [if_neg (by omega)]
   rcases h with ⟨rfl, _⟩ | ⟨b, o, g, cells, rfl, h2, rfl, h4, h5⟩
   · simp at hl he; omega
   · obtain ⟨g', hg'⟩ := h4.drop l
     refine ⟨b :: g', by rw [List.length_drop]; omega, .inr ⟨b, o + l * L.sz, g', _, by simp [add_lit], h2, rfl, hg', fun j hj => ?_⟩⟩
     rw [List.length_drop] at hj
     rw [Nat.add_assoc, h5 _ (by omega), List.getElem?_drop]
theorem cellsRep.take {m : Bool} : ∀ {xs : List α} {cells f} (k : Nat), cellsRep L m w cells xs f → ∃ g, cellsRep L m w (cells.take (k * L.sz)) (xs.take k) g
 | [], cells, f, k, h => by
   simp [cellsRep] at h
   exact ⟨[], by simp [h.1, cellsRep]⟩
 | x :: xs, cells, f, 0, h => ⟨[], by simp [cellsRep]⟩
 | x :: xs, cells, f, k + 1, ⟨cs, rest, f1, f2, h1, h2, h3, h4⟩ => by
   obtain ⟨g, hg⟩ := h4.take k
   refine ⟨f1 ++ g, ?_⟩
   subst h1
   have hl := L.len h3
   rw [show (k + 1) * L.sz = cs.length + k * L.sz by rw [hl, Nat.add_mul]; omega, List.take_append, List.take_of_length_le (by omega), Nat.add_sub_cancel_left]
   exact ⟨cs, _, f1, g, rfl, rfl, h3, hg⟩
theorem Rd.take (h : Rd L w a xs) (l : Nat) : Rd L w a (xs.take l) := by
 obtain ⟨f, hm, h⟩ := h
 rcases h with ⟨rfl, _⟩ | ⟨b, o, g, cells, rfl, h2, rfl, h4, h5⟩
 · exact ⟨[], by rw [List.length_take]; omega, .inl ⟨by simp, rfl⟩⟩
 · obtain ⟨g', hg'⟩ := h4.take l
   refine ⟨b :: g', by rw [List.length_take]; omega, .inr ⟨b, o, g', _, rfl, h2, rfl, hg', fun j hj => ?_⟩⟩
   rw [List.length_take] at hj
   rw [h5 _ (by omega), List.getElem?_take, if_pos (by omega)]
theorem set_get {β : Type} {xs : List β} {k : Nat} {x y : β} (h : xs[k]? = Option.some x) : (xs.set k y)[k]? = Option.some y := by
 have hk : k < xs.length := (List.getElem?_eq_some_iff.1 h).1
 rw [List.getElem?_set_self hk]
end
theorem wr_of {x : Int} (h0 : -9223372036854775808 ≤ x) (h1 : x ≤ 9223372036854775807) : wr x = x := by
 exact IntWalk.i64_in x ⟨h0, h1⟩
theorem vi_wr {x : Int} (h0 : -9223372036854775808 ≤ x) (h1 : x ≤ 9223372036854775807) : vi (wr x) = vi x := by rw [wr_of h0 h1]
theorem vi_cast {x : Int} {n : Nat} (h : x = n) (h1 : n ≤ 9223372036854775807) : vi (wr x) = vi (n : Int) := by subst h; exact vi_wr (by omega) (by omega)
theorem drop_cons {α : Type} {xs ys : List α} {k : Nat} (hd : xs.drop k = ys) (hl : k + ys.length = xs.length) (hk : k < xs.length) : ∃ y zs, ys = y :: zs ∧ xs[k]? = some y ∧ xs.drop (k + 1) = zs ∧ (k + 1) + zs.length = xs.length := by
 cases ys with
 | nil => simp at hl; omega
 | cons y zs =>
   refine ⟨y, zs, rfl, ?_, ?_, by simp at hl; omega⟩
   · have := congrArg (fun l => l[0]?) hd
     simpa using this
   · have := congrArg (List.drop 1) hd
     simpa [List.drop_drop, Nat.add_comm] using this
theorem drop_nil {α : Type} {xs ys : List α} {k : Nat} (hl : k + ys.length = xs.length) (hk : ¬ k < xs.length) : ys = [] := by
 apply List.eq_nil_of_length_eq_zero; omega
theorem notT {b : Bool} (h : (!b) = true) : b = false := by simpa using h
theorem notF {b : Bool} (h : (!b) = false) : b = true := by simpa using h
theorem FACT {N : Nat} {W : World} {S0 : List Nat} {K : Act → World → Prop} {T : Tm} {L : Bx} {C : List Ass} (p : Prop) (h : ∀ w, At W S0 C w → p) (k : p → G N W S0 K T L C) : G N W S0 K T L C := by
 rintro a w ⟨bs, fps, ht, hb, hm⟩
 exact k (h w hm.at_) a w ⟨bs, fps, ht, hb, hm⟩
abbrev HH := Option Addr × Nat
theorem flatRep {α : Type} {sz : Nat} {enc : α → List Value} {hh : ∀ x, (enc x).length = sz ∧ ∀ u ∈ enc x, isCell u = true} {cells : List Value} {xs : List α} (h : cells = xs.flatMap enc) : ∀ w fps, holds w [] fps → cellsRep (flat sz enc hh) true w cells xs fps.flatten := by
 intro w fps hf
 cases fps with
 | nil => subst h; exact cellsRep_flat xs
 | cons _ _ => exact hf.elim
theorem set_next {α : Type} {xs : List α} {y x0 : α} {zs : List α} {k : Nat} (hl : k + (y :: zs).length = xs.length) (hx : xs[k]? = some y) :
 (xs.take k ++ List.replicate (y :: zs).length x0).set k y = xs.take (k + 1) ++ List.replicate zs.length x0 := by
 simp only [List.length_cons] at hl
 have hk : k < xs.length := by omega
 have htl : (xs.take k).length = k := by simp; omega
 rw [List.set_append_right _ _ (by omega), htl, Nat.sub_self]
 simp only [List.length_cons, List.replicate_succ, List.set_cons_zero]
 rw [List.take_add_one, hx]
 simp
end SX
end Go.Proofs.YtejojcoaohlfbaaGreat
