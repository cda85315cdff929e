/- Structs compared; more steps of one operation: division, strings. It imports no program. -/
import Derived.Test.YtcbpmjfjdjpalaaGreatSx8
namespace Go.Proofs.YtcbpmjfjdjpalaaGreat
namespace SX
set_option linter.unusedVariables false
set_option linter.unusedSimpArgs false
open Go Go.RowKit

def eqFs (P : Program) (xs ys : List Value) : List Field → Option Bool
  | [] => some true
  | f :: fs =>
    if f.name == "_" then none
    else match aggOf P f.type, P.underlying f.type, xs[f.offset]?, ys[f.offset]? with
      | some false, some (.int _), some (.int k a), some (.int k' b) => if k = k' then (eqFs P xs ys fs).map ((a == b) && ·) else none
      | some false, some .string, some (.string a), some (.string b) => (eqFs P xs ys fs).map ((a.toList == b.toList) && ·)
      | some false, some .bool, some (.bool a), some (.bool b) => (eqFs P xs ys fs).map ((a == b) && ·)
      | _, _, _, _ => none

theorem part_run {P : Program} {w : World} {t : TypeId} {cs : List Value} {off : Nat} {v : Value} (h : aggOf P t = some false) (hc : cs[off]? = some v) : (part t cs.toArray off).run P w = .ok v w := by
  unfold part
  rw [Sem.run_bind, run_isAgg h]
  simp [hc, Sem.run_pure]

theorem eqFs_run {P : Program} {w : World} (d : Nat) (xs ys : List Value) : ∀ (fs : List Field) (r : Bool), eqFs P xs ys fs = some r → (Op.eqFields (d + 1) xs.toArray ys.toArray fs).run P w = .ok r w
  | [], r, h => by simp [eqFs] at h; subst h; simp [Op.eqFields, Sem.run_pure]
  | f :: fs, r, h => by
    simp only [eqFs] at h
    split at h
    · cases h
    · rename_i hn
      have hn' : f.name ≠ "_" := by simpa using hn
      have key : ∀ (a b : Value) (c : Bool) (r' : Bool), aggOf P f.type = some false → xs[f.offset]? = some a → ys[f.offset]? = some b → (∀ w, (Op.equalIn (d + 1) f.type a b).run P w = .ok c w) → eqFs P xs ys fs = some r' →
          (Op.eqFields (d + 1) xs.toArray ys.toArray (f :: fs)).run P w = .ok (c && r') w := by
        intro a b c r' hg ha hb he hr
        have ih := eqFs_run (w := w) d xs ys fs r' hr
        simp only [Op.eqFields, hn', ne_eq, not_false_eq_true, if_true, Sem.run_bind, part_run hg ha, part_run hg hb, Result.andThen_ok, he w]
        cases c
        · simp [Sem.run_pure]
        · simpa using ih
      split at h
      · rename_i k0 k a k' b hg hu ha hb
        split at h
        · rename_i hk
          subst hk
          obtain ⟨r', hr, rfl⟩ := Option.map_eq_some_iff.1 h
          exact key _ _ (a == b) r' hg ha hb (fun w => run_equalIn_int w d f.type k _ a b hu) hr
        · cases h
      · rename_i a b hg hu ha hb
        obtain ⟨r', hr, rfl⟩ := Option.map_eq_some_iff.1 h
        exact key _ _ _ r' hg ha hb (fun w => run_equalIn_string w d f.type a b hu) hr
      · rename_i a b hg hu ha hb
        obtain ⟨r', hr, rfl⟩ := Option.map_eq_some_iff.1 h
        exact key _ _ (a == b) r' hg ha hb (fun w => run_equalIn_bool' w d f.type a b hu) hr
      · cases h

/-- two structs compared: what it comes to -/
def steqOf (P : Program) (t : TypeId) (xs ys : List Value) : Option Bool :=
  match P.underlying t with
  | some (.struct fs) => if P.stoodInHeld t = false ∧ P.eqGuardType P.depth t = false then eqFs P xs ys fs.toList else none
  | _ => none

theorem steqOf_run {P : Program} {w : World} {t : TypeId} {xs ys : List Value} {r : Bool} (h : steqOf P t xs ys = some r) (x y : Operand) :
    ((do eqGuard .eql t x y (.agg xs.toArray) (.agg ys.toArray); binOp .eql t (.agg xs.toArray) (.agg ys.toArray)) : Sem Value).run P w = .ok (.bool r) w ∧
    ((do eqGuard .neq t x y (.agg xs.toArray) (.agg ys.toArray); binOp .neq t (.agg xs.toArray) (.agg ys.toArray)) : Sem Value).run P w = .ok (.bool (!r)) w := by
  unfold steqOf at h
  split at h
  · rename_i fs hu
    split at h
    · rename_i hc
      have hf : P.fieldsOf t = fs := by simp [Program.fieldsOf, hu]
      have ht : P.underlying t = some (.struct (P.fieldsOf t)) := by rw [hf, hu]
      have he : (Op.equalIn 10000 t (.agg xs.toArray) (.agg ys.toArray)).run P w = .ok r w := by
        rw [show (10000 : Nat) = 9999 + 1 from rfl, run_equalIn_struct w 9999 t _ _ ht hc.1, hf]
        exact eqFs_run 9998 xs ys fs.toList r h
      refine ⟨?_, ?_⟩
      · rw [Sem.run_bind, run_eqGuard_agg w .eql t x y _ _ hc.2]
        simp only [Result.andThen_ok]
        rw [run_eql_struct, he]
        rfl
      · rw [Sem.run_bind, run_eqGuard_agg w .neq t x y _ _ hc.2]
        simp only [Result.andThen_ok]
        rw [run_neq_struct, he]
        rfl
    · cases h
  · cases h

section rules
variable {P : Program} {N : Nat} {W : World} {S0 : List Nat} {Q : Exit → Act → World → Prop} {T : Tm} {L : Bx} {C : List Ass} {ops : Array Oper}

/-- what STEP asks of a step -/
def Runs (P : Program) (W : World) (S0 : List Nat) (T : Tm) (C : List Ass) (op : Op) (ty : TypeId) (v : Value) : Prop :=
  ∀ (a : Act) (o : Oper) (bs : List Nat) (w : World), (∀ x s, evo T x = some s → a.eval x = den bs s) → o.op = op → o.type = ty → At W S0 C w → (execOp a.eval o).run P w = .ok (.value v) w

/-- RUNV, QRUNV: a step that comes to a value -/
theorem RUNV {i : Nat} {K : Act → World → Prop} (op : Op) (d : Nat) (ty : TypeId) (ho : opAt ops T i = some (op, some d, ty)) (hd : d < N) (v : Value) (hrun : Runs P W S0 T C op ty v) (k : G N W S0 K ((d, .v v) :: T) L C) : OP P N W S0 ops Q i K T L C :=
  STEP op (some d) ty ho (by rintro _ ⟨⟩; exact hd) (.v v) (by intro j off he; cases he) hrun k
theorem QRUNV {i : Nat} (op : Op) (d : Nat) (ty : TypeId) (ho : opAt ops T i = some (op, some d, ty)) (hd : d < N) (v : Value) (hrun : Runs P W S0 T C op ty v) (k : QO P N W S0 ops Q (i + 1) ((d, .v v) :: T) L C) : QO P N W S0 ops Q i T L C :=
  QSTEP op (some d) ty ho (by rintro _ ⟨⟩; exact hd) (.v v) (by intro j off he; cases he) hrun k

theorem runs_neq {t t2 ty : TypeId} {x y : Operand} {xs ys : List Value} {r : Bool} (hx : evv T x = some (.agg xs.toArray)) (hy : evv T y = some (.agg ys.toArray)) (h : steqOf P t xs ys = some r) : Runs P W S0 T C (.binOp .neq t x y t2) ty (.bool (!r)) := by
  intro a o bs w hev hop _ _
  have h1 : a.eval x = .agg xs.toArray := hev x _ (evo_of_evv hx)
  have h2 : a.eval y = .agg ys.toArray := hev y _ (evo_of_evv hy)
  simp only [execOp, hop, h1, h2]
  rw [Sem.run_bind, (steqOf_run h x y).2]
  rfl
theorem runs_quo {t t2 ty : TypeId} {x y : Operand} {k : IntKind} {a b : Int} (hx : evv T x = some (.int k a)) (hy : evv T y = some (.int k b)) (hb : b ≠ 0) : Runs P W S0 T C (.binOp .quo t x y t2) ty (.int k (k.wrap (a.tdiv b))) := by
  intro ac o bs w hev hop _ _
  have h1 : ac.eval x = .int k a := hev x _ (evo_of_evv hx)
  have h2 : ac.eval y = .int k b := hev y _ (evo_of_evv hy)
  simp [execOp, hop, h1, h2, eqGuard, binOp, Op.intDiv, hb, Sem.run_bind, Sem.run_pure]
theorem runs_rem {t t2 ty : TypeId} {x y : Operand} {k : IntKind} {a b : Int} (hx : evv T x = some (.int k a)) (hy : evv T y = some (.int k b)) (hb : b ≠ 0) : Runs P W S0 T C (.binOp .rem t x y t2) ty (.int k (a.tmod b)) := by
  intro ac o bs w hev hop _ _
  have h1 : ac.eval x = .int k a := hev x _ (evo_of_evv hx)
  have h2 : ac.eval y = .int k b := hev y _ (evo_of_evv hy)
  simp [execOp, hop, h1, h2, eqGuard, binOp, Op.intDiv, hb, Sem.run_bind, Sem.run_pure]
end rules
end SX
end Go.Proofs.YtcbpmjfjdjpalaaGreat
