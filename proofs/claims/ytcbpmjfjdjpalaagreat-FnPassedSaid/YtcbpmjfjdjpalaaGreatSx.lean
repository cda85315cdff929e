/- A small program logic over the model's own rules: frames as lists of known slots, local variables as boxes, memory that the call owns as a list of assertions. It imports no program. -/
import Derived.WalkKit
import Derived.Below
namespace Go.Proofs.YtcbpmjfjdjpalaaGreat
namespace SX
set_option linter.unusedVariables false
set_option linter.unusedSimpArgs false
open Go

/-! ### Symbolic values -/
/-- v: a value; p: a pointer into the i-th box; e: a pointer to a cell of a slice's array: cell number c + off. -/
inductive SV where
  | v (x : Value)
  | p (i off : Nat)
  | e (a : Option Addr) (c off : Nat)

def addrOf (a : Option Addr) : Addr := a.getD ⟨0, 0, none⟩

def den (bs : List Nat) : SV → Value
  | .v x => x
  | .p i off => .pointer (some ⟨bs.getD i 0, off, none⟩)
  | .e a c off => .pointer (some ((addrOf a).add (c + off)))

abbrev Tm := List (Nat × SV)
abbrev Bx := List (TypeId × List Value)

def lk : Tm → Nat → Option SV
  | [], _ => none
  | (k, x) :: r, i => if k == i then some x else lk r i

def evo (T : Tm) : Operand → Option SV
  | .tmp i => lk T i
  | .const v => some (.v v)
  | .func f => some (.v (.func (.func f) #[] #[]))
  | .global _ => none

def evv (T : Tm) (x : Operand) : Option Value :=
  match evo T x with
  | some (.v v) => some v
  | _ => none

def evw (T : Tm) (x : Operand) : Value := (evv T x).getD undef

/-- what a run comes to that touches no memory -/
def pureOf {α : Type} (P : Program) : Sem α → Option α
  | .pure a => some a
  | .program k => pureOf P (k P)
  | .mark _ k => pureOf P k
  | _ => none

theorem pureOf_run {α : Type} {P : Program} (s : Sem α) : ∀ {x : α}, pureOf P s = some x → ∀ w, s.run P w = .ok x w := by
  induction s with
  | pure a => intro x h w; simp [pureOf] at h; subst h; rfl
  | program k ih => intro x h w; exact ih P h w
  | mark m k ih => intro x h w; exact ih h w
  | _ => intro x h; simp [pureOf] at h

def opnds : Op → Option (List Operand)
  | .pick c a b => some [c, a, b]
  | .binOp _ _ x y _ => some [x, y]
  | .unOp _ _ x => some [x]
  | .convert _ _ x => some [x]
  | .build _ parts => some (parts.toList.map (·.2))
  | .field _ x _ => some [x]
  | .index _ x i => some [x, i]
  | .extract x _ => some [x]
  | .slice _ x lo hi mx => some (x :: (lo.toList ++ hi.toList ++ mx.toList))
  | .makeFunc _ first cap => some (first.toList ++ cap.toList)
  | .nilCheck x => some [x]
  | .makeInterface _ x => some [x]
  | .call c => some ((match c.callee with | .value f => [f] | .invoke r _ => [r] | .builtin _ => []) ++ c.args.toList)
  | _ => none

theorem map_congr_mem {α β : Type} {f g : α → β} (xs : Array α) (h : ∀ x ∈ xs, f x = g x) : xs.map f = xs.map g := Array.map_congr_left h

theorem exec_congr (o : Oper) (l : List Operand) (hl : opnds o.op = some l) (ρ ρ' : Operand → Value) (h : ∀ x ∈ l, ρ x = ρ' x) : execOp ρ o = execOp ρ' o := by
  obtain ⟨dst, op, ty, pos, after, guard⟩ := o
  cases op with
  | pick c a b => simp only [opnds, Option.some.injEq] at hl; subst hl; simp only [execOp]; rw [h c (by simp), h a (by simp), h b (by simp)]
  | binOp b t x y z => simp only [opnds, Option.some.injEq] at hl; subst hl; simp only [execOp]; rw [h x (by simp), h y (by simp)]
  | unOp b t x => simp only [opnds, Option.some.injEq] at hl; subst hl; simp only [execOp]; rw [h x (by simp)]
  | convert b t x => simp only [opnds, Option.some.injEq] at hl; subst hl; simp only [execOp]; rw [h x (by simp)]
  | build t parts =>
    simp only [opnds, Option.some.injEq] at hl; subst hl; simp only [execOp]
    rw [map_congr_mem (f := fun (p : Nat × Operand) => (p.1, ρ p.2)) (g := fun p => (p.1, ρ' p.2)) parts (fun p hp => by
      rw [h p.2 (List.mem_map.2 ⟨p, by simpa using hp, rfl⟩)])]
  | field t x f => simp only [opnds, Option.some.injEq] at hl; subst hl; simp only [execOp]; rw [h x (by simp)]
  | index t x i => simp only [opnds, Option.some.injEq] at hl; subst hl; simp only [execOp]; rw [h x (by simp), h i (by simp)]
  | extract x i => simp only [opnds, Option.some.injEq] at hl; subst hl; simp only [execOp]; rw [h x (by simp)]
  | slice t x lo hi mx =>
    simp only [opnds, Option.some.injEq] at hl; subst hl; simp only [execOp]
    rw [h x (by simp)]
    have e1 : lo.map ρ = lo.map ρ' := by cases lo with | none => rfl | some z => simp; exact h z (by simp)
    have e2 : hi.map ρ = hi.map ρ' := by cases hi with | none => rfl | some z => simp; exact h z (by simp)
    have e3 : mx.map ρ = mx.map ρ' := by cases mx with | none => rfl | some z => simp; exact h z (by simp)
    rw [e1, e2, e3]
  | makeFunc f first cap =>
    simp only [opnds, Option.some.injEq] at hl; subst hl; simp only [execOp]
    rw [map_congr_mem (f := ρ) (g := ρ') first (fun p hp => h p (by simp [hp])), map_congr_mem (f := ρ) (g := ρ') cap (fun p hp => h p (by simp [hp]))]
  | nilCheck x => simp only [opnds, Option.some.injEq] at hl; subst hl; simp only [execOp]; rw [h x (by simp)]
  | makeInterface t x => simp only [opnds, Option.some.injEq] at hl; subst hl; simp only [execOp]; rw [h x (by simp)]
  | call c =>
    obtain ⟨callee, args, at_⟩ := c
    simp only [opnds, Option.some.injEq] at hl; subst hl
    simp only [execOp, resolve]
    have ea : args.map ρ = args.map ρ' := map_congr_mem (f := ρ) (g := ρ') args (fun p hp => h p (by simp [hp]))
    cases callee with
    | builtin b => simp only [ea]
    | invoke r n => simp only [ea, h r (by simp)]
    | value f => simp only [ea, h f (by simp)]
  | _ => simp [opnds] at hl

/-! ### Pure steps, and steps over boxes -/
def fieldOff (P : Program) (s : TypeId) (f : Nat) : Option Nat :=
  match P.underlying s with
  | some (.struct fields) =>
    match fields[f]? with
    | some fd => match P.info? fd.type with
      | some i => if i.size = 0 then none else some fd.offset
      | none => none
    | none => none
  | _ => none

def aggOf (P : Program) (t : TypeId) : Option Bool :=
  match P.underlying t with
  | some (.struct _) | some (.array _ _) => some true
  | some _ => some false
  | none => none

def loadOf (P : Program) (t : TypeId) (cs : List Value) (off : Nat) : Option Value :=
  match aggOf P t with
  | some true => match P.info? t with
    | some i => if off + i.size ≤ cs.length then some (.agg ((cs.drop off).take i.size).toArray) else none
    | none => none
  | some false => cs[off]?
  | none => none

def isCell : Value → Bool
  | .agg _ | .tuple _ => false
  | _ => true

def setCells (cs : List Value) (off : Nat) : List Value → List Value
  | [] => cs
  | v :: r => setCells (cs.set off v) (off + 1) r

def storeOf (P : Program) (t : TypeId) (cs : List Value) (off : Nat) (v : Value) : Option (List Value) :=
  match P.info? t with
  | some i => if v.cells.size = i.size ∧ off + i.size ≤ cs.length ∧ v.cells.toList.all isCell = true then some (setCells cs off v.cells.toList) else none
  | none => none

def put (N : Nat) (T : Tm) (d : Option Nat) (x : SV) : Option Tm :=
  match d with
  | none => some T
  | some d => if d < N then some ((d, x) :: T) else none

def setAt (L : Bx) (i : Nat) (cs : List Value) : Bx :=
  match L, i with
  | [], _ => []
  | (t, _) :: r, 0 => (t, cs) :: r
  | x :: r, i + 1 => x :: setAt r i cs

/-- is the operation wanted? none: not known -/
def wants (ops : Array Oper) (T : Tm) (o : Oper) : Option Bool :=
  match o.guard with
  | none => some true
  | some (j, want) =>
    match (ops[j]?).bind (·.dst) with
    | none => some false
    | some d => match lk T d with
      | some (.v (.bool b)) => some (b == want)
      | some (.v (.tuple _)) => some false
      | _ => none

def go1 (P : Program) (N : Nat) (T : Tm) (L : Bx) (o : Oper) : Option (Tm × Bx) :=
  match o.op with
  | .move x | .assign x => (evo T x).bind fun s => (put N T o.dst s).map (·, L)
  | .fieldAddr s x f =>
    match evo T x, fieldOff P s f with
    | some (.p i off), some k => (put N T o.dst (.p i (off + k))).map (·, L)
    | some (.e a c off), some k => (put N T o.dst (.e a c (off + k))).map (·, L)
    | _, _ => none
  | .nilCheck x =>
    match evo T x with
    | some (.p i off) => (put N T o.dst (.p i off)).map (·, L)
    | some (.e a c off) => (put N T o.dst (.e a c off)).map (·, L)
    | _ => none
  | .load t x =>
    match evo T x with
    | some (.p i off) => match L[i]? with
      | some b => (loadOf P t b.2 off).bind fun v => (put N T o.dst (.v v)).map (·, L)
      | none => none
    | _ => none
  | .store t x y =>
    match evo T x, evv T y with
    | some (.p i off), some v => match L[i]? with
      | some b => (storeOf P t b.2 off v).bind fun cs => (put N T o.dst (.v undef)).map (·, setAt L i cs)
      | none => none
    | _, _ => none
  | .box t x =>
    match evv T x with
    | some v => (put N T o.dst (.p L.length 0)).map (·, L ++ [(t, v.cells.toList)])
    | none => none
  | .alloc t =>
    match (P.info? t).bind (·.zero) with
    | some v => (put N T o.dst (.p L.length 0)).map (·, L ++ [(t, v.cells.toList)])
    | none => none
  | op =>
    match opnds op with
    | some l =>
      if l.all (fun x => (evv T x).isSome) then
        match pureOf P (execOp (evw T) o) with
        | some (.value v) => (put N T o.dst (.v v)).map (·, L)
        | _ => none
      else none
    | none => none

def step1 (P : Program) (N : Nat) (ops : Array Oper) (T : Tm) (L : Bx) (o : Oper) : Option (Tm × Bx) :=
  match wants ops T o with
  | some true => go1 P N T L o
  | some false => (put N T o.dst (.v undef)).map (·, L)
  | none => none

def runP (P : Program) (N : Nat) (ops : Array Oper) : (n : Nat) → List Nat → Tm → Bx → Option (Tm × Bx)
  | 0, _, T, L => some (T, L)
  | _ + 1, [], _, _ => none
  | n + 1, i :: is, T, L =>
    match ops[i]? with
    | some o => match step1 P N ops T L o with
      | some (T', L') => runP P N ops n is T' L'
      | none => none
    | none => none

/-- the named slots alone -/
def keep (T : Tm) : List Nat → Option Tm
  | [] => some []
  | k :: r => match lk T k, keep T r with
    | some x, some T' => some ((k, x) :: T')
    | _, _ => none

end SX
end Go.Proofs.YtcbpmjfjdjpalaaGreat
