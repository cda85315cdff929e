/- An oracle that reckons what a run of operations comes to; the kernel tests it. It imports no program. -/
import Derived.Test.YthnbaikmbgaddaaGreatSxd
namespace Go.Proofs.YthnbaikmbgaddaaGreat
namespace SX
set_option linter.unusedVariables false
set_option linter.unusedSimpArgs false
open Go Go.RowKit
/-- what the oracle is told of a program's types -/
structure OTab where
  fld : List (Nat × List (Nat × Option Nat))   -- a structure's fields: offset, number of cells (none: no aggregate)
  agg : List (Nat × Nat)                       -- aggregates: number of cells
  zero : List (Nat × List Value)
  ik : List (Nat × IntKind)
  row : List (Nat × Nat × Nat)                 -- slices: the element's type, its number of cells
  nm : List (Nat × (List Value → Option (List Value)))   -- flat structures: the cells, said by their model
  loud : List Nat                              -- types that hold slices: a call that hands one back is loud
  live : List (Nat × List Nat)                 -- functions: the slots that live on behind a region
class TB (P : Program) where
  D : OTab
def lkn {α : Type} : List (Nat × α) → Nat → Option α
  | [], _ => none
  | (k, x) :: r, i => match Nat.beq k i with
    | true => some x
    | false => lkn r i
def nth {α : Type} : List α → Nat → Option α
  | [], _ => none
  | x :: _, 0 => some x
  | _ :: r, n + 1 => nth r n
def takeCs {R : Type} : Nat → List Value → (List Value → Option R) → Option R
  | 0, _, k => k []
  | _ + 1, [], k => none
  | n + 1, c :: cs, k => takeCs n cs (fun l => k (c :: l))
def dropCs {R : Type} : Nat → List Value → (List Value → Option R) → Option R
  | 0, cs, k => k cs
  | _ + 1, [], k => none
  | n + 1, _ :: cs, k => dropCs n cs k
/-- vs in the place of what lies from the o-th on -/
def putC {R : Type} : Nat → List Value → List Value → (List Value → Option R) → Option R
  | 0, cs, [], k => k cs
  | 0, [], _ :: _, k => none
  | 0, _ :: cs, v :: vs, k => putC 0 cs vs (fun l => k (v :: l))
  | _ + 1, [], _, k => none
  | n + 1, c :: cs, vs, k => putC n cs vs (fun l => k (c :: l))
def putBx {R : Type} : Bx → Nat → List Value → (Bx → Option R) → Option R
  | [], _, _, k => none
  | (t, _) :: r, 0, cs, k => k ((t, cs) :: r)
  | x :: r, i + 1, cs, k => putBx r i cs (fun l => k (x :: l))
def snocBx {R : Type} : Bx → Nat → TypeId × List Value → (Nat → Bx → Option R) → Option R
  | [], i, x, k => k i [x]
  | y :: r, i, x, k => snocBx r (i + 1) x (fun j l => k j (y :: l))
def cellsC {R : Type} (v : Value) (k : List Value → Option R) : Option R :=
  match v with
  | .agg ⟨l⟩ => k l
  | v => k [v]
def allC {α R : Type} : List α → (List α → Option R) → Option R
  | [], k => k []
  | x :: xs, k => allC xs (fun l => k (x :: l))
def appC {α R : Type} : List α → List α → (List α → Option R) → Option R
  | [], l, k => allC l k
  | x :: xs, l, k => appC xs l (fun l => k (x :: l))
/-- cells by their model, where there is one -/
def mkC {R : Type} (D : OTab) (t : TypeId) (cs : List Value) (k : List Value → Option R) : Option R :=
  match lkn D.nm t with
  | some f => match f cs with
    | some cs' => k cs'
    | none => k cs
  | none => k cs
def evC {R : Type} (T : Tm) : List Operand → (List Value → Option R) → Option R
  | [], k => k []
  | x :: xs, k => match evo T x with
    | some (.v v) => evC T xs (fun l => k (v :: l))
    | _ => none
/-- the parts of a structure, laid into its cells -/
def buildC {R : Type} (T : Tm) (fs : List (Nat × Option Nat)) : List (Nat × Operand) → List Value → (List Value → Option R) → Option R
  | [], cs, k => k cs
  | (f, x) :: r, cs, k => match nth fs f, evo T x with
    | some (o, _), some (.v v) => cellsC v (fun vs => putC o cs vs (fun cs => buildC T fs r cs k))
    | _, _ => none
def binI {R : Type} (b : BinOp) (k : IntKind) (x y : Int) (kv : Value → Option R) (kw : IntKind → Int → Option R) : Option R :=
  match b with
  | .add => kw k (x + y)
  | .sub => kw k (x - y)
  | .mul => kw k (x * y)
  | .lss => kv (.bool (decide (x < y)))
  | .leq => kv (.bool (decide (x ≤ y)))
  | .gtr => kv (.bool (decide (x > y)))
  | .geq => kv (.bool (decide (x ≥ y)))
  | .eql => kv (.bool (x == y))
  | .neq => kv (.bool (x != y))
  | _ => none
def aggV {R : Type} (n : Option Nat) (o : Nat) (cs : List Value) (kv : Value → Option R) : Option R :=
  match n with
  | none => match nth cs o with
    | some v => kv v
    | none => none
  | some n => dropCs o cs (fun l => takeCs n l (fun l => kv (.agg l.toArray)))
/-- the same out of a box: all of it as it is -/
def ldB {R : Type} (D : OTab) (t : TypeId) (cs : List Value) (o : Nat) (k : Value → Option R) : Option R :=
  match o, lkn D.agg t with
  | 0, some n => match Nat.beq n cs.length with
    | true => k (.agg cs.toArray)
    | false => aggV (some n) 0 cs k
  | o, m => aggV m o cs k
/-- one operation: the value of its slot, and the boxes -/
def orc1 {R : Type} (D : OTab) (T : Tm) (L : Bx) (op : Op) (kv : SV → Bx → Option R) (kw : IntKind → Int → Option R) : Option R :=
  match op with
  | .move x | .assign x => match evo T x with
    | some s => kv s L
    | none => none
  | .fieldAddr t x f => match evo T x, lkn D.fld t with
    | some (.p i o), some fs => match nth fs f with
      | some (k, _) => kv (.p i (o + k)) L
      | none => none
    | some (.e a c o), some fs => match nth fs f with
      | some (k, _) => kv (.e a c (o + k)) L
      | none => none
    | _, _ => none
  | .nilCheck x => match evo T x with
    | some (.p i o) => kv (.p i o) L
    | some (.e a c o) => kv (.e a c o) L
    | _ => none
  | .load t x => match evo T x with
    | some (.p i o) => match nth L i with
      | some (_, cs) => match o, lkn D.agg t with
        | 0, some n => match Nat.beq n cs.length with
          | true => kv (.v (.agg cs.toArray)) L
          | false => aggV (some n) 0 cs (fun v => kv (.v v) L)
        | o, m => aggV m o cs (fun v => kv (.v v) L)
      | none => none
    | _ => none
  | .store t x y => match evo T x, evo T y with
    | some (.p i o), some (.v v) => match nth L i with
      | some (bt, cs) => match o, lkn D.agg t with
        | 0, some n => match Nat.beq n cs.length with
          | true => cellsC v (fun vs => putBx L i vs (fun L' => kv (.v undef) L'))
          | false => cellsC v (fun vs => putC 0 cs vs (fun cs' => mkC D bt cs' (fun cs' => putBx L i cs' (fun L' => kv (.v undef) L'))))
        | o, _ => cellsC v (fun vs => putC o cs vs (fun cs' => mkC D bt cs' (fun cs' => putBx L i cs' (fun L' => kv (.v undef) L'))))
      | none => none
    | _, _ => none
  | .box t x => match evo T x with
    | some (.v v) => cellsC v (fun vs => snocBx L 0 (t, vs) (fun i L' => kv (.p i 0) L'))
    | _ => none
  | .alloc t => match lkn D.zero t with
    | some cs => snocBx L 0 (t, cs) (fun i L' => kv (.p i 0) L')
    | none => none
  | .pick c a b => match evo T c with
    | some (.v (.bool true)) => match evo T a with
      | some s => kv s L
      | none => none
    | some (.v (.bool false)) => match evo T b with
      | some s => kv s L
      | none => none
    | _ => none
  | .binOp b _ x y _ => match evo T x, evo T y with
    | some (.v (.int k x)), some (.v (.int _ y)) => binI b k x y (fun v => kv (.v v) L) kw
    | some (.v (.bool x)), some (.v (.bool y)) => match b with
      | .eql => kv (.v (.bool (x == y))) L
      | .neq => kv (.v (.bool (!(x == y)))) L
      | _ => none
    | _, _ => none
  | .unOp b _ x => match b, evo T x with
    | .not, some (.v (.bool b)) => kv (.v (.bool (!b))) L
    | .neg, some (.v (.int k x)) => kw k (0 - x)
    | _, _ => none
  | .convert _ t x => match evo T x, lkn D.ik t with
    | some (.v (.int _ z)), some k => kv (.v (.int k (IntKind.wrap k z))) L
    | some (.v (.string s)), none => kv (.v (.string s)) L
    | _, _ => none
  | .build t ps => match lkn D.fld t, lkn D.zero t with
    | some fs, some cs => buildC T fs ps.toList cs (fun cs => mkC D t cs (fun cs => kv (.v (.agg cs.toArray)) L))
    | _, _ => none
  | .field t x f => match evo T x, lkn D.fld t with
    | some (.v v), some fs => match nth fs f with
      | some (o, m) => cellsC v (fun vs => aggV m o vs (fun v => kv (.v v) L))
      | none => none
    | _, _ => none
  | .extract x i => match evo T x with
    | some (.v (.tuple vs)) => match nth vs.toList i with
      | some v => kv (.v v) L
      | none => none
    | _ => none
  | .makeFunc f _ cs => match f with
    | .func f => evC T cs.toList (fun vs => kv (.v (.func (.func f) #[] vs.toArray)) L)
    | _ => none
  | .call c => match c.callee with
    | .builtin .max => match c.args.toList with
      | [x, y] => match evo T x, evo T y with
        | some (.v (.int k a)), some (.v (.int _ b)) => kv (.v (.int k (if b > a then b else a))) L
        | _, _ => none
      | _ => none
    | .builtin .min => match c.args.toList with
      | [x, y] => match evo T x, evo T y with
        | some (.v (.int k a)), some (.v (.int _ b)) => kv (.v (.int k (if b < a then b else a))) L
        | _, _ => none
      | _ => none
    | .builtin .len => match c.args.toList with
      | x :: _ => match evo T x with
        | some (.v (.slice _ n _)) => kv (.v (.int .i64 (n : Int))) L
        | some (.v (.string s)) => kv (.v (.int .i64 (s.size : Int))) L
        | _ => none
      | [] => none
    | _ => none
  | _ => none
/-- what stands next -/
inductive Nx where
  | run (n : Nat) (T : Tm) (L : Bx)
  | wrp (n : Nat) (T : Tm) (d : Nat) (e : Int) (L : Bx)
  | fin
  | ask (d : Nat)
  | call (f : FuncId) (vs : Array Value) (d : Option Nat)
  | op (o : Op) (d : Option Nat) (ty : TypeId)
def putK {R : Type} (d : Option Nat) (s : SV) (T : Tm) (k : Tm → R) : R :=
  match d with
  | some d => k ((d, s) :: T)
  | none => k T
/-- is the operation wanted? Kn: the guards' slots that are settled (0: false, 1: true, 2: nothing) -/
def wantC {R : Type} (ops : List Oper) (Kn : List (Nat × Nat)) (o : Oper) (yes no : Unit → R) (ask : Nat → R) : R :=
  match o.guard with
  | none => yes ()
  | some (j, want) => match nth ops j with
    | some p => match p.dst with
      | none => no ()
      | some d => match lkn Kn d, want with
        | some 0, false => yes ()
        | some 0, true => no ()
        | some 1, false => no ()
        | some 1, true => yes ()
        | some _, _ => no ()
        | none, _ => ask d
    | none => no ()
def other (T : Tm) : Oper → Option Nx
  | ⟨some d, op, ty, _, _, _⟩ => match op with
    | .call c => match c.callee with
      | .value x => match evo T x with
        | some (.v (.func (.func f) _ cs)) => evC T c.args.toList (fun vs => appC vs cs.toList (fun l => some (.call f l.toArray (some d))))
        | _ => none
      | _ => some (.op op (some d) ty)
    | op => some (.op op (some d) ty)
  | ⟨none, op, ty, _, _, _⟩ => match op with
    | .call c => match c.callee with
      | .value x => match evo T x with
        | some (.v (.func (.func f) _ cs)) => evC T c.args.toList (fun vs => appC vs cs.toList (fun l => some (.call f l.toArray none)))
        | _ => none
      | _ => some (.op op none ty)
    | op => some (.op op none ty)
def runO (D : OTab) (ops : List Oper) (Kn : List (Nat × Nat)) : Nat → List Oper → Tm → Bx → Option Nx
  | 0, [], T, L => some .fin
  | n + 1, [], T, L => some (.run (n + 1) T L)
  | n, o :: os, T, L => wantC ops Kn o
      (fun _ => match orc1 D T L o.op (fun s L' => putK o.dst s T (fun T' => runO D ops Kn (n + 1) os T' L'))
          (fun k e => match k, o.dst with
            | .i64, some d => some (.wrp (n + 1) T d e L)
            | k, d => putK d (.v (.int k (IntKind.wrap k e))) T (fun T' => runO D ops Kn (n + 1) os T' L)) with
        | some x => some x
        | none => match n with
          | 0 => other T o
          | n + 1 => some (.run (n + 1) T L))
      (fun _ => putK o.dst (.v undef) T (fun T' => runO D ops Kn (n + 1) os T' L))
      (fun d => match n with
        | 0 => some (.ask d)
        | n + 1 => some (.run (n + 1) T L))
def nxt (D : OTab) (ops : Array Oper) (Kn : List (Nat × Nat)) (i : Nat) (T : Tm) (L : Bx) : Option Nx := runO D ops.toList Kn 0 (ops.toList.drop i) T L
section rules
variable {X : List Nat} {P : Program} {N : Nat} {W : World} {S0 : List Nat} {Q : Exit → Act → World → Prop} {T : Tm} {L : Bx} {C : List Ass} {ops : Array Oper} {Kn : List (Nat × Nat)} {i : Nat}
/-- the same as CODE and DONE, but closed: nothing unfolds them -/
def CD (X : List Nat) (P : Program) (N : Nat) (W : World) (S0 : List Nat) (c : Code) (Q : Exit → Act → World → Prop) (T : Tm) (L : Bx) (C : List Ass) : Prop := CODE P N W S0 c Q T L C
def DN (X : List Nat) (N : Nat) (W : World) (S0 : List Nat) (Q : Exit → Act → World → Prop) (e : Exit) (T : Tm) (L : Bx) (C : List Ass) : Prop := DONE N W S0 Q e T L C
/-- a region of ordered operations, from the i-th on -/
def OPL (X : List Nat) (P : Program) (N : Nat) (W : World) (S0 : List Nat) (ops : Array Oper) (Q : Exit → Act → World → Prop) (Kn : List (Nat × Nat)) (i : Nat) (T : Tm) (L : Bx) (C : List Ass) : Prop :=
  G N W S0 (wpOps P ops Q ((List.range ops.size).drop i)) T L C
/-- the same; x: what stands next -/
def AT (x : Nx) (X : List Nat) (P : Program) (N : Nat) (W : World) (S0 : List Nat) (ops : Array Oper) (Q : Exit → Act → World → Prop) (Kn : List (Nat × Nat)) (i : Nat) (T : Tm) (L : Bx) (C : List Ass) : Prop := OPL X P N W S0 ops Q Kn i T L C
theorem gRG {id : Nat} (k : OPL X P N W S0 ops Q [] 0 T L C) : CD X P N W S0 (.region id ops false) Q T L C := REGION _ rfl k
theorem gNXT [TB P] {x : Nx} (k : AT x X P N W S0 ops Q Kn i T L C) (h : nxt (TB.D P) ops Kn i T L = some x := by conv => lhs; whnf) : OPL X P N W S0 ops Q Kn i T L C := k
theorem drop_drop' (i n : Nat) : ((List.range ops.size).drop i).drop n = (List.range ops.size).drop (i + n) := by rw [List.drop_drop]
theorem aRUN {n : Nat} {T' : Tm} {L' : Bx} (k : OPL X P N W S0 ops Q Kn (i + n) T' L' C) (h : runP P N ops n ((List.range ops.size).drop i) T L = some (T', L') := by kernel_rfl) : AT (.run n T' L') X P N W S0 ops Q Kn i T L C :=
  runP_ok n _ h (by rw [drop_drop']; exact k)
theorem range_drop {n i : Nat} (h : i < n) : (List.range n).drop i = i :: (List.range n).drop (i + 1) := by
  rw [List.drop_eq_getElem_cons (by simpa using h)]; simp
theorem opsOne (hi : i < ops.size) (k : OP P N W S0 ops Q i (wpOps P ops Q ((List.range ops.size).drop (i + 1))) T L C) : OPL X P N W S0 ops Q Kn i T L C := by
  show G N W S0 (wpOps P ops Q ((List.range ops.size).drop i)) T L C
  rw [range_drop hi]
  exact OPC k
/-- what a test says -/
class BP (b : Bool) (p q : outParam Prop) : Prop where
  t : b = true → p
  f : b = false → q
instance (priority := 10) bpB (b : Bool) : BP b (b = true) (b = false) := ⟨id, id⟩
instance bpNot {b : Bool} {p q : Prop} [h : BP b p q] : BP (!b) q p := ⟨fun e => h.f (by simpa using e), fun e => h.t (by simpa using e)⟩
instance bpDec {p : Prop} [Decidable p] : BP (decide p) p (¬ p) := ⟨of_decide_eq_true, of_decide_eq_false⟩
instance bpEq {x y : Int} : BP (x == y) (x = y) (x ≠ y) := ⟨fun e => by simpa using e, fun e => by simpa using e⟩
instance bpNe {x y : Int} : BP (x != y) (x ≠ y) (x = y) := ⟨fun e => by simpa using e, fun e => by simpa using e⟩
/-- both ways of a test -/
def CND (b : Bool) (A B : Prop) : Prop := (b = true → A) ∧ (b = false → B)
theorem cdT {A B : Prop} (k : A) : CND true A B := ⟨fun _ => k, fun h => by cases h⟩
theorem cF {A B : Prop} (k : B) : CND false A B := ⟨fun h => (by cases h), fun _ => k⟩
theorem cNT {A B : Prop} (k : B) : CND (!true) A B := cF k
theorem cNF {A B : Prop} (k : A) : CND (!false) A B := cdT k
theorem cFK {b : Bool} {p q A B : Prop} [h : BP b p q] (k : (p → A) ∧ (q → B)) : CND b A B := ⟨fun e => k.1 (h.t e), fun e => k.2 (h.f e)⟩
/-- slot d is settled -/
theorem aASK {d : Nat} {b : Bool} (k : CND b (OPL X P N W S0 ops Q ((d, 1) :: Kn) i ((d, .v (.bool true)) :: T) L C) (OPL X P N W S0 ops Q ((d, 0) :: Kn) i ((d, .v (.bool false)) :: T) L C))
    (h : lk T d = some (.v (.bool b)) := by conv => lhs; whnf) : AT (.ask d) X P N W S0 ops Q Kn i T L C := SPLIT b h k.1 k.2
theorem aASKU {d : Nat} (k : OPL X P N W S0 ops Q ((d, 2) :: Kn) i T L C) (h : lk T d = some (.v undef) := by conv => lhs; whnf) : AT (.ask d) X P N W S0 ops Q Kn i T L C := k
theorem gCD {x : Operand} {c d : Code} {b : Bool} (k : CND b (CD X P N W S0 c Q T L C) (CD X P N W S0 d Q T L C)) (h : evv T x = some (.bool b) := by conv => lhs; whnf) : CD X P N W S0 (.cond x c d) Q T L C := IF b h k.1 k.2
theorem aWRP {n : Nat} {T' : Tm} {d : Nat} {e : Int} {L' : Bx} (k : OPL X P N W S0 ops Q Kn (i + n) ((d, .v (.int .i64 e)) :: T') L' C) (h0 : -9223372036854775808 ≤ e) (h1 : e ≤ 9223372036854775807)
    (h : runP P N ops n ((List.range ops.size).drop i) T L = some ((d, .v (.int .i64 (IntKind.wrap .i64 e))) :: T', L') := by kernel_rfl) : AT (.wrp n T' d e L') X P N W S0 ops Q Kn i T L C := by
  refine runP_ok n _ h ?_
  rw [drop_drop']
  have e1 : IntKind.wrap .i64 e = e := wr_of h0 h1
  rw [e1]
  exact k
theorem aWRX {n : Nat} {T' : Tm} {d : Nat} {e : Int} {L' : Bx} (k : OPL X P N W S0 ops Q Kn (i + n) ((d, .v (.int .i64 (wr e))) :: T') L' C)
    (h : runP P N ops n ((List.range ops.size).drop i) T L = some ((d, .v (.int .i64 (IntKind.wrap .i64 e))) :: T', L') := by kernel_rfl) : AT (.wrp n T' d e L') X P N W S0 ops Q Kn i T L C := by
  refine runP_ok n _ h ?_
  rw [drop_drop']
  exact k
theorem aWRN {n : Nat} {T' : Tm} {d m : Nat} {L' : Bx} (k : OPL X P N W S0 ops Q Kn (i + n) ((d, .v (.int .i64 ((m + 1 : Nat) : Int))) :: T') L' C) (h1 : m < 9223372036854775807)
    (h : runP P N ops n ((List.range ops.size).drop i) T L = some ((d, .v (.int .i64 (IntKind.wrap .i64 ((m : Int) + 1)))) :: T', L') := by kernel_rfl) : AT (.wrp n T' d ((m : Int) + 1) L') X P N W S0 ops Q Kn i T L C := aWRP k (by omega) (by omega) h
theorem aWRM {n : Nat} {T' : Tm} {d m : Nat} {L' : Bx} (k : OPL X P N W S0 ops Q Kn (i + n) ((d, .v (.int .i64 ((m - 1 : Nat) : Int))) :: T') L' C) (h0 : 1 ≤ m) (h1 : m < 9223372036854775807)
    (h : runP P N ops n ((List.range ops.size).drop i) T L = some ((d, .v (.int .i64 (IntKind.wrap .i64 ((m : Int) - 1)))) :: T', L') := by kernel_rfl) : AT (.wrp n T' d ((m : Int) - 1) L') X P N W S0 ops Q Kn i T L C := by
  have e : ((m : Int) - 1) = ((m - 1 : Nat) : Int) := by omega
  exact aWRP (by rw [e]; exact k) (by omega) (by omega) h
/-- contracts, by the function's number -/
class HasC (P : Program) (f : FuncId) (S : outParam Prop) : Prop where
  pf : S
theorem lt_of_blt {a b : Nat} (h : Nat.blt a b = true) : a < b := Nat.le_of_ble_eq_true h
/-- a call that takes nothing and gives one value -/
theorem aCV {f : FuncId} {S : Prop} [inst : HasC P f S] {vs : Array Value} {d : Nat} {v : Value} (k : OPL X P N W S0 ops Q Kn (i + 1) ((d, .v v) :: T) L C) (hcon : S → ∀ w, At W S0 C w → Spec P w [] f vs (RV v))
    (hi : Nat.blt i ops.size = true := by rfl) (hc : callOf P ops T i = some (f, vs, some d) := by kernel_rfl) (hd : ∀ k, some d = some k → k < N := by exact NO rfl) : AT (.call f vs (some d)) X P N W S0 ops Q Kn i T L C :=
  opsOne (lt_of_blt hi) (CALL f vs (some d) hc [] [] C rfl (RV v) (hcon inst.pf) hd fun _ => by
    show G N W S0 _ _ L (C ++ [])
    rw [List.append_nil]
    exact k)
/-- a call that takes what 'js' names, and hands back memory -/
theorem aCX {f : FuncId} {S : Prop} [inst : HasC P f S] {vs : Array Value} {d : Nat} {pre R : List Ass} {js : List Nat} {ι : Type} {val : ι → Value} {own : ι → List Ass}
    (hcon : S → ∀ w, At W S0 C w → Spec P w pre f vs ⟨ι, val, own⟩) (hp : pulls js C = some (pre, R)) (k : ∀ x, OPL X P N W S0 ops Q Kn (i + 1) ((d, .v (val x)) :: T) L (R ++ own x))
    (hi : Nat.blt i ops.size = true := by rfl) (hc : callOf P ops T i = some (f, vs, some d) := by kernel_rfl) (hd : ∀ k, some d = some k → k < N := by exact NO rfl) : AT (.call f vs (some d)) X P N W S0 ops Q Kn i T L C :=
  opsOne (lt_of_blt hi) (CALL f vs (some d) hc js pre R hp ⟨ι, val, own⟩ (hcon inst.pf) hd fun x => k x)
theorem pl0 : pulls [] C = some ([], C) := rfl
theorem plS {A : Ass} {As R C1 : List Ass} {j : Nat} {js : List Nat} (h : pull j C = some (A, C1)) (h2 : pulls js C1 = some (As, R)) : pulls (j :: js) C = some (A :: As, R) := by simp [pulls, h, h2]
theorem pu0 {A : Ass} : pull 0 (A :: C) = some (A, C) := rfl
theorem puS {A B : Ass} {R : List Ass} {j : Nat} (h : pull j C = some (A, R)) : pull (j + 1) (B :: C) = some (A, B :: R) := by simp [pull, h]
/-- the address of an element -/
theorem aIX {t : TypeId} {x ix : Operand} {d : Nat} {ty : TypeId} {a : Option Addr} {n cap : Nat} {kd : IntKind} {z : Int} {e sz : Nat} [TB P] (k : OPL X P N W S0 ops Q Kn (i + 1) ((d, .e a (z.toNat * sz) 0) :: T) L C)
    (hx : evv T x = some (.slice a n cap) := by conv => lhs; whnf) (hix : evv T ix = some (.int kd z) := by conv => lhs; whnf) (ho : lkn (TB.D P).row t = some (e, sz) := by conv => lhs; whnf)
    (ha : ∀ w, At W S0 C w → a.isSome = true) (h0 : 0 ≤ z) (hn : z < n)
    (hi : Nat.blt i ops.size = true := by rfl) (hoa : opAt ops T i = some (.indexAddr t x ix, some d, ty) := by kernel_rfl) (hd : d < N := by exact NL rfl) (hu : P.underlying t = some (.slice e) := by kernel_rfl) (hsz : (P.info? e).map (·.size) = some sz := by kernel_rfl) :
    AT (.op (.indexAddr t x ix) (some d) ty) X P N W S0 ops Q Kn i T L C :=
  opsOne (lt_of_blt hi) (FACT _ ha fun ha => INDEX t x ix d ty hoa hd a n cap kd z e sz hx hix hu hsz ha h0 hn k)
/-- the same at an index that is a natural number -/
theorem aIN {t : TypeId} {x ix : Operand} {d : Nat} {ty : TypeId} {a : Option Addr} {n cap : Nat} {kd : IntKind} {z e sz : Nat} [TB P] (k : OPL X P N W S0 ops Q Kn (i + 1) ((d, .e a (z * sz) 0) :: T) L C)
    (hix : evv T ix = some (.int kd (z : Int)) := by conv => lhs; whnf) (hx : evv T x = some (.slice a n cap) := by conv => lhs; whnf) (ho : lkn (TB.D P).row t = some (e, sz) := by conv => lhs; whnf)
    (ha : ∀ w, At W S0 C w → a.isSome = true) (hn : z < n)
    (hi : Nat.blt i ops.size = true := by rfl) (hoa : opAt ops T i = some (.indexAddr t x ix, some d, ty) := by kernel_rfl) (hd : d < N := by exact NL rfl) (hu : P.underlying t = some (.slice e) := by kernel_rfl) (hsz : (P.info? e).map (·.size) = some sz := by kernel_rfl) :
    AT (.op (.indexAddr t x ix) (some d) ty) X P N W S0 ops Q Kn i T L C :=
  opsOne (lt_of_blt hi) (FACT _ ha fun ha => INDEX t x ix d ty hoa hd a n cap kd z e sz hx hix hu hsz ha (by omega) (by omega) k)
def ldO {R : Type} (D : OTab) (t : TypeId) (cs : List Value) (o : Nat) (k : Value → Option R) : Option R := aggV (lkn D.agg t) o cs k
/-- a load out of an element of a row that is read -/
theorem aLE {t : TypeId} {x : Operand} {d : Nat} {ty : TypeId} {a : Option Addr} {j sz off : Nat} {cs : List Value} {v : Value} [TB P] (k : OPL X P N W S0 ops Q Kn (i + 1) ((d, .v v) :: T) L C)
    (hx : evo T x = some (.e a (j * sz) off) := by conv => lhs; whnf) (he : ∀ w, At W S0 C w → ElemAt w a (j * sz) cs) (hv : ldB (TB.D P) t cs off some = some v := by conv => lhs; whnf)
    (hi : Nat.blt i ops.size = true := by rfl) (ho : opAt ops T i = some (.load t x, some d, ty) := by kernel_rfl) (hd : d < N := by exact NL rfl) (hl : loadOf P t cs off = some v := by kernel_rfl) :
    AT (.op (.load t x) (some d) ty) X P N W S0 ops Q Kn i T L C :=
  opsOne (lt_of_blt hi) (LOADE t x d ty ho hd a (j * sz) off cs v hx he hl k)
/-- returns -/
def res1O (D : OTab) (T : Tm) (L : Bx) (r : ResultVar) (k : Value → Option Value) : Option Value :=
  match r with
  | .tmp t => match lk T t with
    | some (.v v) => k v
    | _ => none
  | .cell t ty => match lk T t with
    | some (.p i off) => match nth L i with
      | some (_, cs) => ldO D ty cs off k
      | none => none
    | _ => none
def resO (D : OTab) (T : Tm) (L : Bx) : List ResultVar → (List Value → Option Value) → Option Value
  | [], k => k []
  | r :: rs, k => res1O D T L r (fun v => resO D T L rs (fun vs => k (v :: vs)))
def resV (D : OTab) (fn : Func) (T : Tm) (L : Bx) : Option Value :=
  resO D T L fn.results.toList (fun vs => match vs with
    | [v] => some v
    | vs => some (.tuple vs.toArray))
/-- the value v is handed back -/
def RETG (v : Value) (r : Res) (C : List Ass) : Prop := ∃ (x : r.ι) (js : List Nat), v = r.val x ∧ (pulls js C).map (·.1) = some (r.own x)
theorem gRET [TB P] {fn : Func} {r : Res} {v : Value} (k : RETG v r C) (hq : Q .ret = bodyPost P fn (RetM S0 r W) .ret := by rfl) (hv : resV (TB.D P) fn T L = some v := by conv => lhs; whnf) (hv' : resOf fn P T L = some v := by kernel_rfl) : CD X P N W S0 .ret Q T L C := by
  obtain ⟨x, js, hx, hp⟩ := k
  exact RF hq v x js hx hp hv'
theorem rRV {v v' : Value} (h : v = v') : RETG v (RV v') C := ⟨(), [], h, rfl⟩
theorem rRVi {x y : Int} (h : x = y) : RETG (.int .i64 x) (RV (.int .i64 y)) C := rRV (by rw [h])
theorem rRVb {x y : Bool} (h : x = y) : RETG (.bool x) (RV (.bool y)) C := rRV (by rw [h])
theorem gSEQ {x y : Code} (k : CD X P N W S0 x (Exit.then (y.wp P Q) Q) T L C) : CD X P N W S0 (.seq x y) Q T L C := SEQ k
theorem gNEXT {y : Code} {Q' : Exit → Act → World → Prop} (k : CD X P N W S0 y Q T L C) : DN X N W S0 (Exit.then (y.wp P Q) Q') .normal T L C := NEXT k
theorem gSKIP (k : DN X N W S0 Q .normal T L C) : CD X P N W S0 .skip Q T L C := SKIP k
theorem gEXIT {id : Nat} (k : DN X N W S0 Q (.exit id) T L C) : CD X P N W S0 (.exit id) Q T L C := EXIT k
theorem gBLOCK {id : Nat} {c : Code} (k : CD X P N W S0 c (Exit.inBlock id Q) T L C) : CD X P N W S0 (.block id c) Q T L C := BLOCK k
theorem gPASS {K : Act → World → Prop} {id : Nat} (k : DN X N W S0 Q (.exit id) T L C) : DN X N W S0 (Exit.then K Q) (.exit id) T L C := PASS trivial k
theorem gPASR {K : Act → World → Prop} (k : DN X N W S0 Q .ret T L C) : DN X N W S0 (Exit.then K Q) .ret T L C := PASS trivial k
theorem gOUT {id : Nat} (k : DN X N W S0 Q .normal T L C) : DN X N W S0 (Exit.inBlock id Q) (.exit id) T L C := OUT k
theorem gOUTN {id : Nat} (k : DN X N W S0 Q .normal T L C) : DN X N W S0 (Exit.inBlock id Q) .normal T L C := OUTN k
theorem gOUTR {id : Nat} (k : DN X N W S0 Q .ret T L C) : DN X N W S0 (Exit.inBlock id Q) .ret T L C := OUTR k
theorem gOUTX {id id' : Nat} (k : DN X N W S0 Q (.exit id') T L C) (hne : id' ≠ id) : DN X N W S0 (Exit.inBlock id Q) (.exit id') T L C := OUTX hne k
theorem gENT [TB P] {X : List Nat} {f : FuncId} {fn : Func} {c : Code} {vs : List Value} {r : Res} (hf : P.funcs[f]? = some fn) (k : CD X P N W [] c (bodyPost P fn (RetM [] r W)) (argsT 0 vs) [] []) (hX : lkn (TB.D P).live f = some X := by conv => lhs; whnf) (hb : fn.body = some c := by rfl) (hn : fn.ntmps = N := by rfl) (hl : Nat.ble vs.length N = true := by rfl) : Spec P W [] f vs.toArray r := ENTER0 hf hb hn (Nat.le_of_ble_eq_true hl) k
end rules
end SX
end Go.Proofs.YthnbaikmbgaddaaGreat
