/- Texts of this claim, put together by program. -/
import Derived.Test.YtejojcoaohlfbaaGreatSxd
import Derived.Test.YtejojcoaohlfbaaGreatSx6
import Derived.Test.YtejojcoaohlfbaaGreatSxs
namespace Go.Proofs.YtejojcoaohlfbaaGreat
namespace SX
set_option linter.unusedVariables false
set_option linter.unusedSimpArgs false
open Go Go.RowKit
structure OTab where
 fld : List (Nat × List (Nat × Option Nat))
 agg : List (Nat × Nat)
 zero : List (Nat × List Value)
 ik : List (Nat × IntKind)
 row : List (Nat × Nat × Nat)
 nm : List (Nat × (List Value → Option (List Value)))
 loud : List Nat
 live : List (Nat × List Nat)
class TB (P : Program) where
 D : OTab
def lkn {α : Type} : List (Nat × α) → Nat → Option α
 | [], _ => none
 | (k, x) :: r, i => match Nat.beq k i with
   | true => some x
   | false => lkn r i
def nth {α : Type} : List α → Nat → Option α
 | [], _ => none
 | x :: _, 0 => some x
 | _ :: r, n + 1 => nth r n
def takeCs {R : Type} : Nat → List Value → (List Value → Option R) → Option R
 | 0, _, k => k []
 | _ + 1, [], k => none
 | n + 1, c :: cs, k => takeCs n cs (fun l => k (c :: l))
def dropCs {R : Type} : Nat → List Value → (List Value → Option R) → Option R
 | 0, cs, k => k cs
 | _ + 1, [], k => none
 | n + 1, _ :: cs, k => dropCs n cs k
def putC {R : Type} : Nat → List Value → List Value → (List Value → Option R) → Option R
 | 0, cs, [], k => k cs
 | 0, [], _ :: _, k => none
 | 0, _ :: cs, v :: vs, k => putC 0 cs vs (fun l => k (v :: l))
 | _ + 1, [], _, k => none
 | n + 1, c :: cs, vs, k => putC n cs vs (fun l => k (c :: l))
def putBx {R : Type} : Bx → Nat → List Value → (Bx → Option R) → Option R
 | [], _, _, k => none
 | (t, _) :: r, 0, cs, k => k ((t, cs) :: r)
 | x :: r, i + 1, cs, k => putBx r i cs (fun l => k (x :: l))
def snocBx {R : Type} : Bx → Nat → TypeId × List Value → (Nat → Bx → Option R) → Option R
 | [], i, x, k => k i [x]
 | y :: r, i, x, k => snocBx r (i + 1) x (fun j l => k j (y :: l))
def cellsC {R : Type} (v : Value) (k : List Value → Option R) : Option R :=
 match v with
 | .agg ⟨l⟩ => k l
 | v => k [v]
def allC {α R : Type} : List α → (List α → Option R) → Option R
 | [], k => k []
 | x :: xs, k => allC xs (fun l => k (x :: l))
def appC {α R : Type} : List α → List α → (List α → Option R) → Option R
 | [], l, k => allC l k
 | x :: xs, l, k => appC xs l (fun l => k (x :: l))
def mkC {R : Type} (D : OTab) (t : TypeId) (cs : List Value) (k : List Value → Option R) : Option R :=
 match lkn D.nm t with
 | some f => match f cs with
   | some cs' => k cs'
   | none => k cs
 | none => k cs
def evC {R : Type} (T : Tm) : List Operand → (List Value → Option R) → Option R
 | [], k => k []
 | x :: xs, k => match evo T x with
   | some (.v v) => evC T xs (fun l => k (v :: l))
   | _ => none
def buildC {R : Type} (T : Tm) (fs : List (Nat × Option Nat)) : List (Nat × Operand) → List Value → (List Value → Option R) → Option R
 | [], cs, k => k cs
 | (f, x) :: r, cs, k => match nth fs f, evo T x with
   | some (o, _), some (.v v) => cellsC v (fun vs => putC o cs vs (fun cs => buildC T fs r cs k))
   | _, _ => none
def binI {R : Type} (b : BinOp) (k : IntKind) (x y : Int) (kv : Value → Option R) (kw : IntKind → Int → Option R) : Option R :=
 match b with
 | .add => kw k (x + y)
 | .sub => kw k (x - y)
 | .mul => kw k (x * y)
 | .lss => kv (.bool (decide (x < y)))
 | .leq => kv (.bool (decide (x ≤ y)))
 | .gtr => kv (.bool (decide (x > y)))
 | .geq => kv (.bool (decide (x ≥ y)))
 | .eql => kv (.bool (x == y))
 | .neq => kv (.bool (x != y))
 | _ => none
def aggV {R : Type} (n : Option Nat) (o : Nat) (cs : List Value) (kv : Value → Option R) : Option R :=
 match n with
 | none => match nth cs o with
   | some v => kv v
   | none => none
 | some n => dropCs o cs (fun l => takeCs n l (fun l => kv (.agg l.toArray)))
def ldB {R : Type} (D : OTab) (t : TypeId) (cs : List Value) (o : Nat) (k : Value → Option R) : Option R :=
 match o, lkn D.agg t with
 | 0, some n => match Nat.beq n cs.length with
   | true => k (.agg cs.toArray)
   | false => aggV (some n) 0 cs k
 | o, m => aggV m o cs k
def orc1 {R : Type} (D : OTab) (T : Tm) (L : Bx) (op : Op) (kv : SV → Bx → Option R) (kw : IntKind → Int → Option R) : Option R :=
 match op with
 | .move x | .assign x => match evo T x with
   | some s => kv s L
   | none => none
 | .fieldAddr t x f => match evo T x, lkn D.fld t with
   | some (.p i o), some fs => match nth fs f with
     | some (k, _) => kv (.p i (o + k)) L
     | none => none
   | some (.e a c o), some fs => match nth fs f with
     | some (k, _) => kv (.e a c (o + k)) L
     | none => none
   | _, _ => none
 | .nilCheck x => match evo T x with
   | some (.p i o) => kv (.p i o) L
   | some (.e a c o) => kv (.e a c o) L
   | _ => none
 | .load t x => match evo T x with
   | some (.p i o) => match nth L i with
     | some (_, cs) => match o, lkn D.agg t with
       | 0, some n => match Nat.beq n cs.length with
         | true => kv (.v (.agg cs.toArray)) L
         | false => aggV (some n) 0 cs (fun v => kv (.v v) L)
       | o, m => aggV m o cs (fun v => kv (.v v) L)
     | none => none
   | _ => none
 | .store t x y => match evo T x, evo T y with
   | some (.p i o), some (.v v) => match nth L i with
     | some (bt, cs) => match o, lkn D.agg t with
       | 0, some n => match Nat.beq n cs.length with
         | true => cellsC v (fun vs => putBx L i vs (fun L' => kv (.v undef) L'))
         | false => cellsC v (fun vs => putC 0 cs vs (fun cs' => mkC D bt cs' (fun cs' => putBx L i cs' (fun L' => kv (.v undef) L'))))
       | o, _ => cellsC v (fun vs => putC o cs vs (fun cs' => mkC D bt cs' (fun cs' => putBx L i cs' (fun L' => kv (.v undef) L'))))
     | none => none
   | _, _ => none
 | .box t x => match evo T x with
   | some (.v v) => cellsC v (fun vs => snocBx L 0 (t, vs) (fun i L' => kv (.p i 0) L'))
   | _ => none
 | .alloc t => match lkn D.zero t with
   | some cs => snocBx L 0 (t, cs) (fun i L' => kv (.p i 0) L')
   | none => none
 | .pick c a b => match evo T c with
   | some (.v (.bool true)) => match evo T a with
     | some s => kv s L
     | none => none
   | some (.v (.bool false)) => match evo T b with
     | some s => kv s L
     | none => none
   | _ => none
 | .binOp b _ x y _ => match evo T x, evo T y with
   | some (.v (.int k x)), some (.v (.int _ y)) => binI b k x y (fun v => kv (.v v) L) kw
   | some (.v (.bool x)), some (.v (.bool y)) => match b with
     | .eql => kv (.v (.bool (x == y))) L
     | .neq => kv (.v (.bool (!(x == y)))) L
     | _ => none
   | _, _ => none
 | .unOp b _ x => match b, evo T x with
   | .not, some (.v (.bool b)) => kv (.v (.bool (!b))) L
   | .neg, some (.v (.int k x)) => kw k (0 - x)
   | _, _ => none
 | .convert _ t x => match evo T x, lkn D.ik t with
   | some (.v (.int _ z)), some k => kv (.v (.int k (IntKind.wrap k z))) L
   | some (.v (.string s)), none => kv (.v (.string s)) L
   | _, _ => none
 | .build t ps => match lkn D.fld t, lkn D.zero t with
   | some fs, some cs => buildC T fs ps.toList cs (fun cs => mkC D t cs (fun cs => kv (.v (.agg cs.toArray)) L))
   | _, _ => none
 | .field t x f => match evo T x, lkn D.fld t with
   | some (.v v), some fs => match nth fs f with
     | some (o, m) => cellsC v (fun vs => aggV m o vs (fun v => kv (.v v) L))
     | none => none
   | _, _ => none
 | .extract x i => match evo T x with
   | some (.v (.tuple vs)) => match nth vs.toList i with
     | some v => kv (.v v) L
     | none => none
   | _ => none
 | .makeFunc f _ cs => match f with
   | .func f => evC T cs.toList (fun vs => kv (.v (.func (.func f) #[] vs.toArray)) L)
   | _ => none
 | .call c => match c.callee with
   | .builtin .max => match c.args.toList with
     | [x, y] => match evo T x, evo T y with
       | some (.v (.int k a)), some (.v (.int _ b)) => kv (.v (.int k (if b > a then b else a))) L
       | _, _ => none
     | _ => none
   | .builtin .min => match c.args.toList with
     | [x, y] => match evo T x, evo T y with
       | some (.v (.int k a)), some (.v (.int _ b)) => kv (.v (.int k (if b < a then b else a))) L
       | _, _ => none
     | _ => none
   | .builtin .len => match c.args.toList with
     | x :: _ => match evo T x with
       | some (.v (.slice _ n _)) => kv (.v (.int .i64 (n : Int))) L
       | some (.v (.string s)) => kv (.v (.int .i64 (s.size : Int))) L
       | _ => none
     | [] => none
   | _ => none
 | _ => none
inductive Nx where
 | run (n : Nat) (T : Tm) (L : Bx)
 | wrp (n : Nat) (T : Tm) (d : Nat) (e : Int) (L : Bx)
 | fin
 | ask (d : Nat)
 | call (f : FuncId) (vs : Array Value) (d : Option Nat)
 | op (o : Op) (d : Option Nat) (ty : TypeId)
def putK {R : Type} (d : Option Nat) (s : SV) (T : Tm) (k : Tm → R) : R :=
 match d with
 | some d => k ((d, s) :: T)
 | none => k T
def wantC {R : Type} (ops : List Oper) (Kn : List (Nat × Nat)) (o : Oper) (yes no : Unit → R) (ask : Nat → R) : R :=
 match o.guard with
 | none => yes ()
 | some (j, want) => match nth ops j with
   | some p => match p.dst with
     | none => no ()
     | some d => match lkn Kn d, want with
       | some 0, false => yes ()
       | some 0, true => no ()
       | some 1, false => no ()
       | some 1, true => yes ()
       | some _, _ => no ()
       | none, _ => ask d
   | none => no ()
def other (T : Tm) : Oper → Option Nx
 | ⟨some d, op, ty, _, _, _⟩ => match op with
   | .call c => match c.callee with
     | .value x => match evo T x with
       | some (.v (.func (.func f) _ cs)) => evC T c.args.toList (fun vs => appC vs cs.toList (fun l => some (.call f l.toArray (some d))))
       | _ => none
     | _ => some (.op op (some d) ty)
   | op => some (.op op (some d) ty)
 | ⟨none, op, ty, _, _, _⟩ => match op with
   | .call c => match c.callee with
     | .value x => match evo T x with
       | some (.v (.func (.func f) _ cs)) => evC T c.args.toList (fun vs => appC vs cs.toList (fun l => some (.call f l.toArray none)))
       | _ => none
     | _ => some (.op op none ty)
   | op => some (.op op none ty)
def runO (D : OTab) (ops : List Oper) (Kn : List (Nat × Nat)) : Nat → List Oper → Tm → Bx → Option Nx
 | 0, [], T, L => some .fin
 | n + 1, [], T, L => some (.run (n + 1) T L)
 | n, o :: os, T, L => wantC ops Kn o
    (fun _ => match orc1 D T L o.op (fun s L' => putK o.dst s T (fun T' => runO D ops Kn (n + 1) os T' L'))
      (fun k e => match k, o.dst with
        | .i64, some d => some (.wrp (n + 1) T d e L)
        | k, d => putK d (.v (.int k (IntKind.wrap k e))) T (fun T' => runO D ops Kn (n + 1) os T' L)) with
      | some x => some x
      | none => match n with
        | 0 => other T o
        | n + 1 => some (.run (n + 1) T L))
    (fun _ => putK o.dst (.v undef) T (fun T' => runO D ops Kn (n + 1) os T' L))
    (fun d => match n with
      | 0 => some (.ask d)
      | n + 1 => some (.run (n + 1) T L))
def nxt (D : OTab) (ops : Array Oper) (Kn : List (Nat × Nat)) (i : Nat) (T : Tm) (L : Bx) : Option Nx := runO D ops.toList Kn 0 (ops.toList.drop i) T L
section rules
variable {X : List Nat} {P : Program} {N : Nat} {W : World} {S0 : List Nat} {Q : Exit → Act → World → Prop} {T : Tm} {L : Bx} {C : List Ass} {ops : Array Oper} {Kn : List (Nat × Nat)} {i : Nat}
def CD (X : List Nat) (P : Program) (N : Nat) (W : World) (S0 : List Nat) (c : Code) (Q : Exit → Act → World → Prop) (T : Tm) (L : Bx) (C : List Ass) : Prop := CODE P N W S0 c Q T L C
def DN (X : List Nat) (N : Nat) (W : World) (S0 : List Nat) (Q : Exit → Act → World → Prop) (e : Exit) (T : Tm) (L : Bx) (C : List Ass) : Prop := DONE N W S0 Q e T L C
def OPL (X : List Nat) (P : Program) (N : Nat) (W : World) (S0 : List Nat) (ops : Array Oper) (Q : Exit → Act → World → Prop) (Kn : List (Nat × Nat)) (i : Nat) (T : Tm) (L : Bx) (C : List Ass) : Prop :=
 G N W S0 (wpOps P ops Q ((List.range ops.size).drop i)) T L C
def AT (x : Nx) (X : List Nat) (P : Program) (N : Nat) (W : World) (S0 : List Nat) (ops : Array Oper) (Q : Exit → Act → World → Prop) (Kn : List (Nat × Nat)) (i : Nat) (T : Tm) (L : Bx) (C : List Ass) : Prop := OPL X P N W S0 ops Q Kn i T L C
theorem gRG {id : Nat} (k : OPL X P N W S0 ops Q [] 0 T L C) : CD X P N W S0 (.region id ops false) Q T L C := REGION _ rfl k
theorem gNXT [TB P] {x : Nx} (k : AT x X P N W S0 ops Q Kn i T L C) (h : nxt (TB.D P) ops Kn i T L = some x := by conv => lhs; whnf) : OPL X P N W S0 ops Q Kn i T L C := k
theorem drop_drop' (i n : Nat) : ((List.range ops.size).drop i).drop n = (List.range ops.size).drop (i + n) := by rw [List.drop_drop]
theorem aRUN {n : Nat} {T' : Tm} {L' : Bx} (k : OPL X P N W S0 ops Q Kn (i + n) T' L' C) (h : runP P N ops n ((List.range ops.size).drop i) T L = some (T', L') := by kernel_rfl) : AT (.run n T' L') X P N W S0 ops Q Kn i T L C :=
 runP_ok n _ h (by rw [drop_drop']; exact k)
theorem range_drop {n i : Nat} (h : i < n) : (List.range n).drop i = i :: (List.range n).drop (i + 1) := by
 rw [List.drop_eq_getElem_cons (by simpa using h)]; simp
theorem opsOne (hi : i < ops.size) (k : OP P N W S0 ops Q i (wpOps P ops Q ((List.range ops.size).drop (i + 1))) T L C) : OPL X P N W S0 ops Q Kn i T L C := by
 show G N W S0 (wpOps P ops Q ((List.range ops.size).drop i)) T L C
 rw [range_drop hi]
 exact OPC k
class BP (b : Bool) (p q : outParam Prop) : Prop where
 t : b = true → p
 f : b = false → q
instance (priority := 10) bpB (b : Bool) : BP b (b = true) (b = false) := ⟨id, id⟩
instance bpNot {b : Bool} {p q : Prop} [h : BP b p q] : BP (!b) q p := ⟨fun e => h.f (by simpa using e), fun e => h.t (by simpa using e)⟩
instance bpDec {p : Prop} [Decidable p] : BP (decide p) p (¬ p) := ⟨of_decide_eq_true, of_decide_eq_false⟩
instance bpEq {x y : Int} : BP (x == y) (x = y) (x ≠ y) := ⟨fun e => by simpa using e, fun e => by simpa using e⟩
instance bpNe {x y : Int} : BP (x != y) (x ≠ y) (x = y) := ⟨fun e => by simpa using e, fun e => by simpa using e⟩
def CND (b : Bool) (A B : Prop) : Prop := (b = true → A) ∧ (b = false → B)
theorem cdT {A B : Prop} (k : A) : CND true A B := ⟨fun _ => k, fun h => by cases h⟩
theorem cF {A B : Prop} (k : B) : CND false A B := ⟨fun h => (by cases h), fun _ => k⟩
theorem cNT {A B : Prop} (k : B) : CND (!true) A B := cF k
theorem cNF {A B : Prop} (k : A) : CND (!false) A B := cdT k
theorem cFK {b : Bool} {p q A B : Prop} [h : BP b p q] (k : (p → A) ∧ (q → B)) : CND b A B := ⟨fun e => k.1 (h.t e), fun e => k.2 (h.f e)⟩
theorem aASK {d : Nat} {b : Bool} (k : CND b (OPL X P N W S0 ops Q ((d, 1) :: Kn) i ((d, .v (.bool true)) :: T) L C) (OPL X P N W S0 ops Q ((d, 0) :: Kn) i ((d, .v (.bool false)) :: T) L C))
 (h : lk T d = some (.v (.bool b)) := by conv => lhs; whnf) : AT (.ask d) X P N W S0 ops Q Kn i T L C := SPLIT b h k.1 k.2
theorem aASKU {d : Nat} (k : OPL X P N W S0 ops Q ((d, 2) :: Kn) i T L C) (h : lk T d = some (.v undef) := by conv => lhs; whnf) : AT (.ask d) X P N W S0 ops Q Kn i T L C := k
theorem gCD {x : Operand} {c d : Code} {b : Bool} (k : CND b (CD X P N W S0 c Q T L C) (CD X P N W S0 d Q T L C)) (h : evv T x = some (.bool b) := by conv => lhs; whnf) : CD X P N W S0 (.cond x c d) Q T L C := IF b h k.1 k.2
theorem aWRP {n : Nat} {T' : Tm} {d : Nat} {e : Int} {L' : Bx} (k : OPL X P N W S0 ops Q Kn (i + n) ((d, .v (.int .i64 e)) :: T') L' C) (h0 : -9223372036854775808 ≤ e) (h1 : e ≤ 9223372036854775807)
 (h : runP P N ops n ((List.range ops.size).drop i) T L = some ((d, .v (.int .i64 (IntKind.wrap .i64 e))) :: T', L') := by kernel_rfl) : AT (.wrp n T' d e L') X P N W S0 ops Q Kn i T L C := by
 refine runP_ok n _ h ?_
 rw [drop_drop']
 have e1 : IntKind.wrap .i64 e = e := wr_of h0 h1
 rw [e1]
 exact k
theorem aWRX {n : Nat} {T' : Tm} {d : Nat} {e : Int} {L' : Bx} (k : OPL X P N W S0 ops Q Kn (i + n) ((d, .v (.int .i64 (wr e))) :: T') L' C)
 (h : runP P N ops n ((List.range ops.size).drop i) T L = some ((d, .v (.int .i64 (IntKind.wrap .i64 e))) :: T', L') := by kernel_rfl) : AT (.wrp n T' d e L') X P N W S0 ops Q Kn i T L C := by
 refine runP_ok n _ h ?_
 rw [drop_drop']
 exact k
theorem aWRN {n : Nat} {T' : Tm} {d m : Nat} {L' : Bx} (k : OPL X P N W S0 ops Q Kn (i + n) ((d, .v (.int .i64 ((m + 1 : Nat) : Int))) :: T') L' C) (h1 : m < 9223372036854775807)
 (h : runP P N ops n ((List.range ops.size).drop i) T L = some ((d, .v (.int .i64 (IntKind.wrap .i64 ((m : Int) + 1)))) :: T', L') := by kernel_rfl) : AT (.wrp n T' d ((m : Int) + 1) L') X P N W S0 ops Q Kn i T L C := aWRP k (by omega) (by omega) h
theorem aWRM {n : Nat} {T' : Tm} {d m : Nat} {L' : Bx} (k : OPL X P N W S0 ops Q Kn (i + n) ((d, .v (.int .i64 ((m - 1 : Nat) : Int))) :: T') L' C) (h0 : 1 ≤ m) (h1 : m < 9223372036854775807)
 (h : runP P N ops n ((List.range ops.size).drop i) T L = some ((d, .v (.int .i64 (IntKind.wrap .i64 ((m : Int) - 1)))) :: T', L') := by kernel_rfl) : AT (.wrp n T' d ((m : Int) - 1) L') X P N W S0 ops Q Kn i T L C := by
 have e : ((m : Int) - 1) = ((m - 1 : Nat) : Int) := by omega
 exact aWRP (by rw [e]; exact k) (by omega) (by omega) h
class HasC (P : Program) (f : FuncId) (S : outParam Prop) : Prop where
 pf : S
theorem lt_of_blt {a b : Nat} (h : Nat.blt a b = true) : a < b := Nat.le_of_ble_eq_true h
theorem aCV {f : FuncId} {S : Prop} [inst : HasC P f S] {vs : Array Value} {d : Nat} {v : Value} (k : OPL X P N W S0 ops Q Kn (i + 1) ((d, .v v) :: T) L C) (hcon : S → ∀ w, At W S0 C w → Spec P w [] f vs (RV v))
 (hi : Nat.blt i ops.size = true := by rfl) (hc : callOf P ops T i = some (f, vs, some d) := by kernel_rfl) (hd : ∀ k, some d = some k → k < N := by exact NO rfl) : AT (.call f vs (some d)) X P N W S0 ops Q Kn i T L C :=
 opsOne (lt_of_blt hi) (CALL f vs (some d) hc [] [] C rfl (RV v) (hcon inst.pf) hd fun _ => by
  show G N W S0 _ _ L (C ++ [])
  rw [List.append_nil]
  exact k)
theorem aCX {f : FuncId} {S : Prop} [inst : HasC P f S] {vs : Array Value} {d : Nat} {pre R : List Ass} {js : List Nat} {ι : Type} {val : ι → Value} {own : ι → List Ass}
 (hcon : S → ∀ w, At W S0 C w → Spec P w pre f vs ⟨ι, val, own⟩) (hp : pulls js C = some (pre, R)) (k : ∀ x, OPL X P N W S0 ops Q Kn (i + 1) ((d, .v (val x)) :: T) L (R ++ own x))
 (hi : Nat.blt i ops.size = true := by rfl) (hc : callOf P ops T i = some (f, vs, some d) := by kernel_rfl) (hd : ∀ k, some d = some k → k < N := by exact NO rfl) : AT (.call f vs (some d)) X P N W S0 ops Q Kn i T L C :=
 opsOne (lt_of_blt hi) (CALL f vs (some d) hc js pre R hp ⟨ι, val, own⟩ (hcon inst.pf) hd fun x => k x)
theorem pl0 : pulls [] C = some ([], C) := rfl
theorem plS {A : Ass} {As R C1 : List Ass} {j : Nat} {js : List Nat} (h : pull j C = some (A, C1)) (h2 : pulls js C1 = some (As, R)) : pulls (j :: js) C = some (A :: As, R) := by simp [pulls, h, h2]
theorem pu0 {A : Ass} : pull 0 (A :: C) = some (A, C) := rfl
theorem puS {A B : Ass} {R : List Ass} {j : Nat} (h : pull j C = some (A, R)) : pull (j + 1) (B :: C) = some (A, B :: R) := by simp [pull, h]
theorem aIX {t : TypeId} {x ix : Operand} {d : Nat} {ty : TypeId} {a : Option Addr} {n cap : Nat} {kd : IntKind} {z : Int} {e sz : Nat} [TB P] (k : OPL X P N W S0 ops Q Kn (i + 1) ((d, .e a (z.toNat * sz) 0) :: T) L C)
 (hx : evv T x = some (.slice a n cap) := by conv => lhs; whnf) (hix : evv T ix = some (.int kd z) := by conv => lhs; whnf) (ho : lkn (TB.D P).row t = some (e, sz) := by conv => lhs; whnf)
 (ha : ∀ w, At W S0 C w → a.isSome = true) (h0 : 0 ≤ z) (hn : z < n)
 (hi : Nat.blt i ops.size = true := by rfl) (hoa : opAt ops T i = some (.indexAddr t x ix, some d, ty) := by kernel_rfl) (hd : d < N := by exact NL rfl) (hu : P.underlying t = some (.slice e) := by kernel_rfl) (hsz : (P.info? e).map (·.size) = some sz := by kernel_rfl) :
 AT (.op (.indexAddr t x ix) (some d) ty) X P N W S0 ops Q Kn i T L C :=
 opsOne (lt_of_blt hi) (FACT _ ha fun ha => INDEX t x ix d ty hoa hd a n cap kd z e sz hx hix hu hsz ha h0 hn k)
theorem aIN {t : TypeId} {x ix : Operand} {d : Nat} {ty : TypeId} {a : Option Addr} {n cap : Nat} {kd : IntKind} {z e sz : Nat} [TB P] (k : OPL X P N W S0 ops Q Kn (i + 1) ((d, .e a (z * sz) 0) :: T) L C)
 (hix : evv T ix = some (.int kd (z : Int)) := by conv => lhs; whnf) (hx : evv T x = some (.slice a n cap) := by conv => lhs; whnf) (ho : lkn (TB.D P).row t = some (e, sz) := by conv => lhs; whnf)
 (ha : ∀ w, At W S0 C w → a.isSome = true) (hn : z < n)
 (hi : Nat.blt i ops.size = true := by rfl) (hoa : opAt ops T i = some (.indexAddr t x ix, some d, ty) := by kernel_rfl) (hd : d < N := by exact NL rfl) (hu : P.underlying t = some (.slice e) := by kernel_rfl) (hsz : (P.info? e).map (·.size) = some sz := by kernel_rfl) :
 AT (.op (.indexAddr t x ix) (some d) ty) X P N W S0 ops Q Kn i T L C :=
 opsOne (lt_of_blt hi) (FACT _ ha fun ha => INDEX t x ix d ty hoa hd a n cap kd z e sz hx hix hu hsz ha (by omega) (by omega) k)
def ldO {R : Type} (D : OTab) (t : TypeId) (cs : List Value) (o : Nat) (k : Value → Option R) : Option R := aggV (lkn D.agg t) o cs k
theorem aLE {t : TypeId} {x : Operand} {d : Nat} {ty : TypeId} {a : Option Addr} {j sz off : Nat} {cs : List Value} {v : Value} [TB P] (k : OPL X P N W S0 ops Q Kn (i + 1) ((d, .v v) :: T) L C)
 (hx : evo T x = some (.e a (j * sz) off) := by conv => lhs; whnf) (he : ∀ w, At W S0 C w → ElemAt w a (j * sz) cs) (hv : ldB (TB.D P) t cs off some = some v := by conv => lhs; whnf)
 (hi : Nat.blt i ops.size = true := by rfl) (ho : opAt ops T i = some (.load t x, some d, ty) := by kernel_rfl) (hd : d < N := by exact NL rfl) (hl : loadOf P t cs off = some v := by kernel_rfl) :
 AT (.op (.load t x) (some d) ty) X P N W S0 ops Q Kn i T L C :=
 opsOne (lt_of_blt hi) (LOADE t x d ty ho hd a (j * sz) off cs v hx he hl k)
def res1O (D : OTab) (T : Tm) (L : Bx) (r : ResultVar) (k : Value → Option Value) : Option Value :=
 match r with
 | .tmp t => match lk T t with
   | some (.v v) => k v
   | _ => none
 | .cell t ty => match lk T t with
   | some (.p i off) => match nth L i with
     | some (_, cs) => ldO D ty cs off k
     | none => none
   | _ => none
def resO (D : OTab) (T : Tm) (L : Bx) : List ResultVar → (List Value → Option Value) → Option Value
 | [], k => k []
 | r :: rs, k => res1O D T L r (fun v => resO D T L rs (fun vs => k (v :: vs)))
def resV (D : OTab) (fn : Func) (T : Tm) (L : Bx) : Option Value :=
 resO D T L fn.results.toList (fun vs => match vs with
  | [v] => some v
  | vs => some (.tuple vs.toArray))
def RETG (v : Value) (r : Res) (C : List Ass) : Prop := ∃ (x : r.ι) (js : List Nat), v = r.val x ∧ (pulls js C).map (·.1) = some (r.own x)
theorem gRET [TB P] {fn : Func} {r : Res} {v : Value} (k : RETG v r C) (hq : Q .ret = bodyPost P fn (RetM S0 r W) .ret := by rfl) (hv : resV (TB.D P) fn T L = some v := by conv => lhs; whnf) (hv' : resOf fn P T L = some v := by kernel_rfl) : CD X P N W S0 .ret Q T L C := by
 obtain ⟨x, js, hx, hp⟩ := k
 exact RF hq v x js hx hp hv'
theorem rRV {v v' : Value} (h : v = v') : RETG v (RV v') C := ⟨(), [], h, rfl⟩
theorem rRVi {x y : Int} (h : x = y) : RETG (.int .i64 x) (RV (.int .i64 y)) C := rRV (by rw [h])
theorem rRVb {x y : Bool} (h : x = y) : RETG (.bool x) (RV (.bool y)) C := rRV (by rw [h])
theorem gSEQ {x y : Code} (k : CD X P N W S0 x (Exit.then (y.wp P Q) Q) T L C) : CD X P N W S0 (.seq x y) Q T L C := SEQ k
theorem gNEXT {y : Code} {Q' : Exit → Act → World → Prop} (k : CD X P N W S0 y Q T L C) : DN X N W S0 (Exit.then (y.wp P Q) Q') .normal T L C := NEXT k
theorem gSKIP (k : DN X N W S0 Q .normal T L C) : CD X P N W S0 .skip Q T L C := SKIP k
theorem gEXIT {id : Nat} (k : DN X N W S0 Q (.exit id) T L C) : CD X P N W S0 (.exit id) Q T L C := EXIT k
theorem gBLOCK {id : Nat} {c : Code} (k : CD X P N W S0 c (Exit.inBlock id Q) T L C) : CD X P N W S0 (.block id c) Q T L C := BLOCK k
theorem gPASS {K : Act → World → Prop} {id : Nat} (k : DN X N W S0 Q (.exit id) T L C) : DN X N W S0 (Exit.then K Q) (.exit id) T L C := PASS trivial k
theorem gPASR {K : Act → World → Prop} (k : DN X N W S0 Q .ret T L C) : DN X N W S0 (Exit.then K Q) .ret T L C := PASS trivial k
theorem gOUT {id : Nat} (k : DN X N W S0 Q .normal T L C) : DN X N W S0 (Exit.inBlock id Q) (.exit id) T L C := OUT k
theorem gOUTN {id : Nat} (k : DN X N W S0 Q .normal T L C) : DN X N W S0 (Exit.inBlock id Q) .normal T L C := OUTN k
theorem gOUTR {id : Nat} (k : DN X N W S0 Q .ret T L C) : DN X N W S0 (Exit.inBlock id Q) .ret T L C := OUTR k
theorem gOUTX {id id' : Nat} (k : DN X N W S0 Q (.exit id') T L C) (hne : id' ≠ id) : DN X N W S0 (Exit.inBlock id Q) (.exit id') T L C := OUTX hne k
theorem gENT [TB P] {X : List Nat} {f : FuncId} {fn : Func} {c : Code} {vs : List Value} {r : Res} (hf : P.funcs[f]? = some fn) (k : CD X P N W [] c (bodyPost P fn (RetM [] r W)) (argsT 0 vs) [] []) (hX : lkn (TB.D P).live f = some X := by conv => lhs; whnf) (hb : fn.body = some c := by rfl) (hn : fn.ntmps = N := by rfl) (hl : Nat.ble vs.length N = true := by rfl) : Spec P W [] f vs.toArray r := ENTER0 hf hb hn (Nat.le_of_ble_eq_true hl) k
end rules
instance bpLtN {a b : Nat} : BP (decide ((a : Int) < (b : Int))) (a < b) (¬ a < b) := ⟨fun e => by have := of_decide_eq_true e; omega, fun e => by have := of_decide_eq_false e; omega⟩
instance bpGtN {a b : Nat} : BP (decide ((a : Int) > (b : Int))) (b < a) (¬ b < a) := ⟨fun e => by have := of_decide_eq_true e; omega, fun e => by have := of_decide_eq_false e; omega⟩
instance bpLeN {a b : Nat} : BP (decide ((a : Int) ≤ (b : Int))) (a ≤ b) (¬ a ≤ b) := ⟨fun e => by have := of_decide_eq_true e; omega, fun e => by have := of_decide_eq_false e; omega⟩
instance bpGeN {a b : Nat} : BP (decide ((a : Int) ≥ (b : Int))) (b ≤ a) (¬ b ≤ a) := ⟨fun e => by have := of_decide_eq_true e; omega, fun e => by have := of_decide_eq_false e; omega⟩
instance bpGt0 {a : Nat} : BP (decide ((a : Int) > 0)) (0 < a) (a = 0) := ⟨fun e => by have := of_decide_eq_true e; omega, fun e => by have := of_decide_eq_false e; omega⟩
instance bpEqN {a b : Nat} : BP ((a : Int) == (b : Int)) (a = b) (a ≠ b) := ⟨fun e => by simp at e; omega, fun e => by simp at e; omega⟩
instance bpNeN {a b : Nat} : BP ((a : Int) != (b : Int)) (a ≠ b) (a = b) := ⟨fun e => by simp at e; omega, fun e => by simp at e; omega⟩
theorem keep_keys {T : Tm} : ∀ (ks : List Nat), (∀ k ∈ ks, (lk T k).isSome = true) → (keep T ks).isSome = true
 | [], _ => rfl
 | k :: ks, h => by
   have h1 := h k (by simp)
   have h2 := keep_keys ks (fun j hj => h j (by simp [hj]))
   simp only [keep]
   cases h3 : lk T k with
   | none => simp [h3] at h1
   | some x => cases h4 : keep T ks with
     | none => simp [h4] at h2
     | some y => rfl
theorem lk_key : ∀ {T : Tm} {i : Nat}, i ∈ T.map (·.1) → (lk T i).isSome = true
 | (k, x) :: T, i, h => by
   simp only [lk]
   split
   · rfl
   · rename_i hk
     simp only [List.map_cons, List.mem_cons] at h
     rcases h with h | h
     · subst h; simp at hk
     · exact lk_key h
theorem sub_ok {T T1 : Tm} (h : keep T1 (T.map (·.1)) = keep T (T.map (·.1))) : ∀ i x, lk T i = some x → lk T1 i = some x := by
 intro i x hx
 have hm : i ∈ T.map (·.1) := List.mem_map.2 ⟨(i, x), lk_mem hx, rfl⟩
 have hs := keep_keys (T := T) (T.map (·.1)) (fun k hk => lk_key hk)
 obtain ⟨U, hU⟩ := Option.isSome_iff_exists.1 hs
 have e1 := keep_ok hU
 rw [hU] at h
 have e2 := keep_ok h
 have h3 := keep_has hU i hm
 obtain ⟨y, hy⟩ := Option.isSome_iff_exists.1 h3
 have h4 := e1 i y hy
 rw [hx] at h4
 rw [e2 i y hy, ← h4]
section rules
variable {X : List Nat} {P : Program} {N : Nat} {W : World} {S0 : List Nat} {Q : Exit → Act → World → Prop} {T : Tm} {L : Bx} {C : List Ass} {ops : Array Oper} {Kn : List (Nat × Nat)} {i : Nat}
theorem Sat.into {a : Act} {w : World} {T' : Tm} {L' : Bx} {C' R : List Ass} {js : List Nat} (h : Sat N W S0 T L C a w) (hT : SX.keep T (T'.map (·.1)) = SX.keep T' (T'.map (·.1))) (hn : boundedB L'.length T' = true) (hL : L.take L'.length = L') (hC : pulls js C = some (C', R)) :
 Sat N W S0 T' L' C' a w := by
 have hs := keep_keys (T := T') (T'.map (·.1)) (fun k hk => lk_key hk)
 obtain ⟨U, hU⟩ := Option.isSome_iff_exists.1 hs
 have hlen : L'.length ≤ L.length := by rw [← hL, List.length_take]; omega
 have hb := boundedB_ok hn
 obtain ⟨bs, fps, ht, hbd, hm⟩ := h
 have h2 : Sat N W S0 T' L C a w := ⟨bs, fps, ⟨ht.1, ht.2.1, fun i x hx => ht.2.2 i x (sub_ok hT i x hx)⟩, hb.mono hlen, hm⟩
 obtain ⟨V, hV⟩ : ∃ V, SX.keep T' (T'.map (·.1)) = some V := ⟨U, hU⟩
 have h3 := h2.less (ks := T'.map (·.1)) L'.length (L' := L') (js := js) (C' := C') (R := R) hV ?_ hL hC
 · obtain ⟨bs', fps', ht', hbd', hm'⟩ := h3
   refine ⟨bs', fps', ⟨ht'.1, ht'.2.1, fun i x hx => ht'.2.2 i x ?_⟩, hb, hm'⟩
   have hm9 : i ∈ T'.map (·.1) := List.mem_map.2 ⟨(i, x), lk_mem hx, rfl⟩
   have h5 := keep_has hV i hm9
   obtain ⟨y, hy⟩ := Option.isSome_iff_exists.1 h5
   have h6 := keep_ok hV i y hy
   rw [hx] at h6
   rw [hy, h6]
 · have : ∀ (ks : List Nat) (V : Tm), SX.keep T' ks = some V → boundedB L'.length V = true := by
    intro ks
    induction ks with
    | nil => intro V h; simp [SX.keep] at h; subst h; rfl
    | cons k r ih =>
      intro V h
      simp only [SX.keep] at h
      split at h
      · rename_i x V' hx hk
        injection h with h
        subst h
        have := ih V' hk
        cases x with
        | v _ => exact this
        | e _ _ _ => exact this
        | p i off =>
          simp only [boundedB, Bool.and_eq_true, decide_eq_true_eq]
          exact ⟨hb.all _ _ hx i off rfl, this⟩
      · cases h
   exact this _ _ hV
def memN : List Nat → Nat → Bool
 | [], _ => false
 | k :: r, i => match Nat.beq k i with
   | true => true
   | false => memN r i
def prune (X : List Nat) : List Nat → Tm → (Tm → Option Tm) → Option Tm
 | _, [], k => k []
 | seen, (d, s) :: T, k => match memN X d, memN seen d with
   | true, false => prune X (d :: seen) T (fun l => k ((d, s) :: l))
   | _, _ => prune X seen T k
theorem aFIN {T' : Tm} (k : DN X N W S0 Q .normal T' L C) (hp : prune X [] T some = some T' := by conv => lhs; whnf) (hT : keep T (T'.map (·.1)) = keep T' (T'.map (·.1)) := by kernel_rfl) (hn : boundedB L.length T' = true := by kernel_rfl) (h : Nat.ble ops.size i = true := by rfl) : AT .fin X P N W S0 ops Q Kn i T L C := by
 show G N W S0 (wpOps P ops Q ((List.range ops.size).drop i)) T L C
 rw [List.drop_eq_nil_of_le (by rw [List.length_range]; exact Nat.le_of_ble_eq_true h)]
 refine ENDOPS fun a w h => k a w ?_
 obtain ⟨bs, fps, ht, hb, hm⟩ := h
 exact ⟨bs, fps, ⟨ht.1, ht.2.1, fun i x hx => ht.2.2 i x (sub_ok hT i x hx)⟩, boundedB_ok hn, hm⟩
def BKP (N : Nat) (W : World) (S0 : List Nat) {ι : Type} (Tf : ι → Tm) (Lf : ι → Bx) (Cf : ι → List Ass) (Inv : ι → Prop) (m : ι → Nat) (j : ι) : Act → World → Prop :=
 fun a w => ∃ j', Inv j' ∧ m j' < m j ∧ Sat N W S0 (Tf j') (Lf j') (Cf j') a w
theorem gLOOP {c : Code} {ι : Type} (Tf : ι → Tm) (Lf : ι → Bx) (Cf : ι → List Ass) (Inv : ι → Prop) (m : ι → Nat) (j0 : ι) (h0 : Inv j0)
 (body : ∀ j, Inv j → CD X P N W S0 c (Exit.then (BKP N W S0 Tf Lf Cf Inv m j) Q) (Tf j) (Lf j) (Cf j)) (hT : keep T ((Tf j0).map (·.1)) = keep (Tf j0) ((Tf j0).map (·.1)) := by kernel_rfl) (hn : boundedB (Lf j0).length (Tf j0) = true := by kernel_rfl) (hL : L = Lf j0 := by rfl) (hC : C = Cf j0 := by rfl) : CD X P N W S0 (.loop c) Q T L C := by
 unfold CD at *
 intro a w h
 subst hL
 subst hC
 let p : Act → World → Nat → Prop := fun a w n => ∃ j, Inv j ∧ m j = n ∧ Sat N W S0 (Tf j) (Lf j) (Cf j) a w
 have hs : Sat N W S0 (Tf j0) (Lf j0) (Cf j0) a w := by
  obtain ⟨bs, fps, ht, hb, hm⟩ := h
  exact ⟨bs, fps, ⟨ht.1, ht.2.1, fun i x hx => ht.2.2 i x (sub_ok hT i x hx)⟩, boundedB_ok hn, hm⟩
 refine wp_loop (fun a w => ∃ n, p a w n) (fun a w => leastOf (p a w)) ⟨_, j0, h0, rfl, hs⟩ ?_
 intro a w hI
 obtain ⟨⟨j, hj, hmj, hs⟩, _⟩ := leastOf_spec hI
 refine wp_mono (body j hj a w hs) ?_
 intro e a' w' hq
 cases e with
 | normal =>
   obtain ⟨j', h1, h2, h3⟩ := hq
   have hI' : ∃ n, p a' w' n := ⟨_, j', h1, rfl, h3⟩
   refine ⟨hI', ?_⟩
   have := (leastOf_spec hI').2 _ ⟨j', h1, rfl, h3⟩
   show leastOf (p a' w') < leastOf (p a w)
   omega
 | _ => exact hq
theorem gBACK {ι : Type} {Tf : ι → Tm} {Lf : ι → Bx} {Cf : ι → List Ass} {Inv : ι → Prop} {m : ι → Nat} {j j' : ι} {js : List Nat} {R : List Ass} (h0 : Inv j') (hm : m j' < m j) (hC : pulls js C = some (Cf j', R)) (hT : keep T ((Tf j').map (·.1)) = keep (Tf j') ((Tf j').map (·.1)) := by kernel_rfl)
 (hn : boundedB (Lf j').length (Tf j') = true := by kernel_rfl) (hL : L.take (Lf j').length = Lf j' := by kernel_rfl) : DN X N W S0 (Exit.then (BKP N W S0 Tf Lf Cf Inv m j) Q) .normal T L C :=
 fun a w h => ⟨j', h0, hm, h.into hT hn hL hC⟩
def zeros : List Ass → List Nat
 | [] => []
 | _ :: C => 0 :: zeros C
theorem pulls_zeros : ∀ (C R : List Ass), pulls (zeros C) (C ++ R) = some (C, R)
 | [], R => rfl
 | A :: C, R => by simp [zeros, pulls, pull, pulls_zeros C R]
def FORT (s : Nat) (T : Tm) (k : Nat) : Tm := (s, I (k : Int)) :: T
def FORI (n : Nat) (Inv : Nat → Prop) (k : Nat) : Prop := k ≤ n ∧ Inv k
theorem gFOR {c : Code} (s n : Nat) (Inv : Nat → Prop) (h0 : Inv 0)
 (body : ∀ k : Nat, k ≤ n → Inv k → CD X P N W S0 c (Exit.then (BKP N W S0 (FORT s T) (fun _ => L) (fun _ => C) (FORI n Inv) (fun k => n - k) k) Q) ((s, I (k : Int)) :: T) L C)
 (hT : keep T ((FORT s T 0).map (·.1)) = keep (FORT s T 0) ((FORT s T 0).map (·.1)) := by kernel_rfl) (hn : boundedB L.length (FORT s T 0) = true := by kernel_rfl) : CD X P N W S0 (.loop c) Q T L C :=
 gLOOP (FORT s T) (fun _ => L) (fun _ => C) (FORI n Inv) (fun k => n - k) 0 ⟨Nat.zero_le _, h0⟩ (fun k hk => body k hk.1 hk.2) hT hn
theorem gFBACK {n k s : Nat} {Inv : Nat → Prop} {T1 : Tm} {L1 : Bx} {C1 R : List Ass} (h : Inv (k + 1)) (hlt : k < n) (hC : C1 = C ++ R := by rfl) (hT : keep T1 ((FORT s T (k + 1)).map (·.1)) = keep (FORT s T (k + 1)) ((FORT s T (k + 1)).map (·.1)) := by kernel_rfl)
 (hn : boundedB L.length (FORT s T (k + 1)) = true := by kernel_rfl) (hL : L1.take L.length = L := by kernel_rfl) : DN X N W S0 (Exit.then (BKP N W S0 (FORT s T) (fun _ => L) (fun _ => C) (FORI n Inv) (fun k => n - k) k) Q) .normal T1 L1 C1 := by
 subst hC
 exact gBACK (j' := k + 1) (js := zeros C) (R := R) ⟨by omega, h⟩ (by omega) (pulls_zeros C R) hT hn hL
def FORTA {α : Type} (s : Nat) (U : α → Tm) (T : Tm) (q : Nat × α) : Tm := (s, I (q.1 : Int)) :: (U q.2 ++ T)
def FORIA {α : Type} (n : Nat) (Inv : Nat → α → Prop) (q : Nat × α) : Prop := q.1 ≤ n ∧ Inv q.1 q.2
def FORM {α : Type} (n : Nat) (q : Nat × α) : Nat := n - q.1
theorem gFORA {c : Code} {α : Type} (s n : Nat) (U : α → Tm) (Inv : Nat → α → Prop) (x0 : α) (h0 : Inv 0 x0)
 (body : ∀ k x, k ≤ n → Inv k x → CD X P N W S0 c (Exit.then (BKP N W S0 (FORTA s U T) (fun _ => L) (fun _ => C) (FORIA n Inv) (FORM n) (k, x)) Q) ((s, I (k : Int)) :: (U x ++ T)) L C)
 (hT : keep T ((FORTA s U T (0, x0)).map (·.1)) = keep (FORTA s U T (0, x0)) ((FORTA s U T (0, x0)).map (·.1)) := by kernel_rfl) (hn : boundedB L.length (FORTA s U T (0, x0)) = true := by kernel_rfl) : CD X P N W S0 (.loop c) Q T L C :=
 gLOOP (FORTA s U T) (fun _ => L) (fun _ => C) (FORIA n Inv) (FORM n) (0, x0) ⟨Nat.zero_le _, h0⟩ (fun q hk => body q.1 q.2 hk.1 hk.2) hT hn
theorem gFABACK {α : Type} {n k s : Nat} {U : α → Tm} {x x' : α} {Inv : Nat → α → Prop} {T1 : Tm} {L1 : Bx} {C1 R : List Ass} (h : Inv (k + 1) x') (hlt : k < n) (hU : keep T1 ((U x).map (·.1)) = some (U x') := by conv => lhs; whnf) (hC : C1 = C ++ R := by rfl)
 (hT : keep T1 ((FORTA s U T (k + 1, x')).map (·.1)) = keep (FORTA s U T (k + 1, x')) ((FORTA s U T (k + 1, x')).map (·.1)) := by kernel_rfl)
 (hn : boundedB L.length (FORTA s U T (k + 1, x')) = true := by kernel_rfl) (hL : L1.take L.length = L := by kernel_rfl) : DN X N W S0 (Exit.then (BKP N W S0 (FORTA s U T) (fun _ => L) (fun _ => C) (FORIA n Inv) (FORM n) (k, x)) Q) .normal T1 L1 C1 := by
 subst hC
 exact gBACK (j' := (k + 1, x')) (js := zeros C) (R := R) ⟨by show k + 1 ≤ n; omega, h⟩ (by show n - (k + 1) < n - k; omega) (pulls_zeros C R) hT hn hL
end rules
end SX
end Go.Proofs.YtejojcoaohlfbaaGreat
namespace Go.Proofs.YtejojcoaohlfbaaGreat
namespace SX
open Go
structure Rules where
 seats : List Int
 tiers : Int
 room : Int
 size : Int
 period : Int
 window : Int
 rest : Int
 tries : Int
 crew : Int
structure Req where
 kind : Int
 id : Int
 cabin : Int
 from' : Int
 size : Int
 tier : Int
structure Act where
 kind : Int
 req : Req
 n : Int
 keep : List Int
def inB (n lo hi : Int) : Bool := decide (lo ≤ n) && decide (n ≤ hi)
def eqInts : List Int → List Int → Bool
 | [], [] => true
 | x :: xs, y :: ys => if x != y then false else eqInts xs ys
 | _, _ => false
def allSeats : List Int → Bool
 | [] => true
 | z :: zs => inB z 1 60 && allSeats zs
def rulesOk (r : Rules) : Bool :=
 inB r.seats.length 1 4 && inB r.tiers 1 5 && inB r.room 1 10 && inB r.size 1 6 && inB r.period 1 12 && inB r.window 1 8 && inB r.rest 0 8 && inB r.tries 1 4 && inB r.crew 1 3 && allSeats r.seats
def eqRules (a b : Rules) : Bool :=
 if !(eqInts a.seats b.seats) then false else if a.tiers != b.tiers then false else if a.room != b.room then false else if a.size != b.size then false else if a.period != b.period then false else
 if a.window != b.window then false else if a.rest != b.rest then false else if a.tries != b.tries then false else if a.crew != b.crew then false else true
theorem eqInts_eq : ∀ (a b : List Int), eqInts a b = decide (a = b)
 | [], [] => by simp [eqInts]
 | [], _ :: _ => by simp [eqInts]
 | _ :: _, [] => by simp [eqInts]
 | x :: xs, y :: ys => by
   simp only [eqInts, eqInts_eq xs ys]
   by_cases h : x = y <;> simp [h]
theorem eqInts_ne {a b : List Int} (h : a.length ≠ b.length) : eqInts a b = false := by
 rw [eqInts_eq, decide_eq_false_iff_not]; rintro rfl; exact h rfl
theorem eqInts_refl (a : List Int) : eqInts a a = true := by simp [eqInts_eq]
theorem eqRules_refl (a : Rules) : eqRules a a = true := by simp [eqRules, eqInts_refl]
def usedB (n : Int) : Bool := inB n 0 9999
def reqEq (a b : Req) : Bool := a.kind == b.kind && (a.id == b.id && (a.cabin == b.cabin && (a.from' == b.from' && (a.size == b.size && (a.tier == b.tier && true)))))
def reqOk (q : Req) : Bool :=
 if q.kind == 1 then usedB q.id && usedB q.cabin && inB q.from' (-1) 9999 && usedB q.size && usedB q.tier
 else if q.kind == 2 || q.kind == 4 || q.kind == 5 || q.kind == 7 then usedB q.id && reqEq q ⟨q.kind, q.id, 0, 0, 0, 0⟩
 else if q.kind == 3 then usedB q.cabin && (usedB q.size && reqEq q ⟨q.kind, 0, q.cabin, 0, q.size, 0⟩)
 else if q.kind == 6 then reqEq q ⟨q.kind, 0, 0, 0, 0, 0⟩
 else false
def eqReq (a b : Req) : Bool :=
 if a.kind != b.kind then false else if a.id != b.id then false else if a.cabin != b.cabin then false else if a.from' != b.from' then false else if a.size != b.size then false else if a.tier != b.tier then false else true
theorem eqReq_refl (a : Req) : eqReq a a = true := by simp [eqReq]
theorem bneF {a b : Int} (h : (a != b) = false) : a = b := by simpa using h
end SX
end Go.Proofs.YtejojcoaohlfbaaGreat
namespace Go.Proofs.YtejojcoaohlfbaaGreat
namespace SX
set_option linter.unusedVariables false
set_option linter.unusedSimpArgs false
open Go Go.RowKit
structure Party where
 id : Int
 cabin : Int
 from' : Int
 size : Int
 tier : Int
 since : Int
 turn : Int
 state : Int
 until' : Int
 asked : Int
structure Entry where
 level : Int
 turn : Int
 id : Int
 size : Int
structure Pin where
 at' : Int
 id : Int
structure Wheel where
 spoke : List (List Pin)
structure Ledger where
 total : Int
 free : Int
 held : Int
 sold : Int
 tied : Int
structure Cabin where
 seats : Ledger
 row : List Entry
 wheel : Wheel
structure House where
 rules : Rules
 now : Int
 turn : Int
 parties : List Party
 cabins : List Cabin
 todo : List Int
 jobs : List Int
def partyE (p : Party) : List Value := [vi p.id, vi p.cabin, vi p.from', vi p.size, vi p.tier, vi p.since, vi p.turn, vi p.state, vi p.until', vi p.asked]
theorem partyH (p : Party) : (partyE p).length = 10 ∧ ∀ u ∈ partyE p, isCell u = true := ⟨rfl, by simp [partyE, isCell]⟩
def partyL : Lay Party := flat 10 partyE partyH
def entryE (p : Entry) : List Value := [vi p.level, vi p.turn, vi p.id, vi p.size]
theorem entryH (p : Entry) : (entryE p).length = 4 ∧ ∀ u ∈ entryE p, isCell u = true := ⟨rfl, by simp [entryE, isCell]⟩
def entryL : Lay Entry := flat 4 entryE entryH
def pinE (p : Pin) : List Value := [vi p.at', vi p.id]
theorem pinH (p : Pin) : (pinE p).length = 2 ∧ ∀ u ∈ pinE p, isCell u = true := ⟨rfl, by simp [pinE, isCell]⟩
def pinL : Lay Pin := flat 2 pinE pinH
def ledgerE (p : Ledger) : List Value := [vi p.total, vi p.free, vi p.held, vi p.sold, vi p.tied]
theorem ledgerH (p : Ledger) : (ledgerE p).length = 5 ∧ ∀ u ∈ ledgerE p, isCell u = true := ⟨rfl, by simp [ledgerE, isCell]⟩
def ledgerL : Lay Ledger := flat 5 ledgerE ledgerH
def cabinLx (e1 e2 e3 : TypeId) : Lay Cabin := viaL (prodL ledgerL (prodL (sl e1 entryL) (sl e2 (sl e3 pinL)))) fun c => (c.seats, c.row, c.wheel.spoke)
theorem cabinRep {e1 e2 e3 : TypeId} {c : Cabin} {a1 a2 : Option Addr} {c1 c2 : Nat} : ∀ w fps, holds w [slA e1 entryL (.slice a1 c.row.length c1) c.row, slA e2 (sl e3 pinL) (.slice a2 c.wheel.spoke.length c2) c.wheel.spoke] fps →
 (cabinLx e1 e2 e3).rep true w [vi c.seats.total, vi c.seats.free, vi c.seats.held, vi c.seats.sold, vi c.seats.tied, .slice a1 c.row.length c1, .slice a2 c.wheel.spoke.length c2] c fps.flatten := by
 intro w fps h
 match fps, h with
 | [f1, f2], ⟨h1, h2, _⟩ =>
   refine ⟨[vi c.seats.total, vi c.seats.free, vi c.seats.held, vi c.seats.sold, vi c.seats.tied], [.slice a1 c.row.length c1, .slice a2 c.wheel.spoke.length c2], [], f1 ++ f2, rfl, by simp, ⟨rfl, rfl⟩, [.slice a1 c.row.length c1], [.slice a2 c.wheel.spoke.length c2], f1, f2, rfl, rfl, ⟨a1, c1, rfl, ?_⟩, ⟨a2, c2, rfl, ?_⟩⟩
   · simp only [if_true]; exact h1
   · simp only [if_true]; exact h2
theorem cabin_view {e1 e2 e3 : TypeId} {W : World} {a : Option Addr} {xs : List Cabin} (h : Rd (cabinLx e1 e2 e3) W a xs) {k : Nat} {c : Cabin} (hk : xs[k]? = some c) :
 ∃ (a1 : Option Addr) (c1 : Nat) (a2 : Option Addr) (c2 : Nat), ElemAt W a (k * 7) [vi c.seats.total, vi c.seats.free, vi c.seats.held, vi c.seats.sold, vi c.seats.tied, .slice a1 c.row.length c1, .slice a2 c.wheel.spoke.length c2] ∧
   Rd entryL W a1 c.row ∧ Rd (sl e3 pinL) W a2 c.wheel.spoke ∧ c.row.length ≤ c1 ∧ c.wheel.spoke.length ≤ c2 := by
 obtain ⟨cs, g, ⟨d1, d2, f1, f2, rfl, rfl, ⟨rfl, rfl⟩, d3, d4, f3, f4, rfl, rfl, ⟨a1, c1, rfl, h1⟩, ⟨a2, c2, rfl, h2⟩⟩, hel⟩ := h.elem hk
 simp only [Bool.false_eq_true, if_false] at h1 h2
 exact ⟨a1, c1, a2, c2, hel, ⟨_, h1.2⟩, ⟨_, h2.2⟩, h1.1, h2.1⟩
def pinLess (a b : Pin) : Bool := decide (a.at' < b.at') || (a.at' == b.at' && decide (a.id < b.id))
def entryLess (a b : Entry) : Bool := decide (a.level < b.level) || (a.level == b.level && decide (a.turn < b.turn))
theorem tmod_rng {a n : Int} (h0 : 0 ≤ a) (hn : 0 < n) : 0 ≤ Int.tmod a n ∧ (n ≤ 0 → Int.tmod a n = 0) ∧ (0 < n → Int.tmod a n < n) := by
 rw [Int.tmod_eq_emod_of_nonneg h0]
 have h1 := Int.emod_nonneg a (show n ≠ 0 by omega)
 have h2 := Int.emod_lt_of_pos a hn
 exact ⟨h1, fun h => by omega, fun _ => h2⟩
theorem flat_mem {α : Type} {xss : List (List α)} {k : Nat} {x : List α} (h : xss[k]? = some x) : x.length ≤ xss.flatten.length := by
 induction xss generalizing k with
 | nil => simp at h
 | cons y ys ih =>
   simp only [List.flatten_cons, List.length_append]
   cases k with
   | zero => simp only [List.getElem?_cons_zero, Option.some.injEq] at h; subst h; omega
   | succ k => have := ih (k := k) (by simpa using h); omega
def reqE (q : Req) : List Value := [vi q.kind, vi q.id, vi q.cabin, vi q.from', vi q.size, vi q.tier]
theorem reqH (q : Req) : (reqE q).length = 6 ∧ ∀ u ∈ reqE q, isCell u = true := ⟨rfl, by simp [reqE, isCell]⟩
def reqL : Lay Req := flat 6 reqE reqH
structure LookR where
 step : Int
 now : Int
 cabin : Int
 id : Int
 free : Int
def lookE (q : LookR) : List Value := [vi q.step, vi q.now, vi q.cabin, vi q.id, vi q.free]
theorem lookH (q : LookR) : (lookE q).length = 5 ∧ ∀ u ∈ lookE q, isCell u = true := ⟨rfl, by simp [lookE, isCell]⟩
def replyL (e : TypeId) : Lay (Int × List Int) := prodL intL (sl e intL)
theorem reply_view {e : TypeId} {W : World} {a : Option Addr} {xs : List (Int × List Int)} (h : Rd (replyL e) W a xs) {k : Nat} {x : Int × List Int} (hk : xs[k]? = some x) :
 ∃ (a1 : Option Addr) (c1 : Nat), ElemAt W a (k * 2) [vi x.1, .slice a1 x.2.length c1] ∧ Rd intL W a1 x.2 ∧ x.2.length ≤ c1 := by
 obtain ⟨cs, g, ⟨d1, d2, f1, f2, rfl, rfl, ⟨rfl, rfl⟩, ⟨a1, c1, rfl, h1⟩⟩, hel⟩ := h.elem hk
 simp only [Bool.false_eq_true, if_false] at h1
 exact ⟨a1, c1, hel, ⟨_, h1.2⟩, h1.1⟩
def Rs {α : Type} (La : Lay α) (w : World) (v : Value) (xs : List α) : Prop := ∃ a c, v = .slice a xs.length c ∧ xs.length ≤ c ∧ Rd La w a xs
theorem Rs.fr {α : Type} {La : Lay α} {W w : World} {v : Value} {xs : List α} (h : Rs La W v xs) (hf : Fr [] W w) : Rs La w v xs := let ⟨a, c, h1, h2, h3⟩ := h; ⟨a, c, h1, h2, h3.fr hf⟩
theorem Rs.mk {α : Type} {La : Lay α} {W w : World} {a : Option Addr} {c : Nat} {xs : List α} (h : Rd La W a xs) (hc : xs.length ≤ c) (hf : Fr [] W w) : Rs La w (.slice a xs.length c) xs := ⟨a, c, rfl, hc, h.fr hf⟩
def RulesR (w : World) (cs : List Value) (r : Rules) : Prop := ∃ a c, cs = [.slice a r.seats.length c, vi r.tiers, vi r.room, vi r.size, vi r.period, vi r.window, vi r.rest, vi r.tries, vi r.crew] ∧ r.seats.length ≤ c ∧ Rd intL w a r.seats
theorem RulesR.fr {W w : World} {cs : List Value} {r : Rules} (h : RulesR W cs r) (hf : Fr [] W w) : RulesR w cs r := let ⟨a, c, h1, h2, h3⟩ := h; ⟨a, c, h1, h2, h3.fr hf⟩
theorem RulesR.mk {W w : World} {a : Option Addr} {c : Nat} {r : Rules} (h : Rd intL W a r.seats) (hc : r.seats.length ≤ c) (hf : Fr [] W w) : RulesR w [.slice a r.seats.length c, vi r.tiers, vi r.room, vi r.size, vi r.period, vi r.window, vi r.rest, vi r.tries, vi r.crew] r := ⟨a, c, rfl, hc, h.fr hf⟩
def CabinR (e3 : TypeId) (w : World) (cs : List Value) (c : Cabin) : Prop := ∃ a1 c1 a2 c2, cs = [vi c.seats.total, vi c.seats.free, vi c.seats.held, vi c.seats.sold, vi c.seats.tied, .slice a1 c.row.length c1, .slice a2 c.wheel.spoke.length c2] ∧ c.row.length ≤ c1 ∧ c.wheel.spoke.length ≤ c2 ∧ Rd entryL w a1 c.row ∧ Rd (sl e3 pinL) w a2 c.wheel.spoke
theorem CabinR.fr {e : TypeId} {W w : World} {cs : List Value} {c : Cabin} (h : CabinR e W cs c) (hf : Fr [] W w) : CabinR e w cs c := let ⟨a1, c1, a2, c2, h1, h2, h3, h4, h5⟩ := h; ⟨a1, c1, a2, c2, h1, h2, h3, h4.fr hf, h5.fr hf⟩
theorem CabinR.mk {e : TypeId} {W w : World} {a1 a2 : Option Addr} {c1 c2 : Nat} {c : Cabin} (h2 : c.row.length ≤ c1) (h3 : c.wheel.spoke.length ≤ c2) (h4 : Rd entryL W a1 c.row) (h5 : Rd (sl e pinL) W a2 c.wheel.spoke) (hf : Fr [] W w) :
 CabinR e w [vi c.seats.total, vi c.seats.free, vi c.seats.held, vi c.seats.sold, vi c.seats.tied, .slice a1 c.row.length c1, .slice a2 c.wheel.spoke.length c2] c := ⟨a1, c1, a2, c2, rfl, h2, h3, h4.fr hf, h5.fr hf⟩
def HouseR (e4 e5 e6 : TypeId) (w : World) (cs : List Value) (x : House) : Prop := ∃ a1 c1 a2 c2 a3 c3 a4 c4 a5 c5, cs = [.slice a1 x.rules.seats.length c1, vi x.rules.tiers, vi x.rules.room, vi x.rules.size, vi x.rules.period, vi x.rules.window, vi x.rules.rest, vi x.rules.tries, vi x.rules.crew, vi x.now, vi x.turn, .slice a2 x.parties.length c2, .slice a3 x.cabins.length c3, .slice a4 x.todo.length c4, .slice a5 x.jobs.length c5] ∧
 x.rules.seats.length ≤ c1 ∧ x.parties.length ≤ c2 ∧ x.cabins.length ≤ c3 ∧ x.todo.length ≤ c4 ∧ x.jobs.length ≤ c5 ∧ Rd intL w a1 x.rules.seats ∧ Rd partyL w a2 x.parties ∧ Rd (cabinLx e4 e5 e6) w a3 x.cabins ∧ Rd intL w a4 x.todo ∧ Rd intL w a5 x.jobs
theorem HouseR.fr {e4 e5 e6 : TypeId} {W w : World} {cs : List Value} {x : House} (h : HouseR e4 e5 e6 W cs x) (hf : Fr [] W w) : HouseR e4 e5 e6 w cs x := by
 obtain ⟨a1, c1, a2, c2, a3, c3, a4, c4, a5, c5, h0, h1, h2, h3, h4, h5, h6, h7, h8, h9, h10⟩ := h
 exact ⟨a1, c1, a2, c2, a3, c3, a4, c4, a5, c5, h0, h1, h2, h3, h4, h5, h6.fr hf, h7.fr hf, h8.fr hf, h9.fr hf, h10.fr hf⟩
class OpR {α : Type} (La : Lay α) (ι : outParam Type) (enc : outParam (α → ι → List Value)) (imp : outParam (World → α → ι → Prop → Prop)) : Prop where
 ex : ∀ {w : World} {a : Option Addr} {xs : List α} {k : Nat} {x : α}, Rd La w a xs → xs[k]? = some x → ∃ i, ElemAt w a (k * La.sz) (enc x i) ∧ ∀ A, imp w x i A → A
instance {e1 e2 e3 : TypeId} : OpR (cabinLx e1 e2 e3) (HH × HH) (fun c i => [vi c.seats.total, vi c.seats.free, vi c.seats.held, vi c.seats.sold, vi c.seats.tied, .slice i.1.1 c.row.length i.1.2, .slice i.2.1 c.wheel.spoke.length i.2.2])
 (fun w c i A => c.row.length ≤ i.1.2 → c.wheel.spoke.length ≤ i.2.2 → c.row.length ≤ 9223372036854775807 → c.wheel.spoke.length ≤ 9223372036854775807 → Rd entryL w i.1.1 c.row → Rd (sl e3 pinL) w i.2.1 c.wheel.spoke → A) := ⟨fun h hk => by
 obtain ⟨a1, c1, a2, c2, h1, h2, h3, h4, h5⟩ := cabin_view h hk
 exact ⟨((a1, c1), (a2, c2)), h1, fun A k => k h4 h5 h2.len h3.len h2 h3⟩⟩
instance {α : Type} {e : TypeId} {La : Lay α} : OpR (sl e La) HH (fun xs i => [.slice i.1 xs.length i.2]) (fun w xs i A => xs.length ≤ i.2 → xs.length ≤ 9223372036854775807 → Rd La w i.1 xs → A) := ⟨fun h hk => by
 obtain ⟨a1, c1, h1, h2, h3⟩ := sl_view h hk
 exact ⟨(a1, c1), h1, fun A k => k h3 h2.len h2⟩⟩
instance {e : TypeId} : OpR (replyL e) HH (fun x i => [vi x.1, .slice i.1 x.2.length i.2]) (fun w x i A => x.2.length ≤ i.2 → x.2.length ≤ 9223372036854775807 → Rd intL w i.1 x.2 → A) := ⟨fun h hk => by
 obtain ⟨a1, c1, h1, h2, h3⟩ := reply_view h hk
 exact ⟨(a1, c1), h1, fun A k => k h3 h2.len h2⟩⟩
section rules
variable {X : List Nat} {P : Program} {N : Nat} {W : World} {S0 : List Nat} {Q : Exit → Go.Act → World → Prop} {T : Tm} {L : Bx} {C : List Ass} {ops : Array Oper} {Kn : List (Nat × Nat)} {i : Nat}
theorem aLN {t : TypeId} {x : Operand} {d : Nat} {ty : TypeId} {a : Option Addr} {j sz off : Nat} {α ι : Type} {La : Lay α} {enc : α → ι → List Value} {imp : World → α → ι → Prop → Prop} [op : OpR La ι enc imp] {xs : List α} {y : α} {v : ι → Value} [TB P]
 (k : ∀ q, imp W y q (OPL X P N W [] ops Q Kn (i + 1) ((d, .v (v q)) :: T) L C))
 (hx : evo T x = some (.e a (j * sz) off) := by conv => lhs; whnf) (hr : Rd La W a xs) (hj : xs[j]? = some y) (hv : ∀ q, ldB (TB.D P) t (enc y q) off some = some (v q) := by intro q; conv => lhs; whnf)
 (hsz : La.sz = sz := by rfl) (hi : Nat.blt i ops.size = true := by rfl) (ho : opAt ops T i = some (.load t x, some d, ty) := by kernel_rfl) (hd : d < N := by exact NL rfl) (hl : ∀ q, loadOf P t (enc y q) off = some (v q) := by intro q; kernel_rfl) :
 AT (.op (.load t x) (some d) ty) X P N W [] ops Q Kn i T L C := by
 subst hsz
 obtain ⟨q, h1, h2⟩ := op.ex hr hj
 refine opsOne (lt_of_blt hi) (LOADE t x d ty ho hd a (j * La.sz) off _ (v q) hx (fun w hw j hj => ?_) (hl q) (h2 _ (k q)))
 exact ElemAt.fr h1 hw.fr j hj
end rules
section rules
variable {X : List Nat} {P : Program} {N : Nat} {W : World} {S0 : List Nat} {Q : Exit → Go.Act → World → Prop} {T : Tm} {L : Bx} {C : List Ass} {ops : Array Oper} {Kn : List (Nat × Nat)} {i : Nat}
def QL (X : List Nat) (P : Program) (N : Nat) (W : World) (S0 : List Nat) (ops : Array Oper) (Q : Exit → Go.Act → World → Prop) (Kn : List (Nat × Nat)) (i : Nat) (T : Tm) (L : Bx) (C : List Ass) : Prop := QO P N W S0 ops Q i T L C
def QT (x : Nx) (X : List Nat) (P : Program) (N : Nat) (W : World) (S0 : List Nat) (ops : Array Oper) (Q : Exit → Go.Act → World → Prop) (Kn : List (Nat × Nat)) (i : Nat) (T : Tm) (L : Bx) (C : List Ass) : Prop := QL X P N W S0 ops Q Kn i T L C
def inN : List Nat → Nat → Bool
 | [], _ => false
 | k :: r, i => match Nat.beq k i with
   | true => true
   | false => inN r i
def quietR (D : OTab) : List Oper → Bool
 | [] => true
 | o :: os => match o.op with
   | .box _ _ | .alloc _ | .store _ _ _ | .slice _ _ _ _ _ | .buildSlice _ _ _ | .makeSlice _ _ _ | .makeMap _ _ | .mapUpdate _ _ _ _ | .makeFunc _ _ _ => false
   | .call c => match c.callee with
     | .builtin .len | .builtin .max | .builtin .min | .builtin .cap => quietR D os
     | .builtin _ => false
     | _ => match inN D.loud o.type with
       | true => false
       | false => quietR D os
   | _ => quietR D os
theorem gRQ [TB P] {id : Nat} (k : QL X P N W S0 ops Q [] 0 T L C) (hq : quietR (TB.D P) ops.toList = true := by rfl) (hB : Region.lexB .any ops = true := by decide +kernel) (hm : P.follows .mixedOrders = true := by kernel_rfl) : CD X P N W S0 (.region id ops true) Q T L C := REGIONQ hm hB k
theorem qNXT [TB P] {x : Nx} (k : QT x X P N W S0 ops Q Kn i T L C) (h : nxt (TB.D P) ops Kn i T L = some x := by conv => lhs; whnf) : QL X P N W S0 ops Q Kn i T L C := k
theorem qRUN {n : Nat} {T' : Tm} (k : QL X P N W S0 ops Q Kn (i + n) T' L C) (h : runQ P N ops L n i T = some T' := by kernel_rfl) : QT (.run n T' L) X P N W S0 ops Q Kn i T L C := runQ_ok n i h k
theorem qFIN {T' : Tm} (k : DN X N W S0 Q .normal T' L C) (hp : prune X [] T some = some T' := by conv => lhs; whnf) (hT : keep T (T'.map (·.1)) = keep T' (T'.map (·.1)) := by kernel_rfl) (hn : boundedB L.length T' = true := by kernel_rfl) (h : ops.size = i := by rfl) : QT .fin X P N W S0 ops Q Kn i T L C := by
 refine QEND h fun a w h => k a w ?_
 obtain ⟨bs, fps, ht, hb, hm⟩ := h
 exact ⟨bs, fps, ⟨ht.1, ht.2.1, fun i x hx => ht.2.2 i x (sub_ok hT i x hx)⟩, boundedB_ok hn, hm⟩
theorem qASK {d : Nat} {b : Bool} (k : CND b (QL X P N W S0 ops Q ((d, 1) :: Kn) i ((d, .v (.bool true)) :: T) L C) (QL X P N W S0 ops Q ((d, 0) :: Kn) i ((d, .v (.bool false)) :: T) L C))
 (h : lk T d = some (.v (.bool b)) := by conv => lhs; whnf) : QT (.ask d) X P N W S0 ops Q Kn i T L C := QSPLIT b h k.1 k.2
theorem qASKU {d : Nat} (k : QL X P N W S0 ops Q ((d, 2) :: Kn) i T L C) (h : lk T d = some (.v undef) := by conv => lhs; whnf) : QT (.ask d) X P N W S0 ops Q Kn i T L C := k
theorem qWRP {n : Nat} {T' : Tm} {d : Nat} {e e' : Int} (k : QL X P N W S0 ops Q Kn (i + n) ((d, .v (.int .i64 e')) :: T') L C) (he : wr e = e') (h : runQ P N ops L n i T = some ((d, .v (.int .i64 (IntKind.wrap .i64 e))) :: T') := by kernel_rfl) : QT (.wrp n T' d e L) X P N W S0 ops Q Kn i T L C := by
 refine runQ_ok n i h ?_
 have e1 : IntKind.wrap .i64 e = e' := he
 rw [e1]
 exact k
theorem qWRN {n : Nat} {T' : Tm} {d m : Nat} (k : QL X P N W S0 ops Q Kn (i + n) ((d, .v (.int .i64 ((m + 1 : Nat) : Int))) :: T') L C) (h1 : m < 9223372036854775807)
 (h : runQ P N ops L n i T = some ((d, .v (.int .i64 (IntKind.wrap .i64 ((m : Int) + 1)))) :: T') := by kernel_rfl) : QT (.wrp n T' d ((m : Int) + 1) L) X P N W S0 ops Q Kn i T L C := qWRP k (wr_of (by omega) (by omega)) h
theorem qWRM {n : Nat} {T' : Tm} {d m : Nat} (k : QL X P N W S0 ops Q Kn (i + n) ((d, .v (.int .i64 ((m - 1 : Nat) : Int))) :: T') L C) (h0 : 1 ≤ m) (h1 : m < 9223372036854775807)
 (h : runQ P N ops L n i T = some ((d, .v (.int .i64 (IntKind.wrap .i64 ((m : Int) - 1)))) :: T') := by kernel_rfl) : QT (.wrp n T' d ((m : Int) - 1) L) X P N W S0 ops Q Kn i T L C := qWRP k (by rw [wr_of (by omega) (by omega)]; omega) h
theorem qWRX {n : Nat} {T' : Tm} {d : Nat} {e : Int} (k : QL X P N W S0 ops Q Kn (i + n) ((d, .v (.int .i64 (wr e))) :: T') L C) (h : runQ P N ops L n i T = some ((d, .v (.int .i64 (IntKind.wrap .i64 e))) :: T') := by kernel_rfl) : QT (.wrp n T' d e L) X P N W S0 ops Q Kn i T L C := runQ_ok n i h k
theorem qCV {f : FuncId} {S : Prop} [inst : HasC P f S] {vs : Array Value} {d : Nat} {v : Value} (k : QL X P N W S0 ops Q Kn (i + 1) ((d, .v v) :: T) L C) (hcon : S → ∀ w, At W S0 C w → Spec P w [] f vs (RV v))
 (hc : callOf P ops T i = some (f, vs, some d) := by kernel_rfl) (hd : ∀ k, some d = some k → k < N := by exact NO rfl) : QT (.call f vs (some d)) X P N W S0 ops Q Kn i T L C := QCALL f vs (some d) hc v (hcon inst.pf) hd k
theorem qIX {t : TypeId} {x ix : Operand} {d : Nat} {ty : TypeId} {a : Option Addr} {n cap : Nat} {kd : IntKind} {z : Int} {e sz : Nat} [TB P] (k : QL X P N W S0 ops Q Kn (i + 1) ((d, .e a (z.toNat * sz) 0) :: T) L C)
 (hx : evv T x = some (.slice a n cap) := by conv => lhs; whnf) (hix : evv T ix = some (.int kd z) := by conv => lhs; whnf) (ho : lkn (TB.D P).row t = some (e, sz) := by conv => lhs; whnf)
 (ha : a.isSome = true) (h0 : 0 ≤ z) (hn : z < n)
 (hoa : opAt ops T i = some (.indexAddr t x ix, some d, ty) := by kernel_rfl) (hd : d < N := by exact NL rfl) (hu : P.underlying t = some (.slice e) := by kernel_rfl) (hsz : (P.info? e).map (·.size) = some sz := by kernel_rfl) :
 QT (.op (.indexAddr t x ix) (some d) ty) X P N W S0 ops Q Kn i T L C := QINDEX t x ix d ty hoa hd a n cap kd z e sz hx hix hu hsz ha h0 hn k
theorem qIN {t : TypeId} {x ix : Operand} {d : Nat} {ty : TypeId} {a : Option Addr} {n cap : Nat} {kd : IntKind} {z e sz : Nat} [TB P] (k : QL X P N W S0 ops Q Kn (i + 1) ((d, .e a (z * sz) 0) :: T) L C)
 (hix : evv T ix = some (.int kd (z : Int)) := by conv => lhs; whnf) (hx : evv T x = some (.slice a n cap) := by conv => lhs; whnf) (ho : lkn (TB.D P).row t = some (e, sz) := by conv => lhs; whnf)
 (ha : a.isSome = true) (hn : z < n)
 (hoa : opAt ops T i = some (.indexAddr t x ix, some d, ty) := by kernel_rfl) (hd : d < N := by exact NL rfl) (hu : P.underlying t = some (.slice e) := by kernel_rfl) (hsz : (P.info? e).map (·.size) = some sz := by kernel_rfl) :
 QT (.op (.indexAddr t x ix) (some d) ty) X P N W S0 ops Q Kn i T L C := QINDEX t x ix d ty hoa hd a n cap kd z e sz hx hix hu hsz ha (by omega) (by omega) k
theorem qLE {t : TypeId} {x : Operand} {d : Nat} {ty : TypeId} {a : Option Addr} {j sz off : Nat} {cs : List Value} {v : Value} [TB P] (k : QL X P N W S0 ops Q Kn (i + 1) ((d, .v v) :: T) L C)
 (hx : evo T x = some (.e a (j * sz) off) := by conv => lhs; whnf) (he : ∀ w, At W S0 C w → ElemAt w a (j * sz) cs) (hv : ldB (TB.D P) t cs off some = some v := by conv => lhs; whnf)
 (ho : opAt ops T i = some (.load t x, some d, ty) := by kernel_rfl) (hd : d < N := by exact NL rfl) (hl : loadOf P t cs off = some v := by kernel_rfl) :
 QT (.op (.load t x) (some d) ty) X P N W S0 ops Q Kn i T L C := QLOADE t x d ty ho hd a (j * sz) off cs v hx he hl k
theorem qLN {t : TypeId} {x : Operand} {d : Nat} {ty : TypeId} {a : Option Addr} {j sz off : Nat} {α ι : Type} {La : Lay α} {enc : α → ι → List Value} {imp : World → α → ι → Prop → Prop} [op : OpR La ι enc imp] {xs : List α} {y : α} {v : ι → Value} [TB P]
 (k : ∀ q, imp W y q (QL X P N W [] ops Q Kn (i + 1) ((d, .v (v q)) :: T) L C))
 (hx : evo T x = some (.e a (j * sz) off) := by conv => lhs; whnf) (hr : Rd La W a xs) (hj : xs[j]? = some y) (hv : ∀ q, ldB (TB.D P) t (enc y q) off some = some (v q) := by intro q; conv => lhs; whnf)
 (hsz : La.sz = sz := by rfl) (ho : opAt ops T i = some (.load t x, some d, ty) := by kernel_rfl) (hd : d < N := by exact NL rfl) (hl : ∀ q, loadOf P t (enc y q) off = some (v q) := by intro q; kernel_rfl) :
 QT (.op (.load t x) (some d) ty) X P N W [] ops Q Kn i T L C := by
 subst hsz
 obtain ⟨q, h1, h2⟩ := op.ex hr hj
 exact QLOADE t x d ty ho hd a (j * La.sz) off _ (v q) hx (fun w hw j hj => ElemAt.fr h1 hw.fr j hj) (hl q) (h2 _ (k q))
theorem aLF {t : TypeId} {x : Operand} {d : Nat} {ty : TypeId} {a : Option Addr} {j sz off : Nat} {α : Type} {enc : α → List Value} {hh : ∀ x, (enc x).length = sz ∧ ∀ u ∈ enc x, isCell u = true} {xs : List α} {v : Value} [TB P]
 (hx : evo T x = some (.e a (j * sz) off) := by conv => lhs; whnf) (hr : Rd (flat sz enc hh) W a xs) (hj : j < xs.length) (hv : ldB (TB.D P) t (enc xs[j]) off some = some v := by conv => lhs; whnf) (k : OPL X P N W [] ops Q Kn (i + 1) ((d, .v v) :: T) L C)
 (hi : Nat.blt i ops.size = true := by rfl) (ho : opAt ops T i = some (.load t x, some d, ty) := by kernel_rfl) (hd : d < N := by exact NL rfl) (hl : loadOf P t (enc xs[j]) off = some v := by kernel_rfl) :
 AT (.op (.load t x) (some d) ty) X P N W [] ops Q Kn i T L C := aLE k hx (fun w hw => Rd.flat (Rd.fr hr hw.fr) (List.getElem?_eq_getElem hj)) hv hi ho hd hl
theorem qLF {t : TypeId} {x : Operand} {d : Nat} {ty : TypeId} {a : Option Addr} {j sz off : Nat} {α : Type} {enc : α → List Value} {hh : ∀ x, (enc x).length = sz ∧ ∀ u ∈ enc x, isCell u = true} {xs : List α} {v : Value} [TB P]
 (hx : evo T x = some (.e a (j * sz) off) := by conv => lhs; whnf) (hr : Rd (flat sz enc hh) W a xs) (hj : j < xs.length) (hv : ldB (TB.D P) t (enc xs[j]) off some = some v := by conv => lhs; whnf) (k : QL X P N W [] ops Q Kn (i + 1) ((d, .v v) :: T) L C)
 (ho : opAt ops T i = some (.load t x, some d, ty) := by kernel_rfl) (hd : d < N := by exact NL rfl) (hl : loadOf P t (enc xs[j]) off = some v := by kernel_rfl) :
 QT (.op (.load t x) (some d) ty) X P N W [] ops Q Kn i T L C := qLE k hx (fun w hw => Rd.flat (Rd.fr hr hw.fr) (List.getElem?_eq_getElem hj)) hv ho hd hl
theorem aLG {t : TypeId} {x : Operand} {d : Nat} {ty : TypeId} {a : Option Addr} {j sz off : Nat} {α ι : Type} {La : Lay α} {enc : α → ι → List Value} {imp : World → α → ι → Prop → Prop} {xs : List α} {y : α} {v : ι → Value} [TB P]
 (hx : evo T x = some (.e a (j * sz) off) := by conv => lhs; whnf) (hr : Rd La W a xs) (hj : j < xs.length) (hy : xs[j] = y := by rfl) (op : OpR La ι enc imp := by infer_instance) (hv : ∀ q, ldB (TB.D P) t (enc y q) off some = some (v q) := by intro q; conv => lhs; whnf) (k : ∀ q, imp W y q (OPL X P N W [] ops Q Kn (i + 1) ((d, .v (v q)) :: T) L C))
 (hsz : La.sz = sz := by rfl) (hi : Nat.blt i ops.size = true := by rfl) (ho : opAt ops T i = some (.load t x, some d, ty) := by kernel_rfl) (hd : d < N := by exact NL rfl) (hl : ∀ q, loadOf P t (enc y q) off = some (v q) := by intro q; kernel_rfl) :
 AT (.op (.load t x) (some d) ty) X P N W [] ops Q Kn i T L C := aLN k hx hr (by rw [← hy]; exact List.getElem?_eq_getElem hj) hv hsz hi ho hd hl
theorem qLG {t : TypeId} {x : Operand} {d : Nat} {ty : TypeId} {a : Option Addr} {j sz off : Nat} {α ι : Type} {La : Lay α} {enc : α → ι → List Value} {imp : World → α → ι → Prop → Prop} {xs : List α} {y : α} {v : ι → Value} [TB P]
 (hx : evo T x = some (.e a (j * sz) off) := by conv => lhs; whnf) (hr : Rd La W a xs) (hj : j < xs.length) (hy : xs[j] = y := by rfl) (op : OpR La ι enc imp := by infer_instance) (hv : ∀ q, ldB (TB.D P) t (enc y q) off some = some (v q) := by intro q; conv => lhs; whnf) (k : ∀ q, imp W y q (QL X P N W [] ops Q Kn (i + 1) ((d, .v (v q)) :: T) L C))
 (hsz : La.sz = sz := by rfl) (ho : opAt ops T i = some (.load t x, some d, ty) := by kernel_rfl) (hd : d < N := by exact NL rfl) (hl : ∀ q, loadOf P t (enc y q) off = some (v q) := by intro q; kernel_rfl) :
 QT (.op (.load t x) (some d) ty) X P N W [] ops Q Kn i T L C := qLN k hx hr (by rw [← hy]; exact List.getElem?_eq_getElem hj) hv hsz ho hd hl
theorem aRV {op : Op} {d : Nat} {ty : TypeId} {v : Value} (hrun : Runs P W S0 T C op ty v) (k : OPL X P N W S0 ops Q Kn (i + 1) ((d, .v v) :: T) L C) (hi : Nat.blt i ops.size = true := by rfl) (ho : opAt ops T i = some (op, some d, ty) := by kernel_rfl) (hd : d < N := by exact NL rfl) :
 AT (.op op (some d) ty) X P N W S0 ops Q Kn i T L C := opsOne (lt_of_blt hi) (RUNV op d ty ho hd v hrun k)
theorem qRV {op : Op} {d : Nat} {ty : TypeId} {v : Value} (hrun : Runs P W S0 T C op ty v) (k : QL X P N W S0 ops Q Kn (i + 1) ((d, .v v) :: T) L C) (ho : opAt ops T i = some (op, some d, ty) := by kernel_rfl) (hd : d < N := by exact NL rfl) :
 QT (.op op (some d) ty) X P N W S0 ops Q Kn i T L C := QRUNV op d ty ho hd v hrun k
def stO {R : Type} : List Value → List Value → (Bool → Option R) → Option R
 | [], [], k => k true
 | .int _ a :: xs, .int _ b :: ys, k => stO xs ys (fun r => k (a == b && r))
 | _, _, _ => none
theorem rEQL {t t2 ty : TypeId} {x y : Operand} {xs ys : List Value} {r : Bool} (hx : evv T x = some (.agg xs.toArray) := by conv => lhs; whnf) (hy : evv T y = some (.agg ys.toArray) := by conv => lhs; whnf) (ho : stO xs ys some = some r := by conv => lhs; whnf) (h : steqOf P t xs ys = some r := by kernel_rfl) :
 Runs P W S0 T C (.binOp .eql t x y t2) ty (.bool r) := runs_eql hx hy h
theorem rNEQ {t t2 ty : TypeId} {x y : Operand} {xs ys : List Value} {r : Bool} (hx : evv T x = some (.agg xs.toArray) := by conv => lhs; whnf) (hy : evv T y = some (.agg ys.toArray) := by conv => lhs; whnf) (ho : stO xs ys some = some r := by conv => lhs; whnf) (h : steqOf P t xs ys = some r := by kernel_rfl) :
 Runs P W S0 T C (.binOp .neq t x y t2) ty (.bool (!r)) := runs_neq hx hy h
theorem rQUO {t t2 ty : TypeId} {x y : Operand} {k : IntKind} {a b : Int} (hx : evv T x = some (.int k a) := by conv => lhs; whnf) (hy : evv T y = some (.int k b) := by conv => lhs; whnf) (hb : b ≠ 0 := by omega) : Runs P W S0 T C (.binOp .quo t x y t2) ty (.int k (k.wrap (a.tdiv b))) := runs_quo hx hy hb
theorem rREM {t t2 ty : TypeId} {x y : Operand} {k : IntKind} {a b : Int} (hx : evv T x = some (.int k a) := by conv => lhs; whnf) (hy : evv T y = some (.int k b) := by conv => lhs; whnf) (hb : b ≠ 0 := by omega) : Runs P W S0 T C (.binOp .rem t x y t2) ty (.int k (a.tmod b)) := runs_rem hx hy hb
end rules
class ElT (P : Program) (e : TypeId) (α : outParam Type) (sz : outParam Nat) (enc : outParam (α → List Value)) (hh : outParam (∀ x, (enc x).length = sz ∧ ∀ u ∈ enc x, isCell u = true)) where
 z : Value
 x0 : α
 bytes : Nat
 dec : List Value → Option α
 info : (P.info? e).map (fun i => (i.zero, i.size, i.bytes)) = some (some z, sz, bytes)
 zc : z.cells.toList = enc x0
 pos : 0 < sz
 small : bytes ≤ 1024
def NNil (a : Option Addr) (n : Nat) : Prop := a = none → n = 0
theorem nt0 {A : Ass} {C : List Ass} : (A :: C)[0]? = some A := rfl
theorem ntS {A B : Ass} {C : List Ass} {j : Nat} (h : C[j]? = some A) : (B :: C)[j + 1]? = some A := h
theorem PU {C R : List Ass} {A : Ass} {j : Nat} (h : pull j C = some (A, R) := by first | exact pu0 | (apply puS; first | exact pu0 | (apply puS; first | exact pu0 | (apply puS; first | exact pu0 | (apply puS; first | exact pu0 | (apply puS; first | exact pu0 | (apply puS; first | exact pu0 | (apply puS; first | exact pu0 | (apply puS; first | exact pu0 | (apply puS; first | exact pu0 | (apply puS; first | exact pu0 | (apply puS; first | exact pu0 | (apply puS; first | exact pu0 | (apply puS; first | exact pu0 | (apply puS; first | exact pu0 | (apply puS; first | exact pu0 | (apply puS; first | exact pu0 | (apply puS; first | exact pu0 | (apply puS; first | exact pu0 | (apply puS; first | exact pu0 | (apply puS; first | exact pu0 | (apply puS; first | exact pu0 | (apply puS; first | exact pu0 | (apply puS; first | exact pu0 | (apply puS; exact pu0))))))))))))))))))))))))) : pull j C = some (A, R) := h
theorem NT {C : List Ass} {A : Ass} {j : Nat} (h : C[j]? = some A := by first | exact nt0 | (apply ntS; first | exact nt0 | (apply ntS; first | exact nt0 | (apply ntS; first | exact nt0 | (apply ntS; first | exact nt0 | (apply ntS; first | exact nt0 | (apply ntS; first | exact nt0 | (apply ntS; first | exact nt0 | (apply ntS; first | exact nt0 | (apply ntS; first | exact nt0 | (apply ntS; first | exact nt0 | (apply ntS; first | exact nt0 | (apply ntS; first | exact nt0 | (apply ntS; first | exact nt0 | (apply ntS; first | exact nt0 | (apply ntS; first | exact nt0 | (apply ntS; first | exact nt0 | (apply ntS; first | exact nt0 | (apply ntS; first | exact nt0 | (apply ntS; first | exact nt0 | (apply ntS; first | exact nt0 | (apply ntS; first | exact nt0 | (apply ntS; first | exact nt0 | (apply ntS; first | exact nt0 | (apply ntS; exact nt0))))))))))))))))))))))))) : C[j]? = some A := h
theorem LEN {A : Prop} (h : A := by first | omega | (simp only [List.length_append, List.length_cons, List.length_nil, List.length_take, List.length_drop, List.length_set, List.length_replicate] at * <;> omega)) : A := h
theorem Rs.own {α : Type} {e : TypeId} {La : Lay α} {W w : World} {S0 : List Nat} {C : List Ass} {a : Option Addr} {c j : Nat} {xs : List α} (hw : At W S0 C w) (h : C[j]? = some (slA e La (.slice a xs.length c) xs)) : Rs La w (.slice a xs.length c) xs :=
 ⟨a, c, rfl, SlO.capE (hw.own j h), hw.rdO j h⟩
def partsO {α R : Type} (dec : List Value → Option α) (T : Tm) : Nat → List (Nat × Operand) → (List α → Option R) → Option R
 | _, [], k => k []
 | n, (m, x) :: r, k => match Nat.beq n m, evo T x with
   | true, some (.v v) => cellsC v (fun cs => match dec cs with
     | some y => partsO dec T (n + 1) r (fun l => k (y :: l))
     | none => none)
   | _, _ => none
section rules
variable {X : List Nat} {P : Program} {N : Nat} {W : World} {S0 : List Nat} {Q : Exit → Go.Act → World → Prop} {T : Tm} {L : Bx} {C : List Ass} {ops : Array Oper} {Kn : List (Nat × Nat)} {i : Nat}
theorem oBUILD {K : Go.Act → World → Prop} {t : TypeId} {len : Nat} {parts : Array (Nat × Operand)} {d : Nat} {ty : TypeId} {e sz : Nat} {α : Type} {enc : α → List Value} {hh : ∀ x, (enc x).length = sz ∧ ∀ u ∈ enc x, isCell u = true} {xs : List α} [TB P]
 (he : lkn (TB.D P).row t = some (e, sz) := by conv => lhs; whnf) (el : ElT P e α sz enc hh := by infer_instance) (hx : partsO el.dec T 0 parts.toList some = some xs := by conv => lhs; whnf)
 (k : ∀ a : Option Addr, a.isSome = true → G N W S0 K ((d, .v (.slice a len len)) :: T) L (C ++ [slA e (flat sz enc hh) (.slice a len len) xs]))
 (ho : opAt ops T i = some (.buildSlice t len parts, some d, ty) := by kernel_rfl) (hd : d < N := by exact NL rfl) (hb : (partsOf T parts.toList).bind (bsOf P t len) = some (e, xs.flatMap enc) := by kernel_rfl) (hl : xs.length = len := by kernel_rfl) (hm : Nat.ble len maxLen = true := by rfl) : OP P N W S0 ops Q i K T L C :=
 BUILDS t len parts d ty ho hd e (xs.flatMap enc) hb (flat sz enc hh) xs hl (Nat.le_of_ble_eq_true hm) [] [] C rfl (flatRep rfl) k
theorem aBUILD {t : TypeId} {len : Nat} {parts : Array (Nat × Operand)} {d : Nat} {ty : TypeId} {e sz : Nat} {α : Type} {enc : α → List Value} {hh : ∀ x, (enc x).length = sz ∧ ∀ u ∈ enc x, isCell u = true} {xs : List α} [TB P]
 (he : lkn (TB.D P).row t = some (e, sz) := by conv => lhs; whnf) (el : ElT P e α sz enc hh := by infer_instance) (hx : partsO el.dec T 0 parts.toList some = some xs := by conv => lhs; whnf)
 (k : ∀ a : Option Addr, a.isSome = true → OPL X P N W S0 ops Q Kn (i + 1) ((d, .v (.slice a len len)) :: T) L (C ++ [slA e (flat sz enc hh) (.slice a len len) xs])) (hi : Nat.blt i ops.size = true := by rfl)
 (ho : opAt ops T i = some (.buildSlice t len parts, some d, ty) := by kernel_rfl) (hd : d < N := by exact NL rfl) (hb : (partsOf T parts.toList).bind (bsOf P t len) = some (e, xs.flatMap enc) := by kernel_rfl) (hl : xs.length = len := by kernel_rfl) (hm : Nat.ble len maxLen = true := by rfl) :
 AT (.op (.buildSlice t len parts) (some d) ty) X P N W S0 ops Q Kn i T L C := opsOne (lt_of_blt hi) (oBUILD he el hx k ho hd hb hl hm)
theorem oAPP {K : Go.Act → World → Prop} {t : TypeId} {s x : Operand} {d : Nat} {ty : TypeId} {v : Value} {a2 : Option Addr} {n2 c2 e sz : Nat} {α : Type} {enc : α → List Value} {hh : ∀ x, (enc x).length = sz ∧ ∀ u ∈ enc x, isCell u = true} {xs ys : List α} {j1 j2 : Nat} {R1 R : List Ass} [TB P]
 (he : lkn (TB.D P).row t = some (e, sz) := by conv => lhs; whnf) (el : ElT P e α sz enc hh := by infer_instance) (hs : evv T s = some v := by conv => lhs; whnf) (hx : evv T x = some (.slice a2 n2 c2) := by conv => lhs; whnf)
 (hp1 : pull j1 C = some (slA e (flat sz enc hh) v xs, R1)) (hp2 : pull j2 R1 = some (slA e (flat sz enc hh) (.slice a2 n2 c2) ys, R)) (ha2 : a2.isSome = true) (hn2 : ys.length = n2) (hlen : xs.length + n2 ≤ 100000000000)
 (k : ∀ (a : Option Addr) (c : Nat), NNil a (xs ++ ys).length → G N W S0 K ((d, .v (.slice a (xs ++ ys).length c)) :: T) L (R ++ [slA e (flat sz enc hh) (.slice a (xs ++ ys).length c) (xs ++ ys)]))
 (ho : opAt ops T i = some (.call { callee := .builtin .append, args := #[s, x], argTypes := #[t, t] }, some d, ty) := by kernel_rfl) (hd : d < N := by exact NL rfl) (hu : P.underlying t = some (.slice e) := by kernel_rfl) : OP P N W S0 ops Q i K T L C := by
 have hb := el.small
 have hm : (xs.length + n2) * el.bytes ≤ (xs.length + n2) * 1024 := Nat.mul_le_mul_left _ hb
 have hz : el.z.cells.size = sz := by
  have h1 := congrArg List.length el.zc
  rw [(hh el.x0).1] at h1
  simpa using h1
 exact APPENDO t s x d ty ho hd v a2 n2 c2 hs hx ha2 e hu (flat sz enc hh) el.z el.bytes el.info hz el.pos j1 j2 xs ys R (by simp [pulls, hp1, hp2]) hn2 (by omega) (by simp only [maxLen]; omega) k
theorem aAPP {t : TypeId} {s x : Operand} {d : Nat} {ty : TypeId} {v : Value} {a2 : Option Addr} {n2 c2 e sz : Nat} {α : Type} {enc : α → List Value} {hh : ∀ x, (enc x).length = sz ∧ ∀ u ∈ enc x, isCell u = true} {xs ys : List α} {j1 j2 : Nat} {R1 R : List Ass} [TB P]
 (he : lkn (TB.D P).row t = some (e, sz) := by conv => lhs; whnf) (el : ElT P e α sz enc hh := by infer_instance) (hs : evv T s = some v := by conv => lhs; whnf) (hx : evv T x = some (.slice a2 n2 c2) := by conv => lhs; whnf)
 (hp1 : pull j1 C = some (slA e (flat sz enc hh) v xs, R1) := by exact PU) (hp2 : pull j2 R1 = some (slA e (flat sz enc hh) (.slice a2 n2 c2) ys, R) := by exact PU) (ha2 : a2.isSome = true := by assumption) (hn2 : ys.length = n2 := by rfl) (hlen : xs.length + n2 ≤ 100000000000 := by exact LEN)
 (k : ∀ (a : Option Addr) (c : Nat), NNil a (xs ++ ys).length → OPL X P N W S0 ops Q Kn (i + 1) ((d, .v (.slice a (xs ++ ys).length c)) :: T) L (R ++ [slA e (flat sz enc hh) (.slice a (xs ++ ys).length c) (xs ++ ys)])) (hi : Nat.blt i ops.size = true := by rfl)
 (ho : opAt ops T i = some (.call { callee := .builtin .append, args := #[s, x], argTypes := #[t, t] }, some d, ty) := by kernel_rfl) (hd : d < N := by exact NL rfl) (hu : P.underlying t = some (.slice e) := by kernel_rfl) :
 AT (.op (.call { callee := .builtin .append, args := #[s, x], argTypes := #[t, t] }) (some d) ty) X P N W S0 ops Q Kn i T L C := opsOne (lt_of_blt hi) (oAPP he el hs hx hp1 hp2 ha2 hn2 hlen k ho hd hu)
theorem aAPR {t : TypeId} {s x : Operand} {d : Nat} {ty : TypeId} {v : Value} {a2 : Option Addr} {n2 c2 e sz : Nat} {α : Type} {enc : α → List Value} {hh : ∀ x, (enc x).length = sz ∧ ∀ u ∈ enc x, isCell u = true} {xs ys : List α} {j1 : Nat} {R : List Ass} [TB P]
 (he : lkn (TB.D P).row t = some (e, sz) := by conv => lhs; whnf) (el : ElT P e α sz enc hh := by infer_instance) (hs : evv T s = some v := by conv => lhs; whnf) (hx : evv T x = some (.slice a2 n2 c2) := by conv => lhs; whnf)
 (hp1 : pull j1 C = some (slA e (flat sz enc hh) v xs, R) := by exact PU) (hr : Rd (flat sz enc hh) W a2 ys) (hn2 : ys.length = n2 := by rfl) (hlen : xs.length + n2 ≤ 100000000000 := by exact LEN)
 (k : ∀ (a : Option Addr) (c : Nat), NNil a (xs ++ ys).length → OPL X P N W [] ops Q Kn (i + 1) ((d, .v (.slice a (xs ++ ys).length c)) :: T) L (R ++ [slA e (flat sz enc hh) (.slice a (xs ++ ys).length c) (xs ++ ys)])) (hi : Nat.blt i ops.size = true := by rfl)
 (ho : opAt ops T i = some (.call { callee := .builtin .append, args := #[s, x], argTypes := #[t, t] }, some d, ty) := by kernel_rfl) (hd : d < N := by exact NL rfl) (hu : P.underlying t = some (.slice e) := by kernel_rfl) :
 AT (.op (.call { callee := .builtin .append, args := #[s, x], argTypes := #[t, t] }) (some d) ty) X P N W [] ops Q Kn i T L C := by
 have hb := el.small
 have hm : (xs.length + n2) * el.bytes ≤ (xs.length + n2) * 1024 := Nat.mul_le_mul_left _ hb
 have hz : el.z.cells.size = sz := by
  have h1 := congrArg List.length el.zc
  rw [(hh el.x0).1] at h1
  simpa using h1
 exact opsOne (lt_of_blt hi) (APPENDR t s x d ty ho hd v a2 n2 c2 hs hx e hu el.z el.bytes el.info hz el.pos j1 xs ys R (by simp [pulls, hp1]) hn2 (fun w hw => hr.fr hw.fr) (by omega) (by simp only [maxLen]; omega) k)
theorem aNIL {x : Nx} {e : TypeId} {α : Type} {La : Lay α} (k : AT x X P N W S0 ops Q Kn i T L (C ++ [slA e La (.slice none 0 0) []])) : AT x X P N W S0 ops Q Kn i T L C := NIL e La k
theorem aIO {t : TypeId} {x ix : Operand} {d : Nat} {ty : TypeId} {a : Option Addr} {n cap : Nat} {kd : IntKind} {z e sz j : Nat} {e' : TypeId} {α : Type} {La : Lay α} {xs : List α} [TB P]
 (hix : evv T ix = some (.int kd (z : Int)) := by conv => lhs; whnf) (hx : evv T x = some (.slice a n cap) := by conv => lhs; whnf) (ho : lkn (TB.D P).row t = some (e, sz) := by conv => lhs; whnf)
 (hC : C[j]? = some (slA e' La (.slice a n cap) xs) := by exact NT) (hn : z < n := by exact LEN) (k : OPL X P N W S0 ops Q Kn (i + 1) ((d, .e a (z * sz) 0) :: T) L C)
 (hi : Nat.blt i ops.size = true := by rfl) (hoa : opAt ops T i = some (.indexAddr t x ix, some d, ty) := by kernel_rfl) (hd : d < N := by exact NL rfl) (hu : P.underlying t = some (.slice e) := by kernel_rfl) (hsz : (P.info? e).map (·.size) = some sz := by kernel_rfl) :
 AT (.op (.indexAddr t x ix) (some d) ty) X P N W S0 ops Q Kn i T L C := aIN k hix hx ho (fun w hw => SlO.isS (hw.own j hC) (by omega)) hn hi hoa hd hu hsz
theorem aLO {t : TypeId} {x : Operand} {d : Nat} {ty : TypeId} {a : Option Addr} {m n cap sz off j : Nat} {e' : TypeId} {α : Type} {enc : α → List Value} {hh : ∀ x, (enc x).length = sz ∧ ∀ u ∈ enc x, isCell u = true} {xs : List α} {v : Value} [TB P]
 (hx : evo T x = some (.e a (m * sz) off) := by conv => lhs; whnf) (hC : C[j]? = some (slA e' (flat sz enc hh) (.slice a n cap) xs) := by exact NT) (hj : m < xs.length := by exact LEN) (hv : ldB (TB.D P) t (enc xs[m]) off some = some v := by conv => lhs; whnf) (k : OPL X P N W S0 ops Q Kn (i + 1) ((d, .v v) :: T) L C)
 (hi : Nat.blt i ops.size = true := by rfl) (ho : opAt ops T i = some (.load t x, some d, ty) := by kernel_rfl) (hd : d < N := by exact NL rfl) (hl : loadOf P t (enc xs[m]) off = some v := by kernel_rfl) :
 AT (.op (.load t x) (some d) ty) X P N W S0 ops Q Kn i T L C := aLE k hx (fun w hw => Rd.flat (hw.rdO j hC) (List.getElem?_eq_getElem hj)) hv hi ho hd hl
def stE {α R : Type} (dec : List Value → Option α) (off : Nat) (cs : List Value) (v : Value) (k : α → Option R) : Option R :=
 cellsC v (fun vs => putC off cs vs (fun cs => match dec cs with
  | some y => k y
  | none => none))
theorem aSO {t : TypeId} {x y : Operand} {ty : TypeId} {a : Option Addr} {m n cap sz off j e : Nat} {α : Type} {enc : α → List Value} {hh : ∀ x, (enc x).length = sz ∧ ∀ u ∈ enc x, isCell u = true} {xs : List α} {v : Value} {x1 : α} {R : List Ass}
 (hx : evo T x = some (.e a (m * sz) off) := by conv => lhs; whnf) (hy : evv T y = some v := by conv => lhs; whnf) (hp : pull j C = some (slA e (flat sz enc hh) (.slice a n cap) xs, R) := by exact PU) (el : ElT P e α sz enc hh := by infer_instance) (hj : m < xs.length := by exact LEN) (hv : stE el.dec off (enc xs[m]) v some = some x1 := by conv => lhs; whnf)
 (k : OPL X P N W S0 ops Q Kn (i + 1) T L (R ++ [slA e (flat sz enc hh) (.slice a n cap) (xs.set m x1)]))
 (hi : Nat.blt i ops.size = true := by rfl) (ho : opAt ops T i = some (.store t x y, none, ty) := by kernel_rfl) (hst : storeOf P t (enc xs[m]) off v = some (enc x1) := by kernel_rfl) :
 AT (.op (.store t x y) none ty) X P N W S0 ops Q Kn i T L C := opsOne (lt_of_blt hi) (STOREF t x y ty ho j R e a n cap m off xs (by simp [pulls, hp]) xs[m] x1 (List.getElem?_eq_getElem hj) v hx hy hst k)
def Iss (a : Option Addr) (n : Nat) : Prop := 0 < n → a.isSome = true
theorem Iss.get {a : Option Addr} {n : Nat} (h : Iss a n) (hn : 0 < n) : a.isSome = true := h hn
theorem gISS {c : Code} {a : Option Addr} {n cap j : Nat} {e : TypeId} {α : Type} {La : Lay α} {xs : List α} (hC : C[j]? = some (slA e La (.slice a n cap) xs) := by exact NT) (k : Iss a n → CD X P N W S0 c Q T L C) : CD X P N W S0 c Q T L C := by
 unfold CD at *
 exact FACT (Iss a n) (fun w hw hn => SlO.isS (hw.own j hC) hn) k
theorem qLO {t : TypeId} {x : Operand} {d : Nat} {ty : TypeId} {a : Option Addr} {m n cap sz off j : Nat} {e' : TypeId} {α : Type} {enc : α → List Value} {hh : ∀ x, (enc x).length = sz ∧ ∀ u ∈ enc x, isCell u = true} {xs : List α} {v : Value} [TB P]
 (hx : evo T x = some (.e a (m * sz) off) := by conv => lhs; whnf) (hC : C[j]? = some (slA e' (flat sz enc hh) (.slice a n cap) xs) := by exact NT) (hj : m < xs.length := by exact LEN) (hv : ldB (TB.D P) t (enc xs[m]) off some = some v := by conv => lhs; whnf) (k : QL X P N W S0 ops Q Kn (i + 1) ((d, .v v) :: T) L C)
 (ho : opAt ops T i = some (.load t x, some d, ty) := by kernel_rfl) (hd : d < N := by exact NL rfl) (hl : loadOf P t (enc xs[m]) off = some v := by kernel_rfl) :
 QT (.op (.load t x) (some d) ty) X P N W S0 ops Q Kn i T L C := qLE k hx (fun w hw => Rd.flat (hw.rdO j hC) (List.getElem?_eq_getElem hj)) hv ho hd hl
theorem rOWN {e : TypeId} {α : Type} {La : Lay α} {a : Option Addr} {n c j : Nat} {xs xs' : List α} {R : List Ass} (hp : pull j C = some (slA e La (.slice a n c) xs, R) := by exact PU) (hn : n = xs.length := by rfl) (h : xs = xs') :
 RETG (.slice a n c) ⟨HH, fun p => .slice p.1 xs'.length p.2, fun p => [slA e La (.slice p.1 xs'.length p.2) xs']⟩ C := by
 subst h; subst hn
 exact ⟨(a, c), [j], rfl, by simp [pulls, hp]⟩
end rules
abbrev RO {α : Type} (e : TypeId) (La : Lay α) (xs : List α) : Res := ⟨HH, fun p => .slice p.1 xs.length p.2, fun p => [slA e La (.slice p.1 xs.length p.2) xs]⟩
end SX
end Go.Proofs.YtejojcoaohlfbaaGreat
