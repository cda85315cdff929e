/- Texts of this claim, put together by program. -/
import Derived.WalkKit
import Derived.Below
import Derived.Orders
/- A small program logic over the model's own rules: frames as lists of known slots, local variables as boxes, memory that the call owns as a list of assertions. It imports no program. -/
namespace Go.Proofs.YthnbaikmbgaddaaGreat
namespace SX
set_option linter.unusedVariables false
set_option linter.unusedSimpArgs false
open Go

/-! ### Symbolic values -/
/-- v: a value; p: a pointer into the i-th box; e: a pointer to a cell of a slice's array: cell number c + off. -/
inductive SV where
  | v (x : Value)
  | p (i off : Nat)
  | e (a : Option Addr) (c off : Nat)

def addrOf (a : Option Addr) : Addr := a.getD ⟨0, 0, none⟩

def den (bs : List Nat) : SV → Value
  | .v x => x
  | .p i off => .pointer (some ⟨bs.getD i 0, off, none⟩)
  | .e a c off => .pointer (some ((addrOf a).add (c + off)))

abbrev Tm := List (Nat × SV)
abbrev Bx := List (TypeId × List Value)

def lk : Tm → Nat → Option SV
  | [], _ => none
  | (k, x) :: r, i => if k == i then some x else lk r i

def evo (T : Tm) : Operand → Option SV
  | .tmp i => lk T i
  | .const v => some (.v v)
  | .func f => some (.v (.func (.func f) #[] #[]))
  | .global _ => none

def evv (T : Tm) (x : Operand) : Option Value :=
  match evo T x with
  | some (.v v) => some v
  | _ => none

def evw (T : Tm) (x : Operand) : Value := (evv T x).getD undef

/-- what a run comes to that touches no memory -/
def pureOf {α : Type} (P : Program) : Sem α → Option α
  | .pure a => some a
  | .program k => pureOf P (k P)
  | .mark _ k => pureOf P k
  | _ => none

theorem pureOf_run {α : Type} {P : Program} (s : Sem α) : ∀ {x : α}, pureOf P s = some x → ∀ w, s.run P w = .ok x w := by
  induction s with
  | pure a => intro x h w; simp [pureOf] at h; subst h; rfl
  | program k ih => intro x h w; exact ih P h w
  | mark m k ih => intro x h w; exact ih h w
  | _ => intro x h; simp [pureOf] at h

def opnds : Op → Option (List Operand)
  | .pick c a b => some [c, a, b]
  | .binOp _ _ x y _ => some [x, y]
  | .unOp _ _ x => some [x]
  | .convert _ _ x => some [x]
  | .build _ parts => some (parts.toList.map (·.2))
  | .field _ x _ => some [x]
  | .index _ x i => some [x, i]
  | .extract x _ => some [x]
  | .slice _ x lo hi mx => some (x :: (lo.toList ++ hi.toList ++ mx.toList))
  | .makeFunc _ first cap => some (first.toList ++ cap.toList)
  | .nilCheck x => some [x]
  | .makeInterface _ x => some [x]
  | .call c => some ((match c.callee with | .value f => [f] | .invoke r _ => [r] | .builtin _ => []) ++ c.args.toList)
  | _ => none

theorem map_congr_mem {α β : Type} {f g : α → β} (xs : Array α) (h : ∀ x ∈ xs, f x = g x) : xs.map f = xs.map g := Array.map_congr_left h

theorem exec_congr (o : Oper) (l : List Operand) (hl : opnds o.op = some l) (ρ ρ' : Operand → Value) (h : ∀ x ∈ l, ρ x = ρ' x) : execOp ρ o = execOp ρ' o := by
  obtain ⟨dst, op, ty, pos, after, guard⟩ := o
  cases op with
  | pick c a b => simp only [opnds, Option.some.injEq] at hl; subst hl; simp only [execOp]; rw [h c (by simp), h a (by simp), h b (by simp)]
  | binOp b t x y z => simp only [opnds, Option.some.injEq] at hl; subst hl; simp only [execOp]; rw [h x (by simp), h y (by simp)]
  | unOp b t x => simp only [opnds, Option.some.injEq] at hl; subst hl; simp only [execOp]; rw [h x (by simp)]
  | convert b t x => simp only [opnds, Option.some.injEq] at hl; subst hl; simp only [execOp]; rw [h x (by simp)]
  | build t parts =>
    simp only [opnds, Option.some.injEq] at hl; subst hl; simp only [execOp]
    rw [map_congr_mem (f := fun (p : Nat × Operand) => (p.1, ρ p.2)) (g := fun p => (p.1, ρ' p.2)) parts (fun p hp => by
      rw [h p.2 (List.mem_map.2 ⟨p, by simpa using hp, rfl⟩)])]
  | field t x f => simp only [opnds, Option.some.injEq] at hl; subst hl; simp only [execOp]; rw [h x (by simp)]
  | index t x i => simp only [opnds, Option.some.injEq] at hl; subst hl; simp only [execOp]; rw [h x (by simp), h i (by simp)]
  | extract x i => simp only [opnds, Option.some.injEq] at hl; subst hl; simp only [execOp]; rw [h x (by simp)]
  | slice t x lo hi mx =>
    simp only [opnds, Option.some.injEq] at hl; subst hl; simp only [execOp]
    rw [h x (by simp)]
    have e1 : lo.map ρ = lo.map ρ' := by cases lo with | none => rfl | some z => simp; exact h z (by simp)
    have e2 : hi.map ρ = hi.map ρ' := by cases hi with | none => rfl | some z => simp; exact h z (by simp)
    have e3 : mx.map ρ = mx.map ρ' := by cases mx with | none => rfl | some z => simp; exact h z (by simp)
    rw [e1, e2, e3]
  | makeFunc f first cap =>
    simp only [opnds, Option.some.injEq] at hl; subst hl; simp only [execOp]
    rw [map_congr_mem (f := ρ) (g := ρ') first (fun p hp => h p (by simp [hp])), map_congr_mem (f := ρ) (g := ρ') cap (fun p hp => h p (by simp [hp]))]
  | nilCheck x => simp only [opnds, Option.some.injEq] at hl; subst hl; simp only [execOp]; rw [h x (by simp)]
  | makeInterface t x => simp only [opnds, Option.some.injEq] at hl; subst hl; simp only [execOp]; rw [h x (by simp)]
  | call c =>
    obtain ⟨callee, args, at_⟩ := c
    simp only [opnds, Option.some.injEq] at hl; subst hl
    simp only [execOp, resolve]
    have ea : args.map ρ = args.map ρ' := map_congr_mem (f := ρ) (g := ρ') args (fun p hp => h p (by simp [hp]))
    cases callee with
    | builtin b => simp only [ea]
    | invoke r n => simp only [ea, h r (by simp)]
    | value f => simp only [ea, h f (by simp)]
  | _ => simp [opnds] at hl

/-! ### Pure steps, and steps over boxes -/
def fieldOff (P : Program) (s : TypeId) (f : Nat) : Option Nat :=
  match P.underlying s with
  | some (.struct fields) =>
    match fields[f]? with
    | some fd => match P.info? fd.type with
      | some i => if i.size = 0 then none else some fd.offset
      | none => none
    | none => none
  | _ => none

def aggOf (P : Program) (t : TypeId) : Option Bool :=
  match P.underlying t with
  | some (.struct _) | some (.array _ _) => some true
  | some _ => some false
  | none => none

def loadOf (P : Program) (t : TypeId) (cs : List Value) (off : Nat) : Option Value :=
  match aggOf P t with
  | some true => match P.info? t with
    | some i => if off + i.size ≤ cs.length then some (.agg ((cs.drop off).take i.size).toArray) else none
    | none => none
  | some false => cs[off]?
  | none => none

def isCell : Value → Bool
  | .agg _ | .tuple _ => false
  | _ => true

def setCells (cs : List Value) (off : Nat) : List Value → List Value
  | [] => cs
  | v :: r => setCells (cs.set off v) (off + 1) r

def storeOf (P : Program) (t : TypeId) (cs : List Value) (off : Nat) (v : Value) : Option (List Value) :=
  match P.info? t with
  | some i => if v.cells.size = i.size ∧ off + i.size ≤ cs.length ∧ v.cells.toList.all isCell = true then some (setCells cs off v.cells.toList) else none
  | none => none

def put (N : Nat) (T : Tm) (d : Option Nat) (x : SV) : Option Tm :=
  match d with
  | none => some T
  | some d => if d < N then some ((d, x) :: T) else none

def setAt (L : Bx) (i : Nat) (cs : List Value) : Bx :=
  match L, i with
  | [], _ => []
  | (t, _) :: r, 0 => (t, cs) :: r
  | x :: r, i + 1 => x :: setAt r i cs

/-- is the operation wanted? none: not known -/
def wants (ops : Array Oper) (T : Tm) (o : Oper) : Option Bool :=
  match o.guard with
  | none => some true
  | some (j, want) =>
    match (ops[j]?).bind (·.dst) with
    | none => some false
    | some d => match lk T d with
      | some (.v (.bool b)) => some (b == want)
      | some (.v (.tuple _)) => some false
      | _ => none

def go1 (P : Program) (N : Nat) (T : Tm) (L : Bx) (o : Oper) : Option (Tm × Bx) :=
  match o.op with
  | .move x | .assign x => (evo T x).bind fun s => (put N T o.dst s).map (·, L)
  | .fieldAddr s x f =>
    match evo T x, fieldOff P s f with
    | some (.p i off), some k => (put N T o.dst (.p i (off + k))).map (·, L)
    | some (.e a c off), some k => (put N T o.dst (.e a c (off + k))).map (·, L)
    | _, _ => none
  | .nilCheck x =>
    match evo T x with
    | some (.p i off) => (put N T o.dst (.p i off)).map (·, L)
    | some (.e a c off) => (put N T o.dst (.e a c off)).map (·, L)
    | _ => none
  | .load t x =>
    match evo T x with
    | some (.p i off) => match L[i]? with
      | some b => (loadOf P t b.2 off).bind fun v => (put N T o.dst (.v v)).map (·, L)
      | none => none
    | _ => none
  | .store t x y =>
    match evo T x, evv T y with
    | some (.p i off), some v => match L[i]? with
      | some b => (storeOf P t b.2 off v).bind fun cs => (put N T o.dst (.v undef)).map (·, setAt L i cs)
      | none => none
    | _, _ => none
  | .box t x =>
    match evv T x with
    | some v => (put N T o.dst (.p L.length 0)).map (·, L ++ [(t, v.cells.toList)])
    | none => none
  | .alloc t =>
    match (P.info? t).bind (·.zero) with
    | some v => (put N T o.dst (.p L.length 0)).map (·, L ++ [(t, v.cells.toList)])
    | none => none
  | op =>
    match opnds op with
    | some l =>
      if l.all (fun x => (evv T x).isSome) then
        match pureOf P (execOp (evw T) o) with
        | some (.value v) => (put N T o.dst (.v v)).map (·, L)
        | _ => none
      else none
    | none => none

def step1 (P : Program) (N : Nat) (ops : Array Oper) (T : Tm) (L : Bx) (o : Oper) : Option (Tm × Bx) :=
  match wants ops T o with
  | some true => go1 P N T L o
  | some false => (put N T o.dst (.v undef)).map (·, L)
  | none => none

def runP (P : Program) (N : Nat) (ops : Array Oper) : (n : Nat) → List Nat → Tm → Bx → Option (Tm × Bx)
  | 0, _, T, L => some (T, L)
  | _ + 1, [], _, _ => none
  | n + 1, i :: is, T, L =>
    match ops[i]? with
    | some o => match step1 P N ops T L o with
      | some (T', L') => runP P N ops n is T' L'
      | none => none
    | none => none

/-- the named slots alone -/
def keep (T : Tm) : List Nat → Option Tm
  | [] => some []
  | k :: r => match lk T k, keep T r with
    | some x, some T' => some ((k, x) :: T')
    | _, _ => none

end SX
end Go.Proofs.YthnbaikmbgaddaaGreat
/- The logic's states, and its rules: regions, calls, tests, loops, returns. It imports no program. -/
namespace Go.Proofs.YthnbaikmbgaddaaGreat
namespace SX
set_option linter.unusedVariables false
set_option linter.unusedSimpArgs false
open Go Go.RowKit

/-! ### Assertions on memory that the call owns -/
structure Ass where
  φ : World → List Nat → Prop
  st : ∀ w w' fp, φ w fp → (∀ b ∈ fp, w'.heap[b]? = w.heap[b]?) → φ w' fp
  lt : ∀ w fp, φ w fp → ∀ b ∈ fp, b < w.heap.size

/-- Of the blocks that w had, those outside S are as they were. -/
structure Fr (S : List Nat) (w w' : World) : Prop where
  os : w'.os = w.os
  tape : w'.tape = w.tape
  output : w'.output = w.output
  size : w.heap.size ≤ w'.heap.size
  block : ∀ b, b < w.heap.size → b ∉ S → w'.heap[b]? = w.heap[b]?

theorem Fr.refl (S : List Nat) (w : World) : Fr S w w := ⟨rfl, rfl, rfl, Nat.le_refl _, fun _ _ _ => rfl⟩
theorem Fr.trans {S : List Nat} {a b c : World} (h : Fr S a b) (k : Fr S b c) : Fr S a c :=
  ⟨k.os.trans h.os, k.tape.trans h.tape, k.output.trans h.output, Nat.le_trans h.size k.size, fun x hx hn => (k.block x (Nat.lt_of_lt_of_le hx h.size) hn).trans (h.block x hx hn)⟩
/-- a step that may write what is not of the old world, or of S -/
theorem Fr.trans' {S S' : List Nat} {a b c : World} (h : Fr S a b) (k : Fr S' b c) (hs : ∀ x ∈ S', x < a.heap.size → x ∈ S) : Fr S a c :=
  ⟨k.os.trans h.os, k.tape.trans h.tape, k.output.trans h.output, Nat.le_trans h.size k.size, fun x hx hn => (k.block x (Nat.lt_of_lt_of_le hx h.size) (fun hm => hn (hs x hm hx))).trans (h.block x hx hn)⟩
theorem Fr.below {w w' : World} (h : Fr [] w w') : Below w.heap.size w w' := ⟨h.os, h.tape, h.output, h.size, fun b hb => h.block b hb (by simp)⟩
theorem Fr.of_below {w w' : World} (h : Below w.heap.size w w') : Fr [] w w' := ⟨h.os, h.tape, h.output, h.size, fun b hb _ => h.block b hb⟩
theorem Fr.alloc (w : World) (o : Obj) : Fr [] w (w.alloc o) := Fr.of_below ((Below.refl _ _).alloc (Nat.le_refl _) o)

def holds (w : World) : List Ass → List (List Nat) → Prop
  | [], [] => True
  | A :: As, fp :: fps => A.φ w fp ∧ holds w As fps
  | _, _ => False

theorem holds.st {w w' : World} : ∀ {As : List Ass} {fps : List (List Nat)}, holds w As fps → (∀ b ∈ fps.flatten, w'.heap[b]? = w.heap[b]?) → holds w' As fps
  | [], [], _, _ => trivial
  | A :: As, fp :: fps, h, hb => ⟨A.st w w' fp h.1 (fun b hm => hb b (by simp [hm])), holds.st h.2 (fun b hm => hb b (by
      simp only [List.flatten_cons, List.mem_append]; exact .inr hm))⟩
  | [], _ :: _, h, _ => h.elim
  | _ :: _, [], h, _ => h.elim

theorem holds.lt {w : World} : ∀ {As : List Ass} {fps : List (List Nat)}, holds w As fps → ∀ b ∈ fps.flatten, b < w.heap.size
  | [], [], _, b, hb => by simp at hb
  | A :: As, fp :: fps, h, b, hb => by
    simp only [List.flatten_cons, List.mem_append] at hb
    rcases hb with hb | hb
    · exact A.lt w fp h.1 b hb
    · exact holds.lt h.2 b hb
  | [], _ :: _, h, _, _ => h.elim
  | _ :: _, [], h, _, _ => h.elim

theorem holds.append {w : World} : ∀ {As Bs : List Ass} {fps gps : List (List Nat)}, holds w As fps → holds w Bs gps → holds w (As ++ Bs) (fps ++ gps)
  | [], _, [], _, _, h => h
  | A :: As, Bs, fp :: fps, gps, h, k => ⟨h.1, holds.append h.2 k⟩
  | [], _, _ :: _, _, h, _ => h.elim
  | _ :: _, _, [], _, h, _ => h.elim

theorem holds.split {w : World} : ∀ {As Bs : List Ass} {fps : List (List Nat)}, holds w (As ++ Bs) fps → ∃ f g, fps = f ++ g ∧ holds w As f ∧ holds w Bs g
  | [], _, fps, h => ⟨[], fps, rfl, trivial, h⟩
  | A :: As, Bs, fp :: fps, h => by
    obtain ⟨f, g, rfl, h1, h2⟩ := holds.split (As := As) h.2
    exact ⟨fp :: f, g, rfl, ⟨h.1, h1⟩, h2⟩
  | _ :: _, _, [], h => h.elim

/-- the i-th taken out -/
def pull {α : Type} : Nat → List α → Option (α × List α)
  | _, [] => none
  | 0, x :: r => some (x, r)
  | i + 1, x :: r => (pull i r).map fun (y, s) => (y, x :: s)

/-- the named places, each counted in what is left behind the ones before it -/
def pulls {α : Type} : List Nat → List α → Option (List α × List α)
  | [], l => some ([], l)
  | i :: is, l => match pull i l with
    | some (x, r) => (pulls is r).map fun (xs, s) => (x :: xs, s)
    | none => none

theorem holds.pull {w : World} : ∀ (i : Nat) {As : List Ass} {fps : List (List Nat)} {A : Ass} {R : List Ass}, holds w As fps → SX.pull i As = some (A, R) →
    ∃ fp gps, A.φ w fp ∧ holds w R gps ∧ (fp :: gps).Perm fps
  | _, [], fps, A, R, _, hp => by simp [SX.pull] at hp
  | 0, B :: As, fp :: fps, A, R, h, hp => by
    simp only [SX.pull, Option.some.injEq, Prod.mk.injEq] at hp
    obtain ⟨rfl, rfl⟩ := hp
    exact ⟨fp, fps, h.1, h.2, .refl _⟩
  | i + 1, B :: As, fp :: fps, A, R, h, hp => by
    simp only [SX.pull, Option.map_eq_some_iff] at hp
    obtain ⟨⟨y, s⟩, hy, he⟩ := hp
    simp only [Prod.mk.injEq] at he
    obtain ⟨rfl, rfl⟩ := he
    obtain ⟨gp, gps, h1, h2, hperm⟩ := holds.pull i h.2 hy
    exact ⟨gp, fp :: gps, h1, ⟨h.1, h2⟩, (List.Perm.swap _ _ _).trans (hperm.cons _)⟩
  | 0, _ :: _, [], _, _, h, _ => h.elim
  | _ + 1, _ :: _, [], _, _, h, _ => h.elim

theorem holds.pulls {w : World} : ∀ (is : List Nat) {As : List Ass} {fps : List (List Nat)} {X R : List Ass}, holds w As fps → SX.pulls is As = some (X, R) →
    ∃ xps rps, holds w X xps ∧ holds w R rps ∧ (xps ++ rps).Perm fps
  | [], As, fps, X, R, h, hp => by
    simp only [SX.pulls, Option.some.injEq, Prod.mk.injEq] at hp
    obtain ⟨rfl, rfl⟩ := hp
    exact ⟨[], fps, trivial, h, .refl _⟩
  | i :: is, As, fps, X, R, h, hp => by
    simp only [SX.pulls] at hp
    cases h1 : SX.pull i As with
    | none => simp [h1] at hp
    | some q =>
      obtain ⟨A, B⟩ := q
      simp only [h1, Option.map_eq_some_iff] at hp
      obtain ⟨⟨xs, s⟩, h2, he⟩ := hp
      simp only [Prod.mk.injEq] at he
      obtain ⟨rfl, rfl⟩ := he
      obtain ⟨fp, gps, ha, hb, hperm⟩ := holds.pull i h h1
      obtain ⟨xps, rps, hx, hr, hperm2⟩ := holds.pulls is hb h2
      exact ⟨fp :: xps, rps, ⟨ha, hx⟩, hr, (hperm2.cons _).trans hperm⟩

/-! ### States -/
def boxes (w : World) : Bx → List Nat → Prop
  | [], [] => True
  | (t, cs) :: L, b :: bs => w.heap[b]? = some (.cells cs.toArray t (0, 0)) ∧ boxes w L bs
  | _, _ => False

structure Mem (W : World) (S0 : List Nat) (L : Bx) (C : List Ass) (bs : List Nat) (fps : List (List Nat)) (w : World) : Prop where
  fr : Fr S0 W w
  bx : boxes w L bs
  ch : holds w C fps
  nd : (bs ++ fps.flatten).Nodup
  new : ∀ b ∈ bs ++ fps.flatten, b < W.heap.size → b ∈ S0

def Tms (N : Nat) (T : Tm) (bs : List Nat) (a : Act) : Prop :=
  a.defers = [] ∧ a.tmps.size = N ∧ ∀ i x, lk T i = some x → a.tmps[i]? = some (den bs x)

/-- pointers into boxes point into boxes that there are -/
def bounded (n : Nat) : Tm → Prop
  | [] => True
  | (_, .p i _) :: r => i < n ∧ bounded n r
  | _ :: r => bounded n r

def Sat (N : Nat) (W : World) (S0 : List Nat) (T : Tm) (L : Bx) (C : List Ass) (a : Act) (w : World) : Prop :=
  ∃ bs fps, Tms N T bs a ∧ bounded L.length T ∧ Mem W S0 L C bs fps w

def G (N : Nat) (W : World) (S0 : List Nat) (K : Act → World → Prop) (T : Tm) (L : Bx) (C : List Ass) : Prop :=
  ∀ a w, Sat N W S0 T L C a w → K a w
/-- the operations of a region that are left, in their order -/
abbrev OPS (P : Program) (N : Nat) (W : World) (S0 : List Nat) (ops : Array Oper) (Q : Exit → Act → World → Prop) (is : List Nat) (T : Tm) (L : Bx) (C : List Ass) : Prop :=
  G N W S0 (wpOps P ops Q is) T L C
/-- one operation; K: what stands behind it -/
def OP (P : Program) (N : Nat) (W : World) (S0 : List Nat) (ops : Array Oper) (Q : Exit → Act → World → Prop) (i : Nat) (K : Act → World → Prop) (T : Tm) (L : Bx) (C : List Ass) : Prop :=
  ∀ a w, Sat N W S0 T L C a w → wpOp P ops Q i K a w
def CODE (P : Program) (N : Nat) (W : World) (S0 : List Nat) (c : Code) (Q : Exit → Act → World → Prop) (T : Tm) (L : Bx) (C : List Ass) : Prop :=
  ∀ a w, Sat N W S0 T L C a w → c.wp P Q a w
def DONE (N : Nat) (W : World) (S0 : List Nat) (Q : Exit → Act → World → Prop) (e : Exit) (T : Tm) (L : Bx) (C : List Ass) : Prop :=
  ∀ a w, Sat N W S0 T L C a w → Q e a w

theorem boxes_len {w : World} : ∀ {L : Bx} {bs : List Nat}, boxes w L bs → bs.length = L.length
  | [], [], _ => rfl
  | (_, _) :: _, _ :: _, h => by simp [boxes_len h.2]
  | [], _ :: _, h => h.elim
  | _ :: _, [], h => h.elim

theorem boxes.st {w w' : World} : ∀ {L : Bx} {bs : List Nat}, boxes w L bs → (∀ b ∈ bs, w'.heap[b]? = w.heap[b]?) → boxes w' L bs
  | [], [], _, _ => trivial
  | (_, _) :: _, b :: bs, h, hb => ⟨(hb b (by simp)).trans h.1, boxes.st h.2 (fun x hx => hb x (by simp [hx]))⟩
  | [], _ :: _, h, _ => h.elim
  | _ :: _, [], h, _ => h.elim

theorem boxes.at {w : World} : ∀ {L : Bx} {bs : List Nat} {i : Nat} {t : TypeId} {cs : List Value}, boxes w L bs → L[i]? = some (t, cs) →
    ∃ b, bs[i]? = some b ∧ w.heap[b]? = some (.cells cs.toArray t (0, 0))
  | (_, _) :: _, b :: bs, 0, t, cs, h, hi => by simp at hi; obtain ⟨rfl, rfl⟩ := hi; exact ⟨b, rfl, h.1⟩
  | (_, _) :: _, b :: bs, i + 1, t, cs, h, hi => by simpa using boxes.at h.2 (by simpa using hi)
  | [], [], _, _, _, _, hi => by simp at hi
  | [], _ :: _, _, _, _, h, _ => h.elim
  | _ :: _, [], _, _, _, h, _ => h.elim

theorem boxes.snoc {w : World} {t : TypeId} {cs : List Value} {b : Nat} (hb : w.heap[b]? = some (.cells cs.toArray t (0, 0))) :
    ∀ {L : Bx} {bs : List Nat}, boxes w L bs → boxes w (L ++ [(t, cs)]) (bs ++ [b])
  | [], [], _ => ⟨hb, trivial⟩
  | (_, _) :: _, _ :: _, h => ⟨h.1, boxes.snoc hb h.2⟩
  | [], _ :: _, h => h.elim
  | _ :: _, [], h => h.elim

theorem boxes.lt {w : World} : ∀ {L : Bx} {bs : List Nat}, boxes w L bs → ∀ b ∈ bs, b < w.heap.size
  | [], [], _, b, hb => by simp at hb
  | (_, _) :: _, b :: bs, h, x, hx => by
    rcases List.mem_cons.1 hx with rfl | hx
    · have h1 := h.1
      rcases Nat.lt_or_ge x w.heap.size with h2 | h2
      · exact h2
      · rw [Array.getElem?_eq_none h2] at h1; cases h1
    · exact boxes.lt h.2 x hx
  | [], _ :: _, h, _, _ => h.elim
  | _ :: _, [], h, _, _ => h.elim

theorem lk_put {N : Nat} {T T' : Tm} {d : Option Nat} {x : SV} (h : put N T d x = some T') : (d = none ∧ T' = T) ∨ ∃ k, d = some k ∧ k < N ∧ T' = (k, x) :: T := by
  cases d with
  | none => simp [put] at h; exact .inl ⟨rfl, h.symm⟩
  | some k =>
    simp only [put] at h
    split at h
    · rename_i hk; simp at h; exact .inr ⟨k, rfl, hk, h.symm⟩
    · cases h

theorem Tms.put {N : Nat} {T T' : Tm} {bs : List Nat} {a : Act} {d : Option Nat} {x : SV} {v : Value} (h : Tms N T bs a) (hp : SX.put N T d x = some T') (hv : v = den bs x) : Tms N T' bs (a.put d v) := by
  rcases lk_put hp with ⟨rfl, rfl⟩ | ⟨k, rfl, hk, rfl⟩
  · exact h
  · obtain ⟨h1, h2, h3⟩ := h
    refine ⟨h1, by simp [Act.put, h2], fun i y hy => ?_⟩
    simp only [lk] at hy
    simp only [Act.put]
    by_cases hki : k = i
    · subst hki
      simp only [beq_self_eq_true, if_true, Option.some.injEq] at hy
      subst hy; subst hv
      simp [h2, hk]
    · have : (k == i) = false := by simpa using hki
      simp only [this, Bool.false_eq_true, if_false] at hy
      rw [Array.getElem?_setIfInBounds_ne hki]
      exact h3 i y hy

theorem bounded.put {N n : Nat} {T T' : Tm} {d : Option Nat} {x : SV} (h : bounded n T) (hx : ∀ i off, x = .p i off → i < n) (hp : SX.put N T d x = some T') : bounded n T' := by
  rcases lk_put hp with ⟨rfl, rfl⟩ | ⟨k, rfl, hk, rfl⟩
  · exact h
  · cases x with
    | p i off => exact ⟨hx i off rfl, h⟩
    | v _ => exact h
    | e _ _ _ => exact h

theorem bounded.mono {n m : Nat} (hnm : n ≤ m) : ∀ {T : Tm}, bounded n T → bounded m T
  | [], _ => trivial
  | (_, .p i _) :: _, h => ⟨Nat.lt_of_lt_of_le h.1 hnm, bounded.mono hnm h.2⟩
  | (_, .v _) :: r, h => bounded.mono (T := r) hnm h
  | (_, .e _ _ _) :: r, h => bounded.mono (T := r) hnm h

theorem bounded.lk {n : Nat} : ∀ {T : Tm} {i j off : Nat}, bounded n T → SX.lk T i = some (.p j off) → j < n
  | (k, .p q o) :: r, i, j, off, h, hl => by
    simp only [SX.lk] at hl
    split at hl
    · simp at hl; obtain ⟨rfl, rfl⟩ := hl; exact h.1
    · exact bounded.lk h.2 hl
  | (k, .v _) :: r, i, j, off, h, hl => by
    simp only [SX.lk] at hl
    split at hl
    · simp at hl
    · exact bounded.lk (T := r) h hl
  | (k, .e _ _ _) :: r, i, j, off, h, hl => by
    simp only [SX.lk] at hl
    split at hl
    · simp at hl
    · exact bounded.lk (T := r) h hl

theorem bounded.evo {n : Nat} {T : Tm} {x : Operand} {j off : Nat} (h : bounded n T) (hx : SX.evo T x = some (.p j off)) : j < n := by
  cases x with
  | tmp i => exact bounded.lk h hx
  | const v => simp [SX.evo] at hx
  | func f => simp [SX.evo] at hx
  | global g => simp [SX.evo] at hx

theorem Tms.evo {N : Nat} {T : Tm} {bs : List Nat} {a : Act} {x : Operand} {s : SV} (h : Tms N T bs a) (hx : SX.evo T x = some s) : a.eval x = den bs s := by
  cases x with
  | tmp i =>
    have := h.2.2 i s hx
    simp [Act.eval, Array.getD_eq_getD_getElem?, this]
  | const v => simp [SX.evo] at hx; subst hx; rfl
  | func f => simp [SX.evo] at hx; subst hx; rfl
  | global g => simp [SX.evo] at hx

theorem Tms.evv {N : Nat} {T : Tm} {bs : List Nat} {a : Act} {x : Operand} {v : Value} (h : Tms N T bs a) (hx : SX.evv T x = some v) : a.eval x = v := by
  unfold SX.evv at hx
  split at hx
  · rename_i y hy
    simp at hx; subst hx
    simpa [den] using h.evo hy
  · cases hx

theorem den_snoc (bs : List Nat) (b : Nat) {n : Nat} (hn : bs.length = n) : ∀ (x : SV), (∀ i off, x = .p i off → i < n) → den (bs ++ [b]) x = den bs x
  | .v _, _ => rfl
  | .e _ _ _, _ => rfl
  | .p i off, h => by
    have := h i off rfl
    simp [den, List.getElem?_append_left (show i < bs.length by omega)]

theorem bounded.all {n : Nat} {T : Tm} (h : bounded n T) : ∀ i x, SX.lk T i = some x → ∀ j off, x = .p j off → j < n := by
  rintro i x hx j off rfl
  exact h.lk hx

end SX
end Go.Proofs.YthnbaikmbgaddaaGreat
