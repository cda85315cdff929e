/- Texts of this claim, put together by program. -/
import Derived.WalkKit
import Derived.Below
import Derived.Orders
namespace Go.Proofs.YtejojcoaohlfbaaGreat
namespace SX
set_option linter.unusedVariables false
set_option linter.unusedSimpArgs false
open Go
inductive SV where
 | v (x : Value)
 | p (i off : Nat)
 | e (a : Option Addr) (c off : Nat)
def addrOf (a : Option Addr) : Addr := a.getD ⟨0, 0, none⟩
def den (bs : List Nat) : SV → Value
 | .v x => x
 | .p i off => .pointer (some ⟨bs.getD i 0, off, none⟩)
 | .e a c off => .pointer (some ((addrOf a).add (c + off)))
abbrev Tm := List (Nat × SV)
abbrev Bx := List (TypeId × List Value)
def lk : Tm → Nat → Option SV
 | [], _ => none
 | (k, x) :: r, i => if k == i then some x else lk r i
def evo (T : Tm) : Operand → Option SV
 | .tmp i => lk T i
 | .const v => some (.v v)
 | .func f => some (.v (.func (.func f) #[] #[]))
 | .global _ => none
def evv (T : Tm) (x : Operand) : Option Value :=
 match evo T x with
 | some (.v v) => some v
 | _ => none
def evw (T : Tm) (x : Operand) : Value := (evv T x).getD undef
def pureOf {α : Type} (P : Program) : Sem α → Option α
 | .pure a => some a
 | .program k => pureOf P (k P)
 | .mark _ k => pureOf P k
 | _ => none
theorem pureOf_run {α : Type} {P : Program} (s : Sem α) : ∀ {x : α}, pureOf P s = some x → ∀ w, s.run P w = .ok x w := by
 induction s with
 | pure a => intro x h w; simp [pureOf] at h; subst h; rfl
 | program k ih => intro x h w; exact ih P h w
 | mark m k ih => intro x h w; exact ih h w
 | _ => intro x h; simp [pureOf] at h
def opnds : Op → Option (List Operand)
 | .pick c a b => some [c, a, b]
 | .binOp _ _ x y _ => some [x, y]
 | .unOp _ _ x => some [x]
 | .convert _ _ x => some [x]
 | .build _ parts => some (parts.toList.map (·.2))
 | .field _ x _ => some [x]
 | .index _ x i => some [x, i]
 | .extract x _ => some [x]
 | .slice _ x lo hi mx => some (x :: (lo.toList ++ hi.toList ++ mx.toList))
 | .makeFunc _ first cap => some (first.toList ++ cap.toList)
 | .nilCheck x => some [x]
 | .makeInterface _ x => some [x]
 | .call c => some ((match c.callee with | .value f => [f] | .invoke r _ => [r] | .builtin _ => []) ++ c.args.toList)
 | _ => none
theorem map_congr_mem {α β : Type} {f g : α → β} (xs : Array α) (h : ∀ x ∈ xs, f x = g x) : xs.map f = xs.map g := Array.map_congr_left h
theorem exec_congr (o : Oper) (l : List Operand) (hl : opnds o.op = some l) (ρ ρ' : Operand → Value) (h : ∀ x ∈ l, ρ x = ρ' x) : execOp ρ o = execOp ρ' o := by
 obtain ⟨dst, op, ty, pos, after, guard⟩ := o
 cases op with
 | pick c a b => simp only [opnds, Option.some.injEq] at hl; subst hl; simp only [execOp]; rw [h c (by simp), h a (by simp), h b (by simp)]
 | binOp b t x y z => simp only [opnds, Option.some.injEq] at hl; subst hl; simp only [execOp]; rw [h x (by simp), h y (by simp)]
 | unOp b t x => simp only [opnds, Option.some.injEq] at hl; subst hl; simp only [execOp]; rw [h x (by simp)]
 | convert b t x => simp only [opnds, Option.some.injEq] at hl; subst hl; simp only [execOp]; rw [h x (by simp)]
 | build t parts =>
   simp only [opnds, Option.some.injEq] at hl; subst hl; simp only [execOp]
   rw [map_congr_mem (f := fun (p : Nat × Operand) => (p.1, ρ p.2)) (g := fun p => (p.1, ρ' p.2)) parts (fun p hp => by
    rw [h p.2 (List.mem_map.2 ⟨p, by simpa using hp, rfl⟩)])]
 | field t x f => simp only [opnds, Option.some.injEq] at hl; subst hl; simp only [execOp]; rw [h x (by simp)]
 | index t x i => simp only [opnds, Option.some.injEq] at hl; subst hl; simp only [execOp]; rw [h x (by simp), h i (by simp)]
 | extract x i => simp only [opnds, Option.some.injEq] at hl; subst hl; simp only [execOp]; rw [h x (by simp)]
 | slice t x lo hi mx =>
   simp only [opnds, Option.some.injEq] at hl; subst hl; simp only [execOp]
   rw [h x (by simp)]
   have e1 : lo.map ρ = lo.map ρ' := by cases lo with | none => rfl | some z => simp; exact h z (by simp)
   have e2 : hi.map ρ = hi.map ρ' := by cases hi with | none => rfl | some z => simp; exact h z (by simp)
   have e3 : mx.map ρ = mx.map ρ' := by cases mx with | none => rfl | some z => simp; exact h z (by simp)
   rw [e1, e2, e3]
 | makeFunc f first cap =>
   simp only [opnds, Option.some.injEq] at hl; subst hl; simp only [execOp]
   rw [map_congr_mem (f := ρ) (g := ρ') first (fun p hp => h p (by simp [hp])), map_congr_mem (f := ρ) (g := ρ') cap (fun p hp => h p (by simp [hp]))]
 | nilCheck x => simp only [opnds, Option.some.injEq] at hl; subst hl; simp only [execOp]; rw [h x (by simp)]
 | makeInterface t x => simp only [opnds, Option.some.injEq] at hl; subst hl; simp only [execOp]; rw [h x (by simp)]
 | call c =>
   obtain ⟨callee, args, at_⟩ := c
   simp only [opnds, Option.some.injEq] at hl; subst hl
   simp only [execOp, resolve]
   have ea : args.map ρ = args.map ρ' := map_congr_mem (f := ρ) (g := ρ') args (fun p hp => h p (by simp [hp]))
   cases callee with
   | builtin b => simp only [ea]
   | invoke r n => simp only [ea, h r (by simp)]
   | value f => simp only [ea, h f (by simp)]
 | _ => simp [opnds] at hl
def fieldOff (P : Program) (s : TypeId) (f : Nat) : Option Nat :=
 match P.underlying s with
 | some (.struct fields) =>
   match fields[f]? with
   | some fd => match P.info? fd.type with
     | some i => if i.size = 0 then none else some fd.offset
     | none => none
   | none => none
 | _ => none
def aggOf (P : Program) (t : TypeId) : Option Bool :=
 match P.underlying t with
 | some (.struct _) | some (.array _ _) => some true
 | some _ => some false
 | none => none
def loadOf (P : Program) (t : TypeId) (cs : List Value) (off : Nat) : Option Value :=
 match aggOf P t with
 | some true => match P.info? t with
   | some i => if off + i.size ≤ cs.length then some (.agg ((cs.drop off).take i.size).toArray) else none
   | none => none
 | some false => cs[off]?
 | none => none
def isCell : Value → Bool
 | .agg _ | .tuple _ => false
 | _ => true
def setCells (cs : List Value) (off : Nat) : List Value → List Value
 | [] => cs
 | v :: r => setCells (cs.set off v) (off + 1) r
def storeOf (P : Program) (t : TypeId) (cs : List Value) (off : Nat) (v : Value) : Option (List Value) :=
 match P.info? t with
 | some i => if v.cells.size = i.size ∧ off + i.size ≤ cs.length ∧ v.cells.toList.all isCell = true then some (setCells cs off v.cells.toList) else none
 | none => none
def put (N : Nat) (T : Tm) (d : Option Nat) (x : SV) : Option Tm :=
 match d with
 | none => some T
 | some d => if d < N then some ((d, x) :: T) else none
def setAt (L : Bx) (i : Nat) (cs : List Value) : Bx :=
 match L, i with
 | [], _ => []
 | (t, _) :: r, 0 => (t, cs) :: r
 | x :: r, i + 1 => x :: setAt r i cs
def wants (ops : Array Oper) (T : Tm) (o : Oper) : Option Bool :=
 match o.guard with
 | none => some true
 | some (j, want) =>
   match (ops[j]?).bind (·.dst) with
   | none => some false
   | some d => match lk T d with
     | some (.v (.bool b)) => some (b == want)
     | some (.v (.tuple _)) => some false
     | _ => none
def go1 (P : Program) (N : Nat) (T : Tm) (L : Bx) (o : Oper) : Option (Tm × Bx) :=
 match o.op with
 | .move x | .assign x => (evo T x).bind fun s => (put N T o.dst s).map (·, L)
 | .fieldAddr s x f =>
   match evo T x, fieldOff P s f with
   | some (.p i off), some k => (put N T o.dst (.p i (off + k))).map (·, L)
   | some (.e a c off), some k => (put N T o.dst (.e a c (off + k))).map (·, L)
   | _, _ => none
 | .nilCheck x =>
   match evo T x with
   | some (.p i off) => (put N T o.dst (.p i off)).map (·, L)
   | some (.e a c off) => (put N T o.dst (.e a c off)).map (·, L)
   | _ => none
 | .load t x =>
   match evo T x with
   | some (.p i off) => match L[i]? with
     | some b => (loadOf P t b.2 off).bind fun v => (put N T o.dst (.v v)).map (·, L)
     | none => none
   | _ => none
 | .store t x y =>
   match evo T x, evv T y with
   | some (.p i off), some v => match L[i]? with
     | some b => (storeOf P t b.2 off v).bind fun cs => (put N T o.dst (.v undef)).map (·, setAt L i cs)
     | none => none
   | _, _ => none
 | .box t x =>
   match evv T x with
   | some v => (put N T o.dst (.p L.length 0)).map (·, L ++ [(t, v.cells.toList)])
   | none => none
 | .alloc t =>
   match (P.info? t).bind (·.zero) with
   | some v => (put N T o.dst (.p L.length 0)).map (·, L ++ [(t, v.cells.toList)])
   | none => none
 | op =>
   match opnds op with
   | some l =>
     if l.all (fun x => (evv T x).isSome) then
      match pureOf P (execOp (evw T) o) with
      | some (.value v) => (put N T o.dst (.v v)).map (·, L)
      | _ => none
     else none
   | none => none
def step1 (P : Program) (N : Nat) (ops : Array Oper) (T : Tm) (L : Bx) (o : Oper) : Option (Tm × Bx) :=
 match wants ops T o with
 | some true => go1 P N T L o
 | some false => (put N T o.dst (.v undef)).map (·, L)
 | none => none
def runP (P : Program) (N : Nat) (ops : Array Oper) : (n : Nat) → List Nat → Tm → Bx → Option (Tm × Bx)
 | 0, _, T, L => some (T, L)
 | _ + 1, [], _, _ => none
 | n + 1, i :: is, T, L =>
   match ops[i]? with
   | some o => match step1 P N ops T L o with
     | some (T', L') => runP P N ops n is T' L'
     | none => none
   | none => none
def keep (T : Tm) : List Nat → Option Tm
 | [] => some []
 | k :: r => match lk T k, keep T r with
   | some x, some T' => some ((k, x) :: T')
   | _, _ => none
open Go.RowKit
structure Ass where
 φ : World → List Nat → Prop
 st : ∀ w w' fp, φ w fp → (∀ b ∈ fp, w'.heap[b]? = w.heap[b]?) → φ w' fp
 lt : ∀ w fp, φ w fp → ∀ b ∈ fp, b < w.heap.size
structure Fr (S : List Nat) (w w' : World) : Prop where
 os : w'.os = w.os
 tape : w'.tape = w.tape
 output : w'.output = w.output
 size : w.heap.size ≤ w'.heap.size
 block : ∀ b, b < w.heap.size → b ∉ S → w'.heap[b]? = w.heap[b]?
theorem Fr.refl (S : List Nat) (w : World) : Fr S w w := ⟨rfl, rfl, rfl, Nat.le_refl _, fun _ _ _ => rfl⟩
theorem Fr.trans {S : List Nat} {a b c : World} (h : Fr S a b) (k : Fr S b c) : Fr S a c :=
 ⟨k.os.trans h.os, k.tape.trans h.tape, k.output.trans h.output, Nat.le_trans h.size k.size, fun x hx hn => (k.block x (Nat.lt_of_lt_of_le hx h.size) hn).trans (h.block x hx hn)⟩
theorem Fr.trans' {S S' : List Nat} {a b c : World} (h : Fr S a b) (k : Fr S' b c) (hs : ∀ x ∈ S', x < a.heap.size → x ∈ S) : Fr S a c :=
 ⟨k.os.trans h.os, k.tape.trans h.tape, k.output.trans h.output, Nat.le_trans h.size k.size, fun x hx hn => (k.block x (Nat.lt_of_lt_of_le hx h.size) (fun hm => hn (hs x hm hx))).trans (h.block x hx hn)⟩
theorem Fr.below {w w' : World} (h : Fr [] w w') : Below w.heap.size w w' := ⟨h.os, h.tape, h.output, h.size, fun b hb => h.block b hb (by simp)⟩
theorem Fr.of_below {w w' : World} (h : Below w.heap.size w w') : Fr [] w w' := ⟨h.os, h.tape, h.output, h.size, fun b hb _ => h.block b hb⟩
theorem Fr.alloc (w : World) (o : Obj) : Fr [] w (w.alloc o) := Fr.of_below ((Below.refl _ _).alloc (Nat.le_refl _) o)
def holds (w : World) : List Ass → List (List Nat) → Prop
 | [], [] => True
 | A :: As, fp :: fps => A.φ w fp ∧ holds w As fps
 | _, _ => False
theorem holds.st {w w' : World} : ∀ {As : List Ass} {fps : List (List Nat)}, holds w As fps → (∀ b ∈ fps.flatten, w'.heap[b]? = w.heap[b]?) → holds w' As fps
 | [], [], _, _ => trivial
 | A :: As, fp :: fps, h, hb => ⟨A.st w w' fp h.1 (fun b hm => hb b (by simp [hm])), holds.st h.2 (fun b hm => hb b (by
     simp only [List.flatten_cons, List.mem_append]; exact .inr hm))⟩
 | [], _ :: _, h, _ => h.elim
 | _ :: _, [], h, _ => h.elim
theorem holds.lt {w : World} : ∀ {As : List Ass} {fps : List (List Nat)}, holds w As fps → ∀ b ∈ fps.flatten, b < w.heap.size
 | [], [], _, b, hb => by simp at hb
 | A :: As, fp :: fps, h, b, hb => by
   simp only [List.flatten_cons, List.mem_append] at hb
   rcases hb with hb | hb
   · exact A.lt w fp h.1 b hb
   · exact holds.lt h.2 b hb
 | [], _ :: _, h, _, _ => h.elim
 | _ :: _, [], h, _, _ => h.elim
theorem holds.append {w : World} : ∀ {As Bs : List Ass} {fps gps : List (List Nat)}, holds w As fps → holds w Bs gps → holds w (As ++ Bs) (fps ++ gps)
 | [], _, [], _, _, h => h
 | A :: As, Bs, fp :: fps, gps, h, k => ⟨h.1, holds.append h.2 k⟩
 | [], _, _ :: _, _, h, _ => h.elim
 | _ :: _, _, [], _, h, _ => h.elim
theorem holds.split {w : World} : ∀ {As Bs : List Ass} {fps : List (List Nat)}, holds w (As ++ Bs) fps → ∃ f g, fps = f ++ g ∧ holds w As f ∧ holds w Bs g
 | [], _, fps, h => ⟨[], fps, rfl, trivial, h⟩
 | A :: As, Bs, fp :: fps, h => by
   obtain ⟨f, g, rfl, h1, h2⟩ := holds.split (As := As) h.2
   exact ⟨fp :: f, g, rfl, ⟨h.1, h1⟩, h2⟩
 | _ :: _, _, [], h => h.elim
def pull {α : Type} : Nat → List α → Option (α × List α)
 | _, [] => none
 | 0, x :: r => some (x, r)
 | i + 1, x :: r => (pull i r).map fun (y, s) => (y, x :: s)
def pulls {α : Type} : List Nat → List α → Option (List α × List α)
 | [], l => some ([], l)
 | i :: is, l => match pull i l with
   | some (x, r) => (pulls is r).map fun (xs, s) => (x :: xs, s)
   | none => none
theorem holds.pull {w : World} : ∀ (i : Nat) {As : List Ass} {fps : List (List Nat)} {A : Ass} {R : List Ass}, holds w As fps → SX.pull i As = some (A, R) →
 ∃ fp gps, A.φ w fp ∧ holds w R gps ∧ (fp :: gps).Perm fps
 | _, [], fps, A, R, _, hp => by simp [SX.pull] at hp
 | 0, B :: As, fp :: fps, A, R, h, hp => by
   simp only [SX.pull, Option.some.injEq, Prod.mk.injEq] at hp
   obtain ⟨rfl, rfl⟩ := hp
   exact ⟨fp, fps, h.1, h.2, .refl _⟩
 | i + 1, B :: As, fp :: fps, A, R, h, hp => by
   simp only [SX.pull, Option.map_eq_some_iff] at hp
   obtain ⟨⟨y, s⟩, hy, he⟩ := hp
   simp only [Prod.mk.injEq] at he
   obtain ⟨rfl, rfl⟩ := he
   obtain ⟨gp, gps, h1, h2, hperm⟩ := holds.pull i h.2 hy
   exact ⟨gp, fp :: gps, h1, ⟨h.1, h2⟩, (List.Perm.swap _ _ _).trans (hperm.cons _)⟩
 | 0, _ :: _, [], _, _, h, _ => h.elim
 | _ + 1, _ :: _, [], _, _, h, _ => h.elim
theorem holds.pulls {w : World} : ∀ (is : List Nat) {As : List Ass} {fps : List (List Nat)} {X R : List Ass}, holds w As fps → SX.pulls is As = some (X, R) →
 ∃ xps rps, holds w X xps ∧ holds w R rps ∧ (xps ++ rps).Perm fps
 | [], As, fps, X, R, h, hp => by
   simp only [SX.pulls, Option.some.injEq, Prod.mk.injEq] at hp
   obtain ⟨rfl, rfl⟩ := hp
   exact ⟨[], fps, trivial, h, .refl _⟩
 | i :: is, As, fps, X, R, h, hp => by
   simp only [SX.pulls] at hp
   cases h1 : SX.pull i As with
   | none => simp [h1] at hp
   | some q =>
     obtain ⟨A, B⟩ := q
     simp only [h1, Option.map_eq_some_iff] at hp
     obtain ⟨⟨xs, s⟩, h2, he⟩ := hp
     simp only [Prod.mk.injEq] at he
     obtain ⟨rfl, rfl⟩ := he
     obtain ⟨fp, gps, ha, hb, hperm⟩ := holds.pull i h h1
     obtain ⟨xps, rps, hx, hr, hperm2⟩ := holds.pulls is hb h2
     exact ⟨fp :: xps, rps, ⟨ha, hx⟩, hr, (hperm2.cons _).trans hperm⟩
def boxes (w : World) : Bx → List Nat → Prop
 | [], [] => True
 | (t, cs) :: L, b :: bs => w.heap[b]? = some (.cells cs.toArray t (0, 0)) ∧ boxes w L bs
 | _, _ => False
structure Mem (W : World) (S0 : List Nat) (L : Bx) (C : List Ass) (bs : List Nat) (fps : List (List Nat)) (w : World) : Prop where
 fr : Fr S0 W w
 bx : boxes w L bs
 ch : holds w C fps
 nd : (bs ++ fps.flatten).Nodup
 new : ∀ b ∈ bs ++ fps.flatten, b < W.heap.size → b ∈ S0
def Tms (N : Nat) (T : Tm) (bs : List Nat) (a : Act) : Prop :=
 a.defers = [] ∧ a.tmps.size = N ∧ ∀ i x, lk T i = some x → a.tmps[i]? = some (den bs x)
def bounded (n : Nat) : Tm → Prop
 | [] => True
 | (_, .p i _) :: r => i < n ∧ bounded n r
 | _ :: r => bounded n r
def Sat (N : Nat) (W : World) (S0 : List Nat) (T : Tm) (L : Bx) (C : List Ass) (a : Act) (w : World) : Prop :=
 ∃ bs fps, Tms N T bs a ∧ bounded L.length T ∧ Mem W S0 L C bs fps w
def G (N : Nat) (W : World) (S0 : List Nat) (K : Act → World → Prop) (T : Tm) (L : Bx) (C : List Ass) : Prop :=
 ∀ a w, Sat N W S0 T L C a w → K a w
abbrev OPS (P : Program) (N : Nat) (W : World) (S0 : List Nat) (ops : Array Oper) (Q : Exit → Act → World → Prop) (is : List Nat) (T : Tm) (L : Bx) (C : List Ass) : Prop :=
 G N W S0 (wpOps P ops Q is) T L C
def OP (P : Program) (N : Nat) (W : World) (S0 : List Nat) (ops : Array Oper) (Q : Exit → Act → World → Prop) (i : Nat) (K : Act → World → Prop) (T : Tm) (L : Bx) (C : List Ass) : Prop :=
 ∀ a w, Sat N W S0 T L C a w → wpOp P ops Q i K a w
def CODE (P : Program) (N : Nat) (W : World) (S0 : List Nat) (c : Code) (Q : Exit → Act → World → Prop) (T : Tm) (L : Bx) (C : List Ass) : Prop :=
 ∀ a w, Sat N W S0 T L C a w → c.wp P Q a w
def DONE (N : Nat) (W : World) (S0 : List Nat) (Q : Exit → Act → World → Prop) (e : Exit) (T : Tm) (L : Bx) (C : List Ass) : Prop :=
 ∀ a w, Sat N W S0 T L C a w → Q e a w
theorem boxes_len {w : World} : ∀ {L : Bx} {bs : List Nat}, boxes w L bs → bs.length = L.length
 | [], [], _ => rfl
 | (_, _) :: _, _ :: _, h => by simp [boxes_len h.2]
 | [], _ :: _, h => h.elim
 | _ :: _, [], h => h.elim
theorem boxes.st {w w' : World} : ∀ {L : Bx} {bs : List Nat}, boxes w L bs → (∀ b ∈ bs, w'.heap[b]? = w.heap[b]?) → boxes w' L bs
 | [], [], _, _ => trivial
 | (_, _) :: _, b :: bs, h, hb => ⟨(hb b (by simp)).trans h.1, boxes.st h.2 (fun x hx => hb x (by simp [hx]))⟩
 | [], _ :: _, h, _ => h.elim
 | _ :: _, [], h, _ => h.elim
theorem boxes.at {w : World} : ∀ {L : Bx} {bs : List Nat} {i : Nat} {t : TypeId} {cs : List Value}, boxes w L bs → L[i]? = some (t, cs) →
 ∃ b, bs[i]? = some b ∧ w.heap[b]? = some (.cells cs.toArray t (0, 0))
 | (_, _) :: _, b :: bs, 0, t, cs, h, hi => by simp at hi; obtain ⟨rfl, rfl⟩ := hi; exact ⟨b, rfl, h.1⟩
 | (_, _) :: _, b :: bs, i + 1, t, cs, h, hi => by simpa using boxes.at h.2 (by simpa using hi)
 | [], [], _, _, _, _, hi => by simp at hi
 | [], _ :: _, _, _, _, h, _ => h.elim
 | _ :: _, [], _, _, _, h, _ => h.elim
theorem boxes.snoc {w : World} {t : TypeId} {cs : List Value} {b : Nat} (hb : w.heap[b]? = some (.cells cs.toArray t (0, 0))) :
 ∀ {L : Bx} {bs : List Nat}, boxes w L bs → boxes w (L ++ [(t, cs)]) (bs ++ [b])
 | [], [], _ => ⟨hb, trivial⟩
 | (_, _) :: _, _ :: _, h => ⟨h.1, boxes.snoc hb h.2⟩
 | [], _ :: _, h => h.elim
 | _ :: _, [], h => h.elim
theorem boxes.lt {w : World} : ∀ {L : Bx} {bs : List Nat}, boxes w L bs → ∀ b ∈ bs, b < w.heap.size
 | [], [], _, b, hb => by simp at hb
 | (_, _) :: _, b :: bs, h, x, hx => by
   rcases List.mem_cons.1 hx with rfl | hx
   · have h1 := h.1
     rcases Nat.lt_or_ge x w.heap.size with h2 | h2
     · exact h2
     · rw [Array.getElem?_eq_none h2] at h1; cases h1
   · exact boxes.lt h.2 x hx
 | [], _ :: _, h, _, _ => h.elim
 | _ :: _, [], h, _, _ => h.elim
theorem lk_put {N : Nat} {T T' : Tm} {d : Option Nat} {x : SV} (h : put N T d x = some T') : (d = none ∧ T' = T) ∨ ∃ k, d = some k ∧ k < N ∧ T' = (k, x) :: T := by
 cases d with
 | none => simp [put] at h; exact .inl ⟨rfl, h.symm⟩
 | some k =>
   simp only [put] at h
   split at h
   · rename_i hk; simp at h; exact .inr ⟨k, rfl, hk, h.symm⟩
   · cases h
theorem Tms.put {N : Nat} {T T' : Tm} {bs : List Nat} {a : Act} {d : Option Nat} {x : SV} {v : Value} (h : Tms N T bs a) (hp : SX.put N T d x = some T') (hv : v = den bs x) : Tms N T' bs (a.put d v) := by
 rcases lk_put hp with ⟨rfl, rfl⟩ | ⟨k, rfl, hk, rfl⟩
 · exact h
 · obtain ⟨h1, h2, h3⟩ := h
   refine ⟨h1, by simp [Act.put, h2], fun i y hy => ?_⟩
   simp only [lk] at hy
   simp only [Act.put]
   by_cases hki : k = i
   · subst hki
     simp only [beq_self_eq_true, if_true, Option.some.injEq] at hy
     subst hy; subst hv
     simp [h2, hk]
   · have : (k == i) = false := by simpa using hki
     simp only [this, Bool.false_eq_true, if_false] at hy
     rw [Array.getElem?_setIfInBounds_ne hki]
     exact h3 i y hy
theorem bounded.put {N n : Nat} {T T' : Tm} {d : Option Nat} {x : SV} (h : bounded n T) (hx : ∀ i off, x = .p i off → i < n) (hp : SX.put N T d x = some T') : bounded n T' := by
 rcases lk_put hp with ⟨rfl, rfl⟩ | ⟨k, rfl, hk, rfl⟩
 · exact h
 · cases x with
   | p i off => exact ⟨hx i off rfl, h⟩
   | v _ => exact h
   | e _ _ _ => exact h
theorem bounded.mono {n m : Nat} (hnm : n ≤ m) : ∀ {T : Tm}, bounded n T → bounded m T
 | [], _ => trivial
 | (_, .p i _) :: _, h => ⟨Nat.lt_of_lt_of_le h.1 hnm, bounded.mono hnm h.2⟩
 | (_, .v _) :: r, h => bounded.mono (T := r) hnm h
 | (_, .e _ _ _) :: r, h => bounded.mono (T := r) hnm h
theorem bounded.lk {n : Nat} : ∀ {T : Tm} {i j off : Nat}, bounded n T → SX.lk T i = some (.p j off) → j < n
 | (k, .p q o) :: r, i, j, off, h, hl => by
   simp only [SX.lk] at hl
   split at hl
   · simp at hl; obtain ⟨rfl, rfl⟩ := hl; exact h.1
   · exact bounded.lk h.2 hl
 | (k, .v _) :: r, i, j, off, h, hl => by
   simp only [SX.lk] at hl
   split at hl
   · simp at hl
   · exact bounded.lk (T := r) h hl
 | (k, .e _ _ _) :: r, i, j, off, h, hl => by
   simp only [SX.lk] at hl
   split at hl
   · simp at hl
   · exact bounded.lk (T := r) h hl
theorem bounded.evo {n : Nat} {T : Tm} {x : Operand} {j off : Nat} (h : bounded n T) (hx : SX.evo T x = some (.p j off)) : j < n := by
 cases x with
 | tmp i => exact bounded.lk h hx
 | const v => simp [SX.evo] at hx
 | func f => simp [SX.evo] at hx
 | global g => simp [SX.evo] at hx
theorem Tms.evo {N : Nat} {T : Tm} {bs : List Nat} {a : Act} {x : Operand} {s : SV} (h : Tms N T bs a) (hx : SX.evo T x = some s) : a.eval x = den bs s := by
 cases x with
 | tmp i =>
   have := h.2.2 i s hx
   simp [Act.eval, Array.getD_eq_getD_getElem?, this]
 | const v => simp [SX.evo] at hx; subst hx; rfl
 | func f => simp [SX.evo] at hx; subst hx; rfl
 | global g => simp [SX.evo] at hx
theorem Tms.evv {N : Nat} {T : Tm} {bs : List Nat} {a : Act} {x : Operand} {v : Value} (h : Tms N T bs a) (hx : SX.evv T x = some v) : a.eval x = v := by
 unfold SX.evv at hx
 split at hx
 · rename_i y hy
   simp at hx; subst hx
   simpa [den] using h.evo hy
 · cases hx
theorem den_snoc (bs : List Nat) (b : Nat) {n : Nat} (hn : bs.length = n) : ∀ (x : SV), (∀ i off, x = .p i off → i < n) → den (bs ++ [b]) x = den bs x
 | .v _, _ => rfl
 | .e _ _ _, _ => rfl
 | .p i off, h => by
   have := h i off rfl
   simp [den, List.getElem?_append_left (show i < bs.length by omega)]
theorem bounded.all {n : Nat} {T : Tm} (h : bounded n T) : ∀ i x, SX.lk T i = some x → ∀ j off, x = .p j off → j < n := by
 rintro i x hx j off rfl
 exact h.lk hx
theorem cell_box {w : World} {b : Nat} {cs : List Value} {t : TypeId} (h : w.heap[b]? = some (.cells cs.toArray t (0, 0))) (i : Nat) : w.cell? ⟨b, i, none⟩ = cs[i]? := by
 simp [World.cell?, h]
theorem frozen_box {w : World} {b : Nat} {cs : List Value} {t : TypeId} (h : w.heap[b]? = some (.cells cs.toArray t (0, 0))) (i : Nat) : w.frozen? ⟨b, i, none⟩ = false := by
 simp [World.frozen?, h]
theorem add_lit (b o n : Nat) : (⟨b, o, none⟩ : Addr).add n = ⟨b, o + n, none⟩ := by
 unfold Addr.add
 by_cases h : n = 0 <;> simp [h]
theorem run_loadCellsFrom {P : Program} {w : World} (a : Addr) : ∀ (n i : Nat) (acc : Array Value) (vs : List Value), vs.length = n → (∀ j, j < n → w.cell? (a.add (i + j)) = vs[j]?) →
 (loadCellsFrom a i n acc).run P w = .ok (acc ++ vs.toArray) w
 | 0, i, acc, vs, hl, h => by
   have : vs = [] := List.eq_nil_of_length_eq_zero hl
   subst this
   simp [loadCellsFrom, Sem.run_pure]
 | n + 1, i, acc, vs, hl, h => by
   cases vs with
   | nil => simp at hl
   | cons v vs =>
     have h0 := h 0 (by omega)
     simp only [Nat.add_zero, List.getElem?_cons_zero] at h0
     have ih := run_loadCellsFrom (P := P) (w := w) a n (i + 1) (acc.push v) vs (by simpa using hl) (fun j hj => by
      have := h (j + 1) (by omega)
      rw [show i + 1 + j = i + (j + 1) by omega]
      simpa using this)
     have hload : (load (a.add i)).run P w = .ok v w := by simp [load, Sem.run, h0]
     simp only [loadCellsFrom, Sem.run_bind, hload, Result.andThen_ok]
     rw [ih]
     simp
theorem run_isAgg {P : Program} {w : World} {t : TypeId} {b : Bool} (h : aggOf P t = some b) : (isAgg t).run P w = .ok b w := by
 unfold aggOf at h
 unfold isAgg
 cases hu : P.underlying t with
 | none => simp [hu] at h
 | some d =>
   rw [Sem.run_bind, run_underlying hu w]
   simp only [hu] at h
   cases d <;> simp_all [Sem.run_pure]
theorem run_sizeOf {P : Program} {w : World} {t : TypeId} {i : TypeInfo} (h : P.info? t = some i) : (sizeOf t).run P w = .ok i.size w := by
 simp [sizeOf, typeInfo, h]
theorem run_loadVar_cells {P : Program} {w : World} {t : TypeId} {a : Addr} {v : Value} {b : Bool} (hb : aggOf P t = some b)
 (h : (b = true ∧ ∃ (i : TypeInfo) (vs : List Value), P.info? t = some i ∧ vs.length = i.size ∧ v = .agg vs.toArray ∧ ∀ j, j < i.size → w.cell? (a.add j) = vs[j]?) ∨ (b = false ∧ w.cell? a = some v)) :
 (loadVar t a).run P w = .ok v w := by
 unfold loadVar
 rw [Sem.run_bind, run_isAgg hb]
 rcases h with ⟨rfl, i, vs, hi, hl, rfl, hc⟩ | ⟨rfl, hc⟩
 · simp only [Result.andThen_ok, if_true, Sem.run_bind, run_sizeOf hi, loadCells]
   rw [run_loadCellsFrom a i.size 0 #[] vs hl (by simpa using hc)]
   simp [Sem.run_pure]
 · simp [load, Sem.run, hc]
theorem loadOf_run {P : Program} {w : World} {b : Nat} {t ty : TypeId} {cs : List Value} {off : Nat} {v : Value} (hb : w.heap[b]? = some (.cells cs.toArray ty (0, 0))) (h : loadOf P t cs off = some v) :
 (loadVar t ⟨b, off, none⟩).run P w = .ok v w := by
 unfold loadOf at h
 split at h
 · rename_i hg
   split at h
   · rename_i i hi
     split at h
     · rename_i hle
       simp only [Option.some.injEq] at h
       subst h
       refine run_loadVar_cells hg (.inl ⟨rfl, i, _, hi, ?_, rfl, fun j hj => ?_⟩)
       · simp; omega
       · rw [add_lit, cell_box hb]
         simp [List.getElem?_take, hj]
     · cases h
   · cases h
 · rename_i hg
   exact run_loadVar_cells hg (.inr ⟨rfl, by rw [cell_box hb]; exact h⟩)
 · cases h
theorem setCell_heap_ne {w : World} {a : Addr} {u : Value} {k : Nat} (h : k ≠ a.block) : (w.setCell a u).heap[k]? = w.heap[k]? := Below.heap_setCell w a u k h
theorem setCell_heap_box {w : World} {b i : Nat} {u : Value} {cs : List Value} {t : TypeId} (h : w.heap[b]? = some (.cells cs.toArray t (0, 0))) :
 (w.setCell ⟨b, i, none⟩ u).heap[b]? = some (.cells (cs.set i u).toArray t (0, 0)) := by
 simp [World.setCell, Array.getElem?_modify, h]
theorem run_storeCells_box {P : Program} {b off : Nat} {t : TypeId} : ∀ (vs : List Value) (w : World) (i : Nat) (cs : List Value), w.heap[b]? = some (.cells cs.toArray t (0, 0)) →
 vs.all isCell = true → off + i + vs.length ≤ cs.length →
 ∃ w', (storeCells ⟨b, off, none⟩ vs i).run P w = .ok () w' ∧ w'.heap[b]? = some (.cells (setCells cs (off + i) vs).toArray t (0, 0)) ∧ w'.heap.size = w.heap.size ∧ w'.os = w.os ∧ w'.tape = w.tape ∧ w'.output = w.output ∧
   ∀ k, k ≠ b → w'.heap[k]? = w.heap[k]?
 | [], w, i, cs, h, _, _ => ⟨w, by simp [storeCells, Sem.run_pure], h, rfl, rfl, rfl, rfl, fun _ _ => rfl⟩
 | v :: vs, w, i, cs, h, ha, hl => by
   simp only [List.all_cons, Bool.and_eq_true] at ha
   simp only [List.length_cons] at hl
   have h1 := setCell_heap_box (i := off + i) (u := v) h
   obtain ⟨w', hr, hb, hs, ho, ht, hout, hk⟩ := run_storeCells_box (P := P) (off := off) vs (w.setCell ⟨b, off + i, none⟩ v) (i + 1) (cs.set (off + i) v) h1 ha.2 (by rw [List.length_set]; omega)
   refine ⟨w', ?_, by simpa [setCells, Nat.add_assoc] using hb, by rw [hs]; simp [World.setCell], ho, ht, hout, fun k hne => (hk k hne).trans (setCell_heap_ne hne)⟩
   have hst : (store ((⟨b, off, none⟩ : Addr).add i) v).run P w = .ok () (w.setCell ⟨b, off + i, none⟩ v) := by
    rw [add_lit]
    have hc : w.cell? ⟨b, off + i, none⟩ = some (cs[off + i]'(by omega)) := by rw [cell_box h]; exact List.getElem?_eq_getElem (by omega)
    have hf := frozen_box h (off + i)
    cases v <;> simp_all [store, Sem.run, isCell]
   simp only [storeCells, Sem.run_bind, hst, Result.andThen_ok]
   exact hr
theorem storeOf_run {P : Program} {w : World} {b : Nat} {t ty : TypeId} {cs cs' : List Value} {off : Nat} {v : Value} (hb : w.heap[b]? = some (.cells cs.toArray ty (0, 0))) (h : storeOf P t cs off v = some cs') :
 ∃ w', (storeVar t ⟨b, off, none⟩ v).run P w = .ok () w' ∧ w'.heap[b]? = some (.cells cs'.toArray ty (0, 0)) ∧ w'.heap.size = w.heap.size ∧ w'.os = w.os ∧ w'.tape = w.tape ∧ w'.output = w.output ∧
   ∀ k, k ≠ b → w'.heap[k]? = w.heap[k]? := by
 unfold storeOf at h
 split at h
 · rename_i i hi
   split at h
   · rename_i hc
     simp only [Option.some.injEq] at h
     subst h
     obtain ⟨w', hr, h2⟩ := run_storeCells_box (P := P) (off := off) v.cells.toList w 0 cs hb hc.2.2 (by simp; omega)
     refine ⟨w', ?_, by simpa using h2⟩
     unfold storeVar
     rw [Sem.run_bind, run_sizeOf hi]
     simp only [Result.andThen_ok, hc.1]
     simpa using hr
   · cases h
 · cases h
theorem run_box {P : Program} {w : World} (t : TypeId) (v : Value) : (Instr.box t v).run P w = .ok (.pointer (some ⟨w.heap.size, 0, none⟩)) (w.alloc (.cells v.cells t)) := by
 rfl
theorem run_alloc {P : Program} {w : World} (t : TypeId) (v : Value) (h : (P.info? t).bind (·.zero) = some v) : (Instr.alloc t true (.tuple #[])).run P w = .ok (.pointer (some ⟨w.heap.size, 0, none⟩)) (w.alloc (.cells v.cells t)) := by
 obtain ⟨i, hi, hz⟩ := Option.bind_eq_some_iff.1 h
 have hz' : (zeroValue t).run P w = .ok v w := by simp [zeroValue, typeInfo, hi, hz]
 unfold Instr.alloc
 rw [Sem.run_bind, hz']
 rfl
theorem fieldOff_run {P : Program} {s : TypeId} {f k : Nat} (h : fieldOff P s f = some k) (a : Addr) (w : World) : (Instr.fieldAt s (.pointer (some a)) f).run P w = .ok (.pointer (some (a.add k))) w := by
 unfold fieldOff at h
 split at h
 · rename_i fields hu
   split at h
   · rename_i fd hf
     split at h
     · rename_i i hi
       split at h
       · cases h
       · rename_i hne
         simp only [Option.some.injEq] at h
         subst h
         unfold Instr.fieldAt
         rw [Sem.run_bind, run_underlying hu w]
         simp only [Result.andThen_ok, hf, Instr.sureAddr, Sem.run_bind, Sem.run_pure]
         unfold fieldPlace
         rw [Sem.run_bind, run_sizeOf hi]
         simp [hne, Sem.run_pure]
     · cases h
   · cases h
 · cases h
theorem add_add (a : Addr) (i j : Nat) : (a.add i).add j = a.add (i + j) := by
 unfold Addr.add
 by_cases hi : i = 0 <;> by_cases hj : j = 0 <;> simp [hi, hj, Nat.add_assoc]
theorem Mem.box {W : World} {S0 : List Nat} {L : Bx} {C : List Ass} {bs : List Nat} {fps : List (List Nat)} {w : World} (h : Mem W S0 L C bs fps w) (t : TypeId) (cs : List Value) :
 Mem W S0 (L ++ [(t, cs)]) C (bs ++ [w.heap.size]) fps (w.alloc (.cells cs.toArray t)) := by
 have hold : ∀ k, k < w.heap.size → (w.alloc (.cells cs.toArray t)).heap[k]? = w.heap[k]? := fun k hk => Below.heap_alloc _ _ _ hk
 have hb := boxes.lt h.bx
 have hc := holds.lt h.ch
 refine ⟨h.fr.trans' (Fr.alloc w _) (by simp), boxes.snoc (by exact heap_alloc_new w _) (boxes.st h.bx fun b hm => hold b (hb b hm)), holds.st h.ch fun b hm => hold b (hc b hm), ?_, ?_⟩
 · rw [List.append_assoc]
   refine (List.Perm.nodup_iff ?_).2 (List.nodup_cons.2 ⟨fun hm => ?_, h.nd⟩ : (w.heap.size :: (bs ++ fps.flatten)).Nodup)
   · exact List.perm_middle (a := w.heap.size) (l₁ := bs) (l₂ := fps.flatten)
   · rcases List.mem_append.1 hm with h1 | h1
     · have := hb _ h1; omega
     · have := hc _ h1; omega
 · intro b hm hlt
   rw [List.append_assoc] at hm
   rcases List.mem_append.1 hm with h1 | h1
   · exact h.new b (List.mem_append.2 (.inl h1)) hlt
   · rcases List.mem_cons.1 (show b ∈ w.heap.size :: fps.flatten from h1) with rfl | h2
     · have := h.fr.size; omega
     · exact h.new b (List.mem_append.2 (.inr h2)) hlt
theorem boxes.set {w w' : World} {b : Nat} {t : TypeId} {cs cs' : List Value} (hn : w'.heap[b]? = some (.cells cs'.toArray t (0, 0))) (ho : ∀ k, k ≠ b → w'.heap[k]? = w.heap[k]?) :
 ∀ {L : Bx} {bs : List Nat} {i : Nat}, boxes w L bs → bs.Nodup → L[i]? = some (t, cs) → bs[i]? = some b → boxes w' (setAt L i cs') bs
 | (u, us) :: L, c :: bs, 0, h, hnd, hl, hb => by
   simp at hl hb
   obtain ⟨rfl, rfl⟩ := hl
   subst hb
   exact ⟨hn, boxes.st h.2 fun k hk => ho k (fun e => by subst e; exact (List.nodup_cons.1 hnd).1 hk)⟩
 | (u, us) :: L, c :: bs, i + 1, h, hnd, hl, hb => by
   simp at hl hb
   refine ⟨(ho c (fun e => ?_)).trans h.1, boxes.set hn ho h.2 (List.nodup_cons.1 hnd).2 hl hb⟩
   subst e
   exact (List.nodup_cons.1 hnd).1 (List.mem_of_getElem? hb)
 | [], [], _, _, _, hl, _ => by simp at hl
 | [], _ :: _, _, h, _, _, _ => h.elim
 | _ :: _, [], _, h, _, _, _ => h.elim
theorem setAt_length : ∀ (L : Bx) (i : Nat) (cs : List Value), (setAt L i cs).length = L.length
 | [], _, _ => rfl
 | (_, _) :: _, 0, _ => rfl
 | (_, _) :: L, i + 1, cs => by simp [setAt, setAt_length L i cs]
theorem Mem.store {W : World} {S0 : List Nat} {L : Bx} {C : List Ass} {bs : List Nat} {fps : List (List Nat)} {w w' : World} (h : Mem W S0 L C bs fps w) {i b : Nat} {t : TypeId} {cs cs' : List Value}
 (hl : L[i]? = some (t, cs)) (hb : bs[i]? = some b) (hn : w'.heap[b]? = some (.cells cs'.toArray t (0, 0))) (hs : w'.heap.size = w.heap.size) (h1 : w'.os = w.os) (h2 : w'.tape = w.tape) (h3 : w'.output = w.output)
 (ho : ∀ k, k ≠ b → w'.heap[k]? = w.heap[k]?) : Mem W S0 (setAt L i cs') C bs fps w' := by
 have hm : b ∈ bs := List.mem_of_getElem? hb
 have hnd := List.nodup_append.1 h.nd
 refine ⟨h.fr.trans' (S' := [b]) ⟨h1, h2, h3, by omega, fun k _ hk => ho k (by simpa using hk)⟩ ?_, boxes.set hn ho h.bx hnd.1 hl hb, holds.st h.ch fun k hk => ho k (fun e => ?_), h.nd, h.new⟩
 · intro x hx hlt
   simp only [List.mem_singleton] at hx
   subst hx
   exact h.new x (List.mem_append.2 (.inl hm)) hlt
 · subst e
   exact hnd.2.2 k hm k hk rfl
theorem go1_ok {P : Program} {N : Nat} {T T' : Tm} {L L' : Bx} {o : Oper} (h : go1 P N T L o = some (T', L')) {W : World} {S0 : List Nat} {C : List Ass} {bs : List Nat} {fps : List (List Nat)} {a : Act} {w : World}
 (ht : Tms N T bs a) (hbd : bounded L.length T) (hm : Mem W S0 L C bs fps w) :
 ∃ r v w' bs', (execOp a.eval o).run P w = .ok r w' ∧ (r = .value v ∨ r = .skip ∧ v = undef) ∧ Tms N T' bs' (a.put o.dst v) ∧ bounded L'.length T' ∧ Mem W S0 L' C bs' fps w' := by
 have hlen := boxes_len hm.bx
 have pure_case : ∀ l, opnds o.op = some l → l.all (fun x => (evv T x).isSome) = true → ∀ v, pureOf P (execOp (evw T) o) = some (.value v) → put N T o.dst (.v v) = some T' → L = L' →
  ∃ r v w' bs', (execOp a.eval o).run P w = .ok r w' ∧ (r = .value v ∨ r = .skip ∧ v = undef) ∧ Tms N T' bs' (a.put o.dst v) ∧ bounded L'.length T' ∧ Mem W S0 L' C bs' fps w' := by
  intro l hl hall v hp hput hLL
  subst hLL
  have hc : execOp a.eval o = execOp (evw T) o := exec_congr o l hl _ _ fun x hx => by
   have := List.all_eq_true.1 hall x hx
   cases hv : evv T x with
   | none => simp [hv] at this
   | some y => rw [ht.evv hv]; simp [evw, hv]
  exact ⟨_, v, w, bs, by rw [hc]; exact pureOf_run _ hp w, .inl rfl, ht.put hput rfl, hbd.put (by intro i off he; cases he) hput, hm⟩
 obtain ⟨dst, op, ty, pos, after, guard⟩ := o
 have rest : ∀ l, opnds op = some l → (if l.all (fun x => (evv T x).isSome) then
       match pureOf P (execOp (evw T) ⟨dst, op, ty, pos, after, guard⟩) with
       | some (.value v) => (put N T dst (.v v)).map (·, L)
       | _ => none
  else none) = some (T', L') →
  ∃ r v w' bs', (execOp a.eval ⟨dst, op, ty, pos, after, guard⟩).run P w = .ok r w' ∧ (r = .value v ∨ r = .skip ∧ v = undef) ∧ Tms N T' bs' (a.put dst v) ∧ bounded L'.length T' ∧ Mem W S0 L' C bs' fps w' := by
  intro l hl h
  split at h
  · rename_i hall
    split at h
    · rename_i v hp
      obtain ⟨T1, hput, he⟩ := Option.map_eq_some_iff.1 h
      simp only [Prod.mk.injEq] at he
      obtain ⟨rfl, rfl⟩ := he
      exact pure_case l hl hall v hp hput rfl
    · cases h
  · cases h
 have mover : ∀ x s, evo T x = some s → put N T dst s = some T' → L = L' → ∃ v bs', a.eval x = v ∧ Tms N T' bs' (a.put dst v) ∧ bounded L'.length T' ∧ Mem W S0 L' C bs' fps w := by
  rintro x s hx hput rfl
  refine ⟨_, bs, ht.evo hx, ht.put hput rfl, hbd.put ?_ hput, hm⟩
  rintro i off rfl
  exact hbd.evo hx
 cases op with
 | move x =>
   simp only [go1] at h
   obtain ⟨s, hs, h⟩ := Option.bind_eq_some_iff.1 h
   obtain ⟨T1, hput, he⟩ := Option.map_eq_some_iff.1 h
   simp only [Prod.mk.injEq] at he
   obtain ⟨rfl, rfl⟩ := he
   obtain ⟨v, bs', hv, h1, h2, h3⟩ := mover x s hs hput rfl
   exact ⟨.value v, v, w, bs', by simp [execOp, Sem.run_pure, hv], .inl rfl, h1, h2, h3⟩
 | assign x =>
   simp only [go1] at h
   obtain ⟨s, hs, h⟩ := Option.bind_eq_some_iff.1 h
   obtain ⟨T1, hput, he⟩ := Option.map_eq_some_iff.1 h
   simp only [Prod.mk.injEq] at he
   obtain ⟨rfl, rfl⟩ := he
   obtain ⟨v, bs', hv, h1, h2, h3⟩ := mover x s hs hput rfl
   exact ⟨.value v, v, w, bs', by simp [execOp, Sem.run_pure, hv], .inl rfl, h1, h2, h3⟩
 | fieldAddr s x f =>
   simp only [go1] at h
   split at h
   · rename_i i off k hx hf
     obtain ⟨T1, hput, he⟩ := Option.map_eq_some_iff.1 h
     simp only [Prod.mk.injEq] at he
     obtain ⟨rfl, rfl⟩ := he
     have hev := ht.evo hx
     refine ⟨.value (den bs (.p i (off + k))), _, w, bs, ?_, .inl rfl, ht.put hput rfl, hbd.put ?_ hput, hm⟩
     · simp only [execOp, hev, den, Sem.run_bind, fieldOff_run hf, Result.andThen_ok, Sem.run_pure, add_lit]
     · intro j o' he; injection he with h1 h2; subst h1; exact hbd.evo hx
   · rename_i a' c off k hx hf
     obtain ⟨T1, hput, he⟩ := Option.map_eq_some_iff.1 h
     simp only [Prod.mk.injEq] at he
     obtain ⟨rfl, rfl⟩ := he
     have hev := ht.evo hx
     refine ⟨.value (den bs (.e a' c (off + k))), _, w, bs, ?_, .inl rfl, ht.put hput rfl, hbd.put (by intro i o' he; cases he) hput, hm⟩
     simp only [execOp, hev, den, Sem.run_bind, fieldOff_run hf, Result.andThen_ok, Sem.run_pure, add_add, Nat.add_assoc]
   · cases h
 | nilCheck x =>
   simp only [go1] at h
   split at h
   · rename_i i off hx
     obtain ⟨T1, hput, he⟩ := Option.map_eq_some_iff.1 h
     simp only [Prod.mk.injEq] at he
     obtain ⟨rfl, rfl⟩ := he
     have hev := ht.evo hx
     refine ⟨.value (den bs (.p i off)), _, w, bs, ?_, .inl rfl, ht.put hput rfl, hbd.put ?_ hput, hm⟩
     · simp [execOp, hev, den, Sem.run_pure]
     · intro j o' he; injection he with h1 h2; subst h1; exact hbd.evo hx
   · rename_i a' c off hx
     obtain ⟨T1, hput, he⟩ := Option.map_eq_some_iff.1 h
     simp only [Prod.mk.injEq] at he
     obtain ⟨rfl, rfl⟩ := he
     have hev := ht.evo hx
     refine ⟨.value (den bs (.e a' c off)), _, w, bs, ?_, .inl rfl, ht.put hput rfl, hbd.put ?_ hput, hm⟩
     · simp [execOp, hev, den, Sem.run_pure]
     · intro j o' he; cases he
   · cases h
 | load t x =>
   simp only [go1] at h
   split at h
   · rename_i i off hx
     split at h
     · rename_i b hb
       obtain ⟨v, hv, h⟩ := Option.bind_eq_some_iff.1 h
       obtain ⟨T1, hput, he⟩ := Option.map_eq_some_iff.1 h
       simp only [Prod.mk.injEq] at he
       obtain ⟨rfl, rfl⟩ := he
       obtain ⟨bt, bcs⟩ := b
       obtain ⟨bk, hbk, hheap⟩ := boxes.at hm.bx hb
       have hev := ht.evo hx
       have hd : den bs (.p i off) = .pointer (some ⟨bk, off, none⟩) := by simp [den, hbk]
       refine ⟨.value v, v, w, bs, ?_, .inl rfl, ht.put hput rfl, hbd.put (by intro i o' he; cases he) hput, hm⟩
       simp only [execOp, hev, hd, Instr.loadAt, Instr.sureAddr, Sem.run_bind, Sem.run_pure, Result.andThen_ok, loadOf_run hheap hv]
     · cases h
   · cases h
 | store t x y =>
   simp only [go1] at h
   split at h
   · rename_i i off v hx hy
     split at h
     · rename_i b hb
       obtain ⟨cs, hv, h⟩ := Option.bind_eq_some_iff.1 h
       obtain ⟨T1, hput, he⟩ := Option.map_eq_some_iff.1 h
       simp only [Prod.mk.injEq] at he
       obtain ⟨rfl, rfl⟩ := he
       obtain ⟨bt, bcs⟩ := b
       obtain ⟨bk, hbk, hheap⟩ := boxes.at hm.bx hb
       have hev := ht.evo hx
       have hyv := ht.evv hy
       have hd : den bs (.p i off) = .pointer (some ⟨bk, off, none⟩) := by simp [den, hbk]
       obtain ⟨w', hrun, hn, hs, h1, h2, h3, ho⟩ := storeOf_run (P := P) hheap hv
       refine ⟨.skip, undef, w', bs, ?_, .inr ⟨rfl, rfl⟩, ht.put hput rfl, ?_, hm.store hb hbk hn hs h1 h2 h3 ho⟩
       · simp only [execOp, hev, hd, hyv, Instr.storeAt, Instr.sureAddr, Sem.run_bind, Sem.run_pure, Result.andThen_ok, hrun]
       · rw [setAt_length]
         exact hbd.put (by intro i o' he; cases he) hput
     · cases h
   · cases h
 | box t x =>
   simp only [go1] at h
   split at h
   · rename_i v hx
     obtain ⟨T1, hput, he⟩ := Option.map_eq_some_iff.1 h
     simp only [Prod.mk.injEq] at he
     obtain ⟨rfl, rfl⟩ := he
     have hev := ht.evv hx
     have ht' : Tms N T (bs ++ [w.heap.size]) a := ⟨ht.1, ht.2.1, fun i y hy => by
      rw [den_snoc bs _ hlen y (fun j off he => hbd.all i y hy j off he)]; exact ht.2.2 i y hy⟩
     refine ⟨.value (.pointer (some ⟨w.heap.size, 0, none⟩)), _, _, bs ++ [w.heap.size], ?_, .inl rfl, ht'.put hput ?_, ?_, hm.box t v.cells.toList⟩
     · simp only [execOp, hev, Sem.run_bind, run_box, Result.andThen_ok, Sem.run_pure, Array.toArray_toList]
     · simp [den, ← hlen]
     · rw [List.length_append]
       exact (hbd.mono (Nat.le_add_right _ _)).put (by intro j o' he; injection he with h1 h2; subst h1; simp) hput
   · cases h
 | alloc t =>
   simp only [go1] at h
   split at h
   · rename_i v hx
     obtain ⟨T1, hput, he⟩ := Option.map_eq_some_iff.1 h
     simp only [Prod.mk.injEq] at he
     obtain ⟨rfl, rfl⟩ := he
     have ht' : Tms N T (bs ++ [w.heap.size]) a := ⟨ht.1, ht.2.1, fun i y hy => by
      rw [den_snoc bs _ hlen y (fun j off he => hbd.all i y hy j off he)]; exact ht.2.2 i y hy⟩
     refine ⟨.value (.pointer (some ⟨w.heap.size, 0, none⟩)), _, _, bs ++ [w.heap.size], ?_, .inl rfl, ht'.put hput ?_, ?_, hm.box t v.cells.toList⟩
     · simp only [execOp, Sem.run_bind, run_alloc t v hx, Result.andThen_ok, Sem.run_pure, Array.toArray_toList]
     · simp [den, ← hlen]
     · rw [List.length_append]
       exact (hbd.mono (Nat.le_add_right _ _)).put (by intro j o' he; injection he with h1 h2; subst h1; simp) hput
   · cases h
 | pick c x y => exact rest _ rfl h
 | binOp b t x y z => exact rest _ rfl h
 | unOp b t x => exact rest _ rfl h
 | convert b t x => exact rest _ rfl h
 | build t parts => exact rest _ rfl h
 | field t x f => exact rest _ rfl h
 | index t x i => exact rest _ rfl h
 | extract x i => exact rest _ rfl h
 | slice t x lo hi mx => exact rest _ rfl h
 | makeFunc f first cap => exact rest _ rfl h
 | makeInterface t x => exact rest _ rfl h
 | call c => exact rest _ rfl h
 | _ => simp [go1, opnds] at h
theorem wants_ok {ops : Array Oper} {T : Tm} {o : Oper} {b : Bool} (h : wants ops T o = some b) {N : Nat} {bs : List Nat} {a : Act} (ht : Tms N T bs a) : Region.wanted o (yielded ops a.tmps) = b := by
 unfold wants at h
 unfold Region.wanted
 split at h
 · rename_i hg; simp at h; subst h; simp [hg]
 · rename_i j want hg
   simp only [hg]
   unfold yielded
   split at h
   · rename_i hd; simp at h; subst h; simp [hd]
   · rename_i d hd
     simp only [hd, Option.bind_some]
     split at h
     · rename_i b' hl
       have := ht.2.2 d _ hl
       simp at h
       subst h
       simp [this, den]
     · rename_i tt hl
       have := ht.2.2 d _ hl
       simp at h
       subst h
       simp [this, den]
     · cases h
theorem op_step {P : Program} {ops : Array Oper} {Q : Exit → Act → World → Prop} {i : Nat} {o : Oper} (hi : ops[i]? = some o) {K : Act → World → Prop} {a : Act} {w : World} :
 (if Region.wanted o (yielded ops a.tmps) then o.wp P a w K Q else K (a.put o.dst undef) w) → wpOp P ops Q i K a w := by
 intro h
 simp only [wpOp, hi]
 split
 · rename_i hw; rw [if_pos hw] at h; exact .inl h
 · rename_i hw; rw [if_neg hw] at h; exact h
theorem OPC {P : Program} {N : Nat} {W : World} {S0 : List Nat} {ops : Array Oper} {Q : Exit → Act → World → Prop} {T : Tm} {L : Bx} {C : List Ass} {i : Nat} {is : List Nat} (k : OP P N W S0 ops Q i (wpOps P ops Q is) T L C) :
 OPS P N W S0 ops Q (i :: is) T L C := fun a w h => by rw [wpOps_cons]; exact k a w h
theorem step1_ok {P : Program} {N : Nat} {ops : Array Oper} {T T' : Tm} {L L' : Bx} {o : Oper} {i : Nat} (hi : ops[i]? = some o) (h : step1 P N ops T L o = some (T', L')) {W : World} {S0 : List Nat} {C : List Ass}
 {Q : Exit → Act → World → Prop} {K : Act → World → Prop} (k : G N W S0 K T' L' C) : OP P N W S0 ops Q i K T L C := by
 rintro a w ⟨bs, fps, ht, hbd, hm⟩
 refine op_step hi ?_
 unfold step1 at h
 split at h
 · rename_i hw
   rw [wants_ok hw ht, if_pos rfl]
   obtain ⟨r, v, w', bs', hrun, hr, h1, h2, h3⟩ := go1_ok h ht hbd hm
   unfold Oper.wp
   rw [hrun]
   rcases hr with rfl | ⟨rfl, rfl⟩
   · exact k _ _ ⟨bs', fps, h1, h2, h3⟩
   · exact k _ _ ⟨bs', fps, h1, h2, h3⟩
 · rename_i hw
   rw [wants_ok hw ht, if_neg (by simp)]
   obtain ⟨T1, hput, he⟩ := Option.map_eq_some_iff.1 h
   simp only [Prod.mk.injEq] at he
   obtain ⟨rfl, rfl⟩ := he
   exact k _ _ ⟨bs, fps, ht.put hput rfl, hbd.put (by intro i o' he; cases he) hput, hm⟩
 · cases h
theorem runP_ok {P : Program} {N : Nat} {ops : Array Oper} {W : World} {S0 : List Nat} {C : List Ass} {Q : Exit → Act → World → Prop} :
 ∀ (n : Nat) (is : List Nat) {T T' : Tm} {L L' : Bx}, runP P N ops n is T L = some (T', L') → OPS P N W S0 ops Q (is.drop n) T' L' C → OPS P N W S0 ops Q is T L C
 | 0, is, T, T', L, L', h, k => by simp [runP] at h; obtain ⟨rfl, rfl⟩ := h; exact k
 | n + 1, [], T, T', L, L', h, k => by simp [runP] at h
 | n + 1, i :: is, T, T', L, L', h, k => by
   simp only [runP] at h
   split at h
   · rename_i o hi
     split at h
     · rename_i T1 L1 h1
       exact OPC (step1_ok hi h1 (runP_ok n is h k))
     · cases h
   · cases h
theorem keep_ok {T : Tm} : ∀ {ks : List Nat} {T' : Tm}, keep T ks = some T' → ∀ i x, lk T' i = some x → lk T i = some x
 | [], T', h, i, x, hx => by simp [keep] at h; subst h; simp [lk] at hx
 | k :: ks, T', h, i, x, hx => by
   simp only [keep] at h
   split at h
   · rename_i y T1 hy hT
     simp only [Option.some.injEq] at h
     subst h
     simp only [lk] at hx
     by_cases hk : k = i
     · subst hk; simp at hx; subst hx; exact hy
     · have : (k == i) = false := by simpa using hk
       simp only [this, Bool.false_eq_true, if_false] at hx
       exact keep_ok hT i x hx
   · cases h
theorem keep_bounded {T : Tm} {n : Nat} (hb : bounded n T) : ∀ {ks : List Nat} {T' : Tm}, keep T ks = some T' → bounded n T'
 | [], T', h => by simp [keep] at h; subst h; trivial
 | k :: ks, T', h => by
   simp only [keep] at h
   split at h
   · rename_i y T1 hy hT
     simp only [Option.some.injEq] at h
     subst h
     have ih := keep_bounded hb hT
     cases y with
     | v _ => exact ih
     | e _ _ _ => exact ih
     | p j off => exact ⟨hb.lk hy, ih⟩
   · cases h
theorem Sat.keep {N : Nat} {W : World} {S0 : List Nat} {T T' : Tm} {L : Bx} {C : List Ass} {a : Act} {w : World} {ks : List Nat} (h : Sat N W S0 T L C a w) (hk : SX.keep T ks = some T') : Sat N W S0 T' L C a w := by
 obtain ⟨bs, fps, ht, hb, hm⟩ := h
 exact ⟨bs, fps, ⟨ht.1, ht.2.1, fun i x hx => ht.2.2 i x (keep_ok hk i x hx)⟩, keep_bounded hb hk, hm⟩
section
variable {P : Program} {N : Nat} {ops : Array Oper} {W : World} {S0 : List Nat} {C : List Ass} {Q : Exit → Act → World → Prop}
end
end SX
end Go.Proofs.YtejojcoaohlfbaaGreat
