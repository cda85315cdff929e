/- Texts of this claim, put together by program. -/
import Derived.Test.YtaihohlklagdgaaGreatSu3
/- Regions whose order is open, in the text's order. It imports no program. -/
namespace Go.Proofs.YtaihohlklagdgaaGreat
namespace SX
set_option linter.unusedVariables false
set_option linter.unusedSimpArgs false
open Go Go.RowKit
section rules
variable {X : List Nat} {P : Program} {N : Nat} {W : World} {S0 : List Nat} {Q : Exit → Go.Act → World → Prop} {T : Tm} {L : Bx} {C : List Ass} {ops : Array Oper} {Kn : List (Nat × Nat)} {i : Nat}
def QL (X : List Nat) (P : Program) (N : Nat) (W : World) (S0 : List Nat) (ops : Array Oper) (Q : Exit → Go.Act → World → Prop) (Kn : List (Nat × Nat)) (i : Nat) (T : Tm) (L : Bx) (C : List Ass) : Prop := QO P N W S0 ops Q i T L C
def QT (x : Nx) (X : List Nat) (P : Program) (N : Nat) (W : World) (S0 : List Nat) (ops : Array Oper) (Q : Exit → Go.Act → World → Prop) (Kn : List (Nat × Nat)) (i : Nat) (T : Tm) (L : Bx) (C : List Ass) : Prop := QL X P N W S0 ops Q Kn i T L C
def inN : List Nat → Nat → Bool
  | [], _ => false
  | k :: r, i => match Nat.beq k i with
    | true => true
    | false => inN r i
/-- nothing in the region writes memory -/
def quietR (D : OTab) : List Oper → Bool
  | [] => true
  | o :: os => match o.op with
    | .box _ _ | .alloc _ | .store _ _ _ | .slice _ _ _ _ _ | .buildSlice _ _ _ | .makeSlice _ _ _ | .makeMap _ _ | .mapUpdate _ _ _ _ | .makeFunc _ _ _ => false
    | .call c => match c.callee with
      | .builtin .len | .builtin .max | .builtin .min | .builtin .cap => quietR D os
      | .builtin _ => false
      | _ => match inN D.loud o.type with
        | true => false
        | false => quietR D os
    | _ => quietR D os
theorem gRQ [TB P] {id : Nat} (k : QL X P N W S0 ops Q [] 0 T L C) (hq : quietR (TB.D P) ops.toList = true := by rfl) (hB : Region.lexB .any ops = true := by decide +kernel) (hm : P.follows .mixedOrders = true := by kernel_rfl) : CD X P N W S0 (.region id ops true) Q T L C := REGIONQ hm hB k
theorem qNXT [TB P] {x : Nx} (k : QT x X P N W S0 ops Q Kn i T L C) (h : nxt (TB.D P) ops Kn i T L = some x := by conv => lhs; whnf) : QL X P N W S0 ops Q Kn i T L C := k
theorem qRUN {n : Nat} {T' : Tm} (k : QL X P N W S0 ops Q Kn (i + n) T' L C) (h : runQ P N ops L n i T = some T' := by kernel_rfl) : QT (.run n T' L) X P N W S0 ops Q Kn i T L C := runQ_ok n i h k
theorem qFIN {T' : Tm} (k : DN X N W S0 Q .normal T' L C) (hp : prune X [] T some = some T' := by conv => lhs; whnf) (hT : keep T (T'.map (·.1)) = keep T' (T'.map (·.1)) := by kernel_rfl) (hn : boundedB L.length T' = true := by kernel_rfl) (h : ops.size = i := by rfl) : QT .fin X P N W S0 ops Q Kn i T L C := by
  refine QEND h fun a w h => k a w ?_
  obtain ⟨bs, fps, ht, hb, hm⟩ := h
  exact ⟨bs, fps, ⟨ht.1, ht.2.1, fun i x hx => ht.2.2 i x (sub_ok hT i x hx)⟩, boundedB_ok hn, hm⟩
theorem qASK {d : Nat} {b : Bool} (k : CND b (QL X P N W S0 ops Q ((d, 1) :: Kn) i ((d, .v (.bool true)) :: T) L C) (QL X P N W S0 ops Q ((d, 0) :: Kn) i ((d, .v (.bool false)) :: T) L C))
    (h : lk T d = some (.v (.bool b)) := by conv => lhs; whnf) : QT (.ask d) X P N W S0 ops Q Kn i T L C := QSPLIT b h k.1 k.2
theorem qASKU {d : Nat} (k : QL X P N W S0 ops Q ((d, 2) :: Kn) i T L C) (h : lk T d = some (.v undef) := by conv => lhs; whnf) : QT (.ask d) X P N W S0 ops Q Kn i T L C := k
theorem qWRP {n : Nat} {T' : Tm} {d : Nat} {e e' : Int} (k : QL X P N W S0 ops Q Kn (i + n) ((d, .v (.int .i64 e')) :: T') L C) (he : wr e = e') (h : runQ P N ops L n i T = some ((d, .v (.int .i64 (IntKind.wrap .i64 e))) :: T') := by kernel_rfl) : QT (.wrp n T' d e L) X P N W S0 ops Q Kn i T L C := by
  refine runQ_ok n i h ?_
  have e1 : IntKind.wrap .i64 e = e' := he
  rw [e1]
  exact k
theorem qWRN {n : Nat} {T' : Tm} {d m : Nat} (k : QL X P N W S0 ops Q Kn (i + n) ((d, .v (.int .i64 ((m + 1 : Nat) : Int))) :: T') L C) (h1 : m < 9223372036854775807)
    (h : runQ P N ops L n i T = some ((d, .v (.int .i64 (IntKind.wrap .i64 ((m : Int) + 1)))) :: T') := by kernel_rfl) : QT (.wrp n T' d ((m : Int) + 1) L) X P N W S0 ops Q Kn i T L C := qWRP k (wr_of (by omega) (by omega)) h
theorem qWRM {n : Nat} {T' : Tm} {d m : Nat} (k : QL X P N W S0 ops Q Kn (i + n) ((d, .v (.int .i64 ((m - 1 : Nat) : Int))) :: T') L C) (h0 : 1 ≤ m) (h1 : m < 9223372036854775807)
    (h : runQ P N ops L n i T = some ((d, .v (.int .i64 (IntKind.wrap .i64 ((m : Int) - 1)))) :: T') := by kernel_rfl) : QT (.wrp n T' d ((m : Int) - 1) L) X P N W S0 ops Q Kn i T L C := qWRP k (by rw [wr_of (by omega) (by omega)]; omega) h
theorem qWRX {n : Nat} {T' : Tm} {d : Nat} {e : Int} (k : QL X P N W S0 ops Q Kn (i + n) ((d, .v (.int .i64 (wr e))) :: T') L C) (h : runQ P N ops L n i T = some ((d, .v (.int .i64 (IntKind.wrap .i64 e))) :: T') := by kernel_rfl) : QT (.wrp n T' d e L) X P N W S0 ops Q Kn i T L C := runQ_ok n i h k
theorem qCV {f : FuncId} {S : Prop} [inst : HasC P f S] {vs : Array Value} {d : Nat} {v : Value} (k : QL X P N W S0 ops Q Kn (i + 1) ((d, .v v) :: T) L C) (hcon : S → ∀ w, At W S0 C w → Spec P w [] f vs (RV v))
    (hc : callOf P ops T i = some (f, vs, some d) := by kernel_rfl) (hd : ∀ k, some d = some k → k < N := by exact NO rfl) : QT (.call f vs (some d)) X P N W S0 ops Q Kn i T L C := QCALL f vs (some d) hc v (hcon inst.pf) hd k
theorem qIX {t : TypeId} {x ix : Operand} {d : Nat} {ty : TypeId} {a : Option Addr} {n cap : Nat} {kd : IntKind} {z : Int} {e sz : Nat} [TB P] (k : QL X P N W S0 ops Q Kn (i + 1) ((d, .e a (z.toNat * sz) 0) :: T) L C)
    (hx : evv T x = some (.slice a n cap) := by conv => lhs; whnf) (hix : evv T ix = some (.int kd z) := by conv => lhs; whnf) (ho : lkn (TB.D P).row t = some (e, sz) := by conv => lhs; whnf)
    (ha : a.isSome = true) (h0 : 0 ≤ z) (hn : z < n)
    (hoa : opAt ops T i = some (.indexAddr t x ix, some d, ty) := by kernel_rfl) (hd : d < N := by exact NL rfl) (hu : P.underlying t = some (.slice e) := by kernel_rfl) (hsz : (P.info? e).map (·.size) = some sz := by kernel_rfl) :
    QT (.op (.indexAddr t x ix) (some d) ty) X P N W S0 ops Q Kn i T L C := QINDEX t x ix d ty hoa hd a n cap kd z e sz hx hix hu hsz ha h0 hn k
theorem qIN {t : TypeId} {x ix : Operand} {d : Nat} {ty : TypeId} {a : Option Addr} {n cap : Nat} {kd : IntKind} {z e sz : Nat} [TB P] (k : QL X P N W S0 ops Q Kn (i + 1) ((d, .e a (z * sz) 0) :: T) L C)
    (hix : evv T ix = some (.int kd (z : Int)) := by conv => lhs; whnf) (hx : evv T x = some (.slice a n cap) := by conv => lhs; whnf) (ho : lkn (TB.D P).row t = some (e, sz) := by conv => lhs; whnf)
    (ha : a.isSome = true) (hn : z < n)
    (hoa : opAt ops T i = some (.indexAddr t x ix, some d, ty) := by kernel_rfl) (hd : d < N := by exact NL rfl) (hu : P.underlying t = some (.slice e) := by kernel_rfl) (hsz : (P.info? e).map (·.size) = some sz := by kernel_rfl) :
    QT (.op (.indexAddr t x ix) (some d) ty) X P N W S0 ops Q Kn i T L C := QINDEX t x ix d ty hoa hd a n cap kd z e sz hx hix hu hsz ha (by omega) (by omega) k
theorem qLE {t : TypeId} {x : Operand} {d : Nat} {ty : TypeId} {a : Option Addr} {j sz off : Nat} {cs : List Value} {v : Value} [TB P] (k : QL X P N W S0 ops Q Kn (i + 1) ((d, .v v) :: T) L C)
    (hx : evo T x = some (.e a (j * sz) off) := by conv => lhs; whnf) (he : ∀ w, At W S0 C w → ElemAt w a (j * sz) cs) (hv : ldB (TB.D P) t cs off some = some v := by conv => lhs; whnf)
    (ho : opAt ops T i = some (.load t x, some d, ty) := by kernel_rfl) (hd : d < N := by exact NL rfl) (hl : loadOf P t cs off = some v := by kernel_rfl) :
    QT (.op (.load t x) (some d) ty) X P N W S0 ops Q Kn i T L C := QLOADE t x d ty ho hd a (j * sz) off cs v hx he hl k
theorem qLN {t : TypeId} {x : Operand} {d : Nat} {ty : TypeId} {a : Option Addr} {j sz off : Nat} {α ι : Type} {La : Lay α} {enc : α → ι → List Value} {imp : World → α → ι → Prop → Prop} [op : OpR La ι enc imp] {xs : List α} {y : α} {v : ι → Value} [TB P]
    (k : ∀ q, imp W y q (QL X P N W [] ops Q Kn (i + 1) ((d, .v (v q)) :: T) L C))
    (hx : evo T x = some (.e a (j * sz) off) := by conv => lhs; whnf) (hr : Rd La W a xs) (hj : xs[j]? = some y) (hv : ∀ q, ldB (TB.D P) t (enc y q) off some = some (v q) := by intro q; conv => lhs; whnf)
    (hsz : La.sz = sz := by rfl) (ho : opAt ops T i = some (.load t x, some d, ty) := by kernel_rfl) (hd : d < N := by exact NL rfl) (hl : ∀ q, loadOf P t (enc y q) off = some (v q) := by intro q; kernel_rfl) :
    QT (.op (.load t x) (some d) ty) X P N W [] ops Q Kn i T L C := by
  subst hsz
  obtain ⟨q, h1, h2⟩ := op.ex hr hj
  exact QLOADE t x d ty ho hd a (j * La.sz) off _ (v q) hx (fun w hw j hj => ElemAt.fr h1 hw.fr j hj) (hl q) (h2 _ (k q))
theorem aLF {t : TypeId} {x : Operand} {d : Nat} {ty : TypeId} {a : Option Addr} {j sz off : Nat} {α : Type} {enc : α → List Value} {hh : ∀ x, (enc x).length = sz ∧ ∀ u ∈ enc x, isCell u = true} {xs : List α} {v : Value} [TB P]
    (hx : evo T x = some (.e a (j * sz) off) := by conv => lhs; whnf) (hr : Rd (flat sz enc hh) W a xs) (hj : j < xs.length) (hv : ldB (TB.D P) t (enc xs[j]) off some = some v := by conv => lhs; whnf) (k : OPL X P N W [] ops Q Kn (i + 1) ((d, .v v) :: T) L C)
    (hi : Nat.blt i ops.size = true := by rfl) (ho : opAt ops T i = some (.load t x, some d, ty) := by kernel_rfl) (hd : d < N := by exact NL rfl) (hl : loadOf P t (enc xs[j]) off = some v := by kernel_rfl) :
    AT (.op (.load t x) (some d) ty) X P N W [] ops Q Kn i T L C := aLE k hx (fun w hw => Rd.flat (Rd.fr hr hw.fr) (List.getElem?_eq_getElem hj)) hv hi ho hd hl
theorem qLF {t : TypeId} {x : Operand} {d : Nat} {ty : TypeId} {a : Option Addr} {j sz off : Nat} {α : Type} {enc : α → List Value} {hh : ∀ x, (enc x).length = sz ∧ ∀ u ∈ enc x, isCell u = true} {xs : List α} {v : Value} [TB P]
    (hx : evo T x = some (.e a (j * sz) off) := by conv => lhs; whnf) (hr : Rd (flat sz enc hh) W a xs) (hj : j < xs.length) (hv : ldB (TB.D P) t (enc xs[j]) off some = some v := by conv => lhs; whnf) (k : QL X P N W [] ops Q Kn (i + 1) ((d, .v v) :: T) L C)
    (ho : opAt ops T i = some (.load t x, some d, ty) := by kernel_rfl) (hd : d < N := by exact NL rfl) (hl : loadOf P t (enc xs[j]) off = some v := by kernel_rfl) :
    QT (.op (.load t x) (some d) ty) X P N W [] ops Q Kn i T L C := qLE k hx (fun w hw => Rd.flat (Rd.fr hr hw.fr) (List.getElem?_eq_getElem hj)) hv ho hd hl
theorem aLG {t : TypeId} {x : Operand} {d : Nat} {ty : TypeId} {a : Option Addr} {j sz off : Nat} {α ι : Type} {La : Lay α} {enc : α → ι → List Value} {imp : World → α → ι → Prop → Prop} {xs : List α} {y : α} {v : ι → Value} [TB P]
    (hx : evo T x = some (.e a (j * sz) off) := by conv => lhs; whnf) (hr : Rd La W a xs) (hj : j < xs.length) (hy : xs[j] = y := by rfl) (op : OpR La ι enc imp := by infer_instance) (hv : ∀ q, ldB (TB.D P) t (enc y q) off some = some (v q) := by intro q; conv => lhs; whnf) (k : ∀ q, imp W y q (OPL X P N W [] ops Q Kn (i + 1) ((d, .v (v q)) :: T) L C))
    (hsz : La.sz = sz := by rfl) (hi : Nat.blt i ops.size = true := by rfl) (ho : opAt ops T i = some (.load t x, some d, ty) := by kernel_rfl) (hd : d < N := by exact NL rfl) (hl : ∀ q, loadOf P t (enc y q) off = some (v q) := by intro q; kernel_rfl) :
    AT (.op (.load t x) (some d) ty) X P N W [] ops Q Kn i T L C := aLN k hx hr (by rw [← hy]; exact List.getElem?_eq_getElem hj) hv hsz hi ho hd hl
theorem qLG {t : TypeId} {x : Operand} {d : Nat} {ty : TypeId} {a : Option Addr} {j sz off : Nat} {α ι : Type} {La : Lay α} {enc : α → ι → List Value} {imp : World → α → ι → Prop → Prop} {xs : List α} {y : α} {v : ι → Value} [TB P]
    (hx : evo T x = some (.e a (j * sz) off) := by conv => lhs; whnf) (hr : Rd La W a xs) (hj : j < xs.length) (hy : xs[j] = y := by rfl) (op : OpR La ι enc imp := by infer_instance) (hv : ∀ q, ldB (TB.D P) t (enc y q) off some = some (v q) := by intro q; conv => lhs; whnf) (k : ∀ q, imp W y q (QL X P N W [] ops Q Kn (i + 1) ((d, .v (v q)) :: T) L C))
    (hsz : La.sz = sz := by rfl) (ho : opAt ops T i = some (.load t x, some d, ty) := by kernel_rfl) (hd : d < N := by exact NL rfl) (hl : ∀ q, loadOf P t (enc y q) off = some (v q) := by intro q; kernel_rfl) :
    QT (.op (.load t x) (some d) ty) X P N W [] ops Q Kn i T L C := qLN k hx hr (by rw [← hy]; exact List.getElem?_eq_getElem hj) hv hsz ho hd hl
/-- a step whose run is known -/
theorem aRV {op : Op} {d : Nat} {ty : TypeId} {v : Value} (hrun : Runs P W S0 T C op ty v) (k : OPL X P N W S0 ops Q Kn (i + 1) ((d, .v v) :: T) L C) (hi : Nat.blt i ops.size = true := by rfl) (ho : opAt ops T i = some (op, some d, ty) := by kernel_rfl) (hd : d < N := by exact NL rfl) :
    AT (.op op (some d) ty) X P N W S0 ops Q Kn i T L C := opsOne (lt_of_blt hi) (RUNV op d ty ho hd v hrun k)
theorem qRV {op : Op} {d : Nat} {ty : TypeId} {v : Value} (hrun : Runs P W S0 T C op ty v) (k : QL X P N W S0 ops Q Kn (i + 1) ((d, .v v) :: T) L C) (ho : opAt ops T i = some (op, some d, ty) := by kernel_rfl) (hd : d < N := by exact NL rfl) :
    QT (.op op (some d) ty) X P N W S0 ops Q Kn i T L C := QRUNV op d ty ho hd v hrun k
def stO {R : Type} : List Value → List Value → (Bool → Option R) → Option R
  | [], [], k => k true
  | .int _ a :: xs, .int _ b :: ys, k => stO xs ys (fun r => k (a == b && r))
  | _, _, _ => none
theorem rEQL {t t2 ty : TypeId} {x y : Operand} {xs ys : List Value} {r : Bool} (hx : evv T x = some (.agg xs.toArray) := by conv => lhs; whnf) (hy : evv T y = some (.agg ys.toArray) := by conv => lhs; whnf) (ho : stO xs ys some = some r := by conv => lhs; whnf) (h : steqOf P t xs ys = some r := by kernel_rfl) :
    Runs P W S0 T C (.binOp .eql t x y t2) ty (.bool r) := runs_eql hx hy h
theorem rNEQ {t t2 ty : TypeId} {x y : Operand} {xs ys : List Value} {r : Bool} (hx : evv T x = some (.agg xs.toArray) := by conv => lhs; whnf) (hy : evv T y = some (.agg ys.toArray) := by conv => lhs; whnf) (ho : stO xs ys some = some r := by conv => lhs; whnf) (h : steqOf P t xs ys = some r := by kernel_rfl) :
    Runs P W S0 T C (.binOp .neq t x y t2) ty (.bool (!r)) := runs_neq hx hy h
theorem rQUO {t t2 ty : TypeId} {x y : Operand} {k : IntKind} {a b : Int} (hx : evv T x = some (.int k a) := by conv => lhs; whnf) (hy : evv T y = some (.int k b) := by conv => lhs; whnf) (hb : b ≠ 0 := by omega) : Runs P W S0 T C (.binOp .quo t x y t2) ty (.int k (k.wrap (a.tdiv b))) := runs_quo hx hy hb
theorem rREM {t t2 ty : TypeId} {x y : Operand} {k : IntKind} {a b : Int} (hx : evv T x = some (.int k a) := by conv => lhs; whnf) (hy : evv T y = some (.int k b) := by conv => lhs; whnf) (hb : b ≠ 0 := by omega) : Runs P W S0 T C (.binOp .rem t x y t2) ty (.int k (a.tmod b)) := runs_rem hx hy hb
end rules
end SX
end Go.Proofs.YtaihohlklagdgaaGreat
/- Rows that are owned. It imports no program. -/
namespace Go.Proofs.YtaihohlklagdgaaGreat
namespace SX
set_option linter.unusedVariables false
set_option linter.unusedSimpArgs false
open Go Go.RowKit
/-- an element's type: how it lies, its zero, its bytes; dec: an element out of its cells -/
class ElT (P : Program) (e : TypeId) (α : outParam Type) (sz : outParam Nat) (enc : outParam (α → List Value)) (hh : outParam (∀ x, (enc x).length = sz ∧ ∀ u ∈ enc x, isCell u = true)) where
  z : Value
  x0 : α
  bytes : Nat
  dec : List Value → Option α
  info : (P.info? e).map (fun i => (i.zero, i.size, i.bytes)) = some (some z, sz, bytes)
  zc : z.cells.toList = enc x0
  pos : 0 < sz
  small : bytes ≤ 1024
/-- nil only where it is empty -/
def NNil (a : Option Addr) (n : Nat) : Prop := a = none → n = 0
theorem nt0 {A : Ass} {C : List Ass} : (A :: C)[0]? = some A := rfl
theorem ntS {A B : Ass} {C : List Ass} {j : Nat} (h : C[j]? = some A) : (B :: C)[j + 1]? = some A := h
theorem PU {C R : List Ass} {A : Ass} {j : Nat} (h : pull j C = some (A, R) := by first | exact pu0 | (apply puS; first | exact pu0 | (apply puS; first | exact pu0 | (apply puS; first | exact pu0 | (apply puS; first | exact pu0 | (apply puS; first | exact pu0 | (apply puS; first | exact pu0 | (apply puS; first | exact pu0 | (apply puS; first | exact pu0 | (apply puS; first | exact pu0 | (apply puS; first | exact pu0 | (apply puS; first | exact pu0 | (apply puS; first | exact pu0 | (apply puS; first | exact pu0 | (apply puS; first | exact pu0 | (apply puS; first | exact pu0 | (apply puS; first | exact pu0 | (apply puS; first | exact pu0 | (apply puS; first | exact pu0 | (apply puS; first | exact pu0 | (apply puS; first | exact pu0 | (apply puS; first | exact pu0 | (apply puS; first | exact pu0 | (apply puS; first | exact pu0 | (apply puS; exact pu0))))))))))))))))))))))))) : pull j C = some (A, R) := h
theorem NT {C : List Ass} {A : Ass} {j : Nat} (h : C[j]? = some A := by first | exact nt0 | (apply ntS; first | exact nt0 | (apply ntS; first | exact nt0 | (apply ntS; first | exact nt0 | (apply ntS; first | exact nt0 | (apply ntS; first | exact nt0 | (apply ntS; first | exact nt0 | (apply ntS; first | exact nt0 | (apply ntS; first | exact nt0 | (apply ntS; first | exact nt0 | (apply ntS; first | exact nt0 | (apply ntS; first | exact nt0 | (apply ntS; first | exact nt0 | (apply ntS; first | exact nt0 | (apply ntS; first | exact nt0 | (apply ntS; first | exact nt0 | (apply ntS; first | exact nt0 | (apply ntS; first | exact nt0 | (apply ntS; first | exact nt0 | (apply ntS; first | exact nt0 | (apply ntS; first | exact nt0 | (apply ntS; first | exact nt0 | (apply ntS; first | exact nt0 | (apply ntS; first | exact nt0 | (apply ntS; exact nt0))))))))))))))))))))))))) : C[j]? = some A := h
theorem LEN {A : Prop} (h : A := by first | omega | (simp only [List.length_append, List.length_cons, List.length_nil, List.length_take, List.length_drop, List.length_set, List.length_replicate] at * <;> omega)) : A := h
theorem Rs.own {α : Type} {e : TypeId} {La : Lay α} {W w : World} {S0 : List Nat} {C : List Ass} {a : Option Addr} {c j : Nat} {xs : List α} (hw : At W S0 C w) (h : C[j]? = some (slA e La (.slice a xs.length c) xs)) : Rs La w (.slice a xs.length c) xs :=
  ⟨a, c, rfl, SlO.capE (hw.own j h), hw.rdO j h⟩
/-- the elements that are built -/
def partsO {α R : Type} (dec : List Value → Option α) (T : Tm) : Nat → List (Nat × Operand) → (List α → Option R) → Option R
  | _, [], k => k []
  | n, (m, x) :: r, k => match Nat.beq n m, evo T x with
    | true, some (.v v) => cellsC v (fun cs => match dec cs with
      | some y => partsO dec T (n + 1) r (fun l => k (y :: l))
      | none => none)
    | _, _ => none
section rules
variable {X : List Nat} {P : Program} {N : Nat} {W : World} {S0 : List Nat} {Q : Exit → Go.Act → World → Prop} {T : Tm} {L : Bx} {C : List Ass} {ops : Array Oper} {Kn : List (Nat × Nat)} {i : Nat}
theorem oBUILD {K : Go.Act → World → Prop} {t : TypeId} {len : Nat} {parts : Array (Nat × Operand)} {d : Nat} {ty : TypeId} {e sz : Nat} {α : Type} {enc : α → List Value} {hh : ∀ x, (enc x).length = sz ∧ ∀ u ∈ enc x, isCell u = true} {xs : List α} [TB P]
    (he : lkn (TB.D P).row t = some (e, sz) := by conv => lhs; whnf) (el : ElT P e α sz enc hh := by infer_instance) (hx : partsO el.dec T 0 parts.toList some = some xs := by conv => lhs; whnf)
    (k : ∀ a : Option Addr, a.isSome = true → G N W S0 K ((d, .v (.slice a len len)) :: T) L (C ++ [slA e (flat sz enc hh) (.slice a len len) xs]))
    (ho : opAt ops T i = some (.buildSlice t len parts, some d, ty) := by kernel_rfl) (hd : d < N := by exact NL rfl) (hb : (partsOf T parts.toList).bind (bsOf P t len) = some (e, xs.flatMap enc) := by kernel_rfl) (hl : xs.length = len := by kernel_rfl) (hm : Nat.ble len maxLen = true := by rfl) : OP P N W S0 ops Q i K T L C :=
  BUILDS t len parts d ty ho hd e (xs.flatMap enc) hb (flat sz enc hh) xs hl (Nat.le_of_ble_eq_true hm) [] [] C rfl (flatRep rfl) k
theorem aBUILD {t : TypeId} {len : Nat} {parts : Array (Nat × Operand)} {d : Nat} {ty : TypeId} {e sz : Nat} {α : Type} {enc : α → List Value} {hh : ∀ x, (enc x).length = sz ∧ ∀ u ∈ enc x, isCell u = true} {xs : List α} [TB P]
    (he : lkn (TB.D P).row t = some (e, sz) := by conv => lhs; whnf) (el : ElT P e α sz enc hh := by infer_instance) (hx : partsO el.dec T 0 parts.toList some = some xs := by conv => lhs; whnf)
    (k : ∀ a : Option Addr, a.isSome = true → OPL X P N W S0 ops Q Kn (i + 1) ((d, .v (.slice a len len)) :: T) L (C ++ [slA e (flat sz enc hh) (.slice a len len) xs])) (hi : Nat.blt i ops.size = true := by rfl)
    (ho : opAt ops T i = some (.buildSlice t len parts, some d, ty) := by kernel_rfl) (hd : d < N := by exact NL rfl) (hb : (partsOf T parts.toList).bind (bsOf P t len) = some (e, xs.flatMap enc) := by kernel_rfl) (hl : xs.length = len := by kernel_rfl) (hm : Nat.ble len maxLen = true := by rfl) :
    AT (.op (.buildSlice t len parts) (some d) ty) X P N W S0 ops Q Kn i T L C := opsOne (lt_of_blt hi) (oBUILD he el hx k ho hd hb hl hm)
/-- append(s, x...): both owned -/
theorem oAPP {K : Go.Act → World → Prop} {t : TypeId} {s x : Operand} {d : Nat} {ty : TypeId} {v : Value} {a2 : Option Addr} {n2 c2 e sz : Nat} {α : Type} {enc : α → List Value} {hh : ∀ x, (enc x).length = sz ∧ ∀ u ∈ enc x, isCell u = true} {xs ys : List α} {j1 j2 : Nat} {R1 R : List Ass} [TB P]
    (he : lkn (TB.D P).row t = some (e, sz) := by conv => lhs; whnf) (el : ElT P e α sz enc hh := by infer_instance) (hs : evv T s = some v := by conv => lhs; whnf) (hx : evv T x = some (.slice a2 n2 c2) := by conv => lhs; whnf)
    (hp1 : pull j1 C = some (slA e (flat sz enc hh) v xs, R1)) (hp2 : pull j2 R1 = some (slA e (flat sz enc hh) (.slice a2 n2 c2) ys, R)) (ha2 : a2.isSome = true) (hn2 : ys.length = n2) (hlen : xs.length + n2 ≤ 100000000000)
    (k : ∀ (a : Option Addr) (c : Nat), NNil a (xs ++ ys).length → G N W S0 K ((d, .v (.slice a (xs ++ ys).length c)) :: T) L (R ++ [slA e (flat sz enc hh) (.slice a (xs ++ ys).length c) (xs ++ ys)]))
    (ho : opAt ops T i = some (.call { callee := .builtin .append, args := #[s, x], argTypes := #[t, t] }, some d, ty) := by kernel_rfl) (hd : d < N := by exact NL rfl) (hu : P.underlying t = some (.slice e) := by kernel_rfl) : OP P N W S0 ops Q i K T L C := by
  have hb := el.small
  have hm : (xs.length + n2) * el.bytes ≤ (xs.length + n2) * 1024 := Nat.mul_le_mul_left _ hb
  have hz : el.z.cells.size = sz := by
    have h1 := congrArg List.length el.zc
    rw [(hh el.x0).1] at h1
    simpa using h1
  exact APPENDO t s x d ty ho hd v a2 n2 c2 hs hx ha2 e hu (flat sz enc hh) el.z el.bytes el.info hz el.pos j1 j2 xs ys R (by simp [pulls, hp1, hp2]) hn2 (by omega) (by simp only [maxLen]; omega) k
theorem aAPP {t : TypeId} {s x : Operand} {d : Nat} {ty : TypeId} {v : Value} {a2 : Option Addr} {n2 c2 e sz : Nat} {α : Type} {enc : α → List Value} {hh : ∀ x, (enc x).length = sz ∧ ∀ u ∈ enc x, isCell u = true} {xs ys : List α} {j1 j2 : Nat} {R1 R : List Ass} [TB P]
    (he : lkn (TB.D P).row t = some (e, sz) := by conv => lhs; whnf) (el : ElT P e α sz enc hh := by infer_instance) (hs : evv T s = some v := by conv => lhs; whnf) (hx : evv T x = some (.slice a2 n2 c2) := by conv => lhs; whnf)
    (hp1 : pull j1 C = some (slA e (flat sz enc hh) v xs, R1) := by exact PU) (hp2 : pull j2 R1 = some (slA e (flat sz enc hh) (.slice a2 n2 c2) ys, R) := by exact PU) (ha2 : a2.isSome = true := by assumption) (hn2 : ys.length = n2 := by rfl) (hlen : xs.length + n2 ≤ 100000000000 := by exact LEN)
    (k : ∀ (a : Option Addr) (c : Nat), NNil a (xs ++ ys).length → OPL X P N W S0 ops Q Kn (i + 1) ((d, .v (.slice a (xs ++ ys).length c)) :: T) L (R ++ [slA e (flat sz enc hh) (.slice a (xs ++ ys).length c) (xs ++ ys)])) (hi : Nat.blt i ops.size = true := by rfl)
    (ho : opAt ops T i = some (.call { callee := .builtin .append, args := #[s, x], argTypes := #[t, t] }, some d, ty) := by kernel_rfl) (hd : d < N := by exact NL rfl) (hu : P.underlying t = some (.slice e) := by kernel_rfl) :
    AT (.op (.call { callee := .builtin .append, args := #[s, x], argTypes := #[t, t] }) (some d) ty) X P N W S0 ops Q Kn i T L C := opsOne (lt_of_blt hi) (oAPP he el hs hx hp1 hp2 ha2 hn2 hlen k ho hd hu)
/-- append(s, x...): x is read -/
theorem aAPR {t : TypeId} {s x : Operand} {d : Nat} {ty : TypeId} {v : Value} {a2 : Option Addr} {n2 c2 e sz : Nat} {α : Type} {enc : α → List Value} {hh : ∀ x, (enc x).length = sz ∧ ∀ u ∈ enc x, isCell u = true} {xs ys : List α} {j1 : Nat} {R : List Ass} [TB P]
    (he : lkn (TB.D P).row t = some (e, sz) := by conv => lhs; whnf) (el : ElT P e α sz enc hh := by infer_instance) (hs : evv T s = some v := by conv => lhs; whnf) (hx : evv T x = some (.slice a2 n2 c2) := by conv => lhs; whnf)
    (hp1 : pull j1 C = some (slA e (flat sz enc hh) v xs, R) := by exact PU) (hr : Rd (flat sz enc hh) W a2 ys) (hn2 : ys.length = n2 := by rfl) (hlen : xs.length + n2 ≤ 100000000000 := by exact LEN)
    (k : ∀ (a : Option Addr) (c : Nat), NNil a (xs ++ ys).length → OPL X P N W [] ops Q Kn (i + 1) ((d, .v (.slice a (xs ++ ys).length c)) :: T) L (R ++ [slA e (flat sz enc hh) (.slice a (xs ++ ys).length c) (xs ++ ys)])) (hi : Nat.blt i ops.size = true := by rfl)
    (ho : opAt ops T i = some (.call { callee := .builtin .append, args := #[s, x], argTypes := #[t, t] }, some d, ty) := by kernel_rfl) (hd : d < N := by exact NL rfl) (hu : P.underlying t = some (.slice e) := by kernel_rfl) :
    AT (.op (.call { callee := .builtin .append, args := #[s, x], argTypes := #[t, t] }) (some d) ty) X P N W [] ops Q Kn i T L C := by
  have hb := el.small
  have hm : (xs.length + n2) * el.bytes ≤ (xs.length + n2) * 1024 := Nat.mul_le_mul_left _ hb
  have hz : el.z.cells.size = sz := by
    have h1 := congrArg List.length el.zc
    rw [(hh el.x0).1] at h1
    simpa using h1
  exact opsOne (lt_of_blt hi) (APPENDR t s x d ty ho hd v a2 n2 c2 hs hx e hu el.z el.bytes el.info hz el.pos j1 xs ys R (by simp [pulls, hp1]) hn2 (fun w hw => hr.fr hw.fr) (by omega) (by simp only [maxLen]; omega) k)
/-- an own nil slice comes into being -/
theorem aNIL {x : Nx} {e : TypeId} {α : Type} {La : Lay α} (k : AT x X P N W S0 ops Q Kn i T L (C ++ [slA e La (.slice none 0 0) []])) : AT x X P N W S0 ops Q Kn i T L C := NIL e La k
/-- the address of an element of an own row; a load out of it -/
theorem aIO {t : TypeId} {x ix : Operand} {d : Nat} {ty : TypeId} {a : Option Addr} {n cap : Nat} {kd : IntKind} {z e sz j : Nat} {e' : TypeId} {α : Type} {La : Lay α} {xs : List α} [TB P]
    (hix : evv T ix = some (.int kd (z : Int)) := by conv => lhs; whnf) (hx : evv T x = some (.slice a n cap) := by conv => lhs; whnf) (ho : lkn (TB.D P).row t = some (e, sz) := by conv => lhs; whnf)
    (hC : C[j]? = some (slA e' La (.slice a n cap) xs) := by exact NT) (hn : z < n := by exact LEN) (k : OPL X P N W S0 ops Q Kn (i + 1) ((d, .e a (z * sz) 0) :: T) L C)
    (hi : Nat.blt i ops.size = true := by rfl) (hoa : opAt ops T i = some (.indexAddr t x ix, some d, ty) := by kernel_rfl) (hd : d < N := by exact NL rfl) (hu : P.underlying t = some (.slice e) := by kernel_rfl) (hsz : (P.info? e).map (·.size) = some sz := by kernel_rfl) :
    AT (.op (.indexAddr t x ix) (some d) ty) X P N W S0 ops Q Kn i T L C := aIN k hix hx ho (fun w hw => SlO.isS (hw.own j hC) (by omega)) hn hi hoa hd hu hsz
theorem aLO {t : TypeId} {x : Operand} {d : Nat} {ty : TypeId} {a : Option Addr} {m n cap sz off j : Nat} {e' : TypeId} {α : Type} {enc : α → List Value} {hh : ∀ x, (enc x).length = sz ∧ ∀ u ∈ enc x, isCell u = true} {xs : List α} {v : Value} [TB P]
    (hx : evo T x = some (.e a (m * sz) off) := by conv => lhs; whnf) (hC : C[j]? = some (slA e' (flat sz enc hh) (.slice a n cap) xs) := by exact NT) (hj : m < xs.length := by exact LEN) (hv : ldB (TB.D P) t (enc xs[m]) off some = some v := by conv => lhs; whnf) (k : OPL X P N W S0 ops Q Kn (i + 1) ((d, .v v) :: T) L C)
    (hi : Nat.blt i ops.size = true := by rfl) (ho : opAt ops T i = some (.load t x, some d, ty) := by kernel_rfl) (hd : d < N := by exact NL rfl) (hl : loadOf P t (enc xs[m]) off = some v := by kernel_rfl) :
    AT (.op (.load t x) (some d) ty) X P N W S0 ops Q Kn i T L C := aLE k hx (fun w hw => Rd.flat (hw.rdO j hC) (List.getElem?_eq_getElem hj)) hv hi ho hd hl
/-- a store into an element of an own row -/
def stE {α R : Type} (dec : List Value → Option α) (off : Nat) (cs : List Value) (v : Value) (k : α → Option R) : Option R :=
  cellsC v (fun vs => putC off cs vs (fun cs => match dec cs with
    | some y => k y
    | none => none))
theorem aSO {t : TypeId} {x y : Operand} {ty : TypeId} {a : Option Addr} {m n cap sz off j e : Nat} {α : Type} {enc : α → List Value} {hh : ∀ x, (enc x).length = sz ∧ ∀ u ∈ enc x, isCell u = true} {xs : List α} {v : Value} {x1 : α} {R : List Ass}
    (hx : evo T x = some (.e a (m * sz) off) := by conv => lhs; whnf) (hy : evv T y = some v := by conv => lhs; whnf) (hp : pull j C = some (slA e (flat sz enc hh) (.slice a n cap) xs, R) := by exact PU) (el : ElT P e α sz enc hh := by infer_instance) (hj : m < xs.length := by exact LEN) (hv : stE el.dec off (enc xs[m]) v some = some x1 := by conv => lhs; whnf)
    (k : OPL X P N W S0 ops Q Kn (i + 1) T L (R ++ [slA e (flat sz enc hh) (.slice a n cap) (xs.set m x1)]))
    (hi : Nat.blt i ops.size = true := by rfl) (ho : opAt ops T i = some (.store t x y, none, ty) := by kernel_rfl) (hst : storeOf P t (enc xs[m]) off v = some (enc x1) := by kernel_rfl) :
    AT (.op (.store t x y) none ty) X P N W S0 ops Q Kn i T L C := opsOne (lt_of_blt hi) (STOREF t x y ty ho j R e a n cap m off xs (by simp [pulls, hp]) xs[m] x1 (List.getElem?_eq_getElem hj) v hx hy hst k)
/-- an own row that is not empty is not nil -/
def Iss (a : Option Addr) (n : Nat) : Prop := 0 < n → a.isSome = true
theorem Iss.get {a : Option Addr} {n : Nat} (h : Iss a n) (hn : 0 < n) : a.isSome = true := h hn
theorem gISS {c : Code} {a : Option Addr} {n cap j : Nat} {e : TypeId} {α : Type} {La : Lay α} {xs : List α} (hC : C[j]? = some (slA e La (.slice a n cap) xs) := by exact NT) (k : Iss a n → CD X P N W S0 c Q T L C) : CD X P N W S0 c Q T L C := by
  unfold CD at *
  exact FACT (Iss a n) (fun w hw hn => SlO.isS (hw.own j hC) hn) k
theorem qLO {t : TypeId} {x : Operand} {d : Nat} {ty : TypeId} {a : Option Addr} {m n cap sz off j : Nat} {e' : TypeId} {α : Type} {enc : α → List Value} {hh : ∀ x, (enc x).length = sz ∧ ∀ u ∈ enc x, isCell u = true} {xs : List α} {v : Value} [TB P]
    (hx : evo T x = some (.e a (m * sz) off) := by conv => lhs; whnf) (hC : C[j]? = some (slA e' (flat sz enc hh) (.slice a n cap) xs) := by exact NT) (hj : m < xs.length := by exact LEN) (hv : ldB (TB.D P) t (enc xs[m]) off some = some v := by conv => lhs; whnf) (k : QL X P N W S0 ops Q Kn (i + 1) ((d, .v v) :: T) L C)
    (ho : opAt ops T i = some (.load t x, some d, ty) := by kernel_rfl) (hd : d < N := by exact NL rfl) (hl : loadOf P t (enc xs[m]) off = some v := by kernel_rfl) :
    QT (.op (.load t x) (some d) ty) X P N W S0 ops Q Kn i T L C := qLE k hx (fun w hw => Rd.flat (hw.rdO j hC) (List.getElem?_eq_getElem hj)) hv ho hd hl
/-- a slice that is handed back, owned -/
theorem rOWN {e : TypeId} {α : Type} {La : Lay α} {a : Option Addr} {n c j : Nat} {xs xs' : List α} {R : List Ass} (hp : pull j C = some (slA e La (.slice a n c) xs, R) := by exact PU) (hn : n = xs.length := by rfl) (h : xs = xs') :
    RETG (.slice a n c) ⟨HH, fun p => .slice p.1 xs'.length p.2, fun p => [slA e La (.slice p.1 xs'.length p.2) xs']⟩ C := by
  subst h; subst hn
  exact ⟨(a, c), [j], rfl, by simp [pulls, hp]⟩
end rules
/-- a row that is handed back -/
abbrev RO {α : Type} (e : TypeId) (La : Lay α) (xs : List α) : Res := ⟨HH, fun p => .slice p.1 xs.length p.2, fun p => [slA e La (.slice p.1 xs.length p.2) xs]⟩
end SX
end Go.Proofs.YtaihohlklagdgaaGreat
