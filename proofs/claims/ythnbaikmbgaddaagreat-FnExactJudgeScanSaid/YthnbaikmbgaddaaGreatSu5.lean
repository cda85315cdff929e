/- Rows that are owned. It imports no program. -/
import Derived.Test.YthnbaikmbgaddaaGreatSu4
namespace Go.Proofs.YthnbaikmbgaddaaGreat
namespace SX
set_option linter.unusedVariables false
set_option linter.unusedSimpArgs false
open Go Go.RowKit
/-- an element's type: how it lies, its zero, its bytes; dec: an element out of its cells -/
class ElT (P : Program) (e : TypeId) (α : outParam Type) (sz : outParam Nat) (enc : outParam (α → List Value)) (hh : outParam (∀ x, (enc x).length = sz ∧ ∀ u ∈ enc x, isCell u = true)) where
  z : Value
  x0 : α
  bytes : Nat
  dec : List Value → Option α
  info : (P.info? e).map (fun i => (i.zero, i.size, i.bytes)) = some (some z, sz, bytes)
  zc : z.cells.toList = enc x0
  pos : 0 < sz
  small : bytes ≤ 1024
/-- nil only where it is empty -/
def NNil (a : Option Addr) (n : Nat) : Prop := a = none → n = 0
theorem nt0 {A : Ass} {C : List Ass} : (A :: C)[0]? = some A := rfl
theorem ntS {A B : Ass} {C : List Ass} {j : Nat} (h : C[j]? = some A) : (B :: C)[j + 1]? = some A := h
theorem PU {C R : List Ass} {A : Ass} {j : Nat} (h : pull j C = some (A, R) := by first | exact pu0 | (apply puS; first | exact pu0 | (apply puS; first | exact pu0 | (apply puS; first | exact pu0 | (apply puS; first | exact pu0 | (apply puS; first | exact pu0 | (apply puS; first | exact pu0 | (apply puS; first | exact pu0 | (apply puS; first | exact pu0 | (apply puS; first | exact pu0 | (apply puS; first | exact pu0 | (apply puS; first | exact pu0 | (apply puS; first | exact pu0 | (apply puS; first | exact pu0 | (apply puS; first | exact pu0 | (apply puS; first | exact pu0 | (apply puS; first | exact pu0 | (apply puS; first | exact pu0 | (apply puS; first | exact pu0 | (apply puS; first | exact pu0 | (apply puS; first | exact pu0 | (apply puS; first | exact pu0 | (apply puS; first | exact pu0 | (apply puS; first | exact pu0 | (apply puS; exact pu0))))))))))))))))))))))))) : pull j C = some (A, R) := h
theorem NT {C : List Ass} {A : Ass} {j : Nat} (h : C[j]? = some A := by first | exact nt0 | (apply ntS; first | exact nt0 | (apply ntS; first | exact nt0 | (apply ntS; first | exact nt0 | (apply ntS; first | exact nt0 | (apply ntS; first | exact nt0 | (apply ntS; first | exact nt0 | (apply ntS; first | exact nt0 | (apply ntS; first | exact nt0 | (apply ntS; first | exact nt0 | (apply ntS; first | exact nt0 | (apply ntS; first | exact nt0 | (apply ntS; first | exact nt0 | (apply ntS; first | exact nt0 | (apply ntS; first | exact nt0 | (apply ntS; first | exact nt0 | (apply ntS; first | exact nt0 | (apply ntS; first | exact nt0 | (apply ntS; first | exact nt0 | (apply ntS; first | exact nt0 | (apply ntS; first | exact nt0 | (apply ntS; first | exact nt0 | (apply ntS; first | exact nt0 | (apply ntS; first | exact nt0 | (apply ntS; exact nt0))))))))))))))))))))))))) : C[j]? = some A := h
theorem LEN {A : Prop} (h : A := by first | omega | (simp only [List.length_append, List.length_cons, List.length_nil, List.length_take, List.length_drop, List.length_set, List.length_replicate] at * <;> omega)) : A := h
theorem Rs.own {α : Type} {e : TypeId} {La : Lay α} {W w : World} {S0 : List Nat} {C : List Ass} {a : Option Addr} {c j : Nat} {xs : List α} (hw : At W S0 C w) (h : C[j]? = some (slA e La (.slice a xs.length c) xs)) : Rs La w (.slice a xs.length c) xs :=
  ⟨a, c, rfl, SlO.capE (hw.own j h), hw.rdO j h⟩
/-- the elements that are built -/
def partsO {α R : Type} (dec : List Value → Option α) (T : Tm) : Nat → List (Nat × Operand) → (List α → Option R) → Option R
  | _, [], k => k []
  | n, (m, x) :: r, k => match Nat.beq n m, evo T x with
    | true, some (.v v) => cellsC v (fun cs => match dec cs with
      | some y => partsO dec T (n + 1) r (fun l => k (y :: l))
      | none => none)
    | _, _ => none
section rules
variable {X : List Nat} {P : Program} {N : Nat} {W : World} {S0 : List Nat} {Q : Exit → Go.Act → World → Prop} {T : Tm} {L : Bx} {C : List Ass} {ops : Array Oper} {Kn : List (Nat × Nat)} {i : Nat}
theorem oBUILD {K : Go.Act → World → Prop} {t : TypeId} {len : Nat} {parts : Array (Nat × Operand)} {d : Nat} {ty : TypeId} {e sz : Nat} {α : Type} {enc : α → List Value} {hh : ∀ x, (enc x).length = sz ∧ ∀ u ∈ enc x, isCell u = true} {xs : List α} [TB P]
    (he : lkn (TB.D P).row t = some (e, sz) := by conv => lhs; whnf) (el : ElT P e α sz enc hh := by infer_instance) (hx : partsO el.dec T 0 parts.toList some = some xs := by conv => lhs; whnf)
    (k : ∀ a : Option Addr, a.isSome = true → G N W S0 K ((d, .v (.slice a len len)) :: T) L (C ++ [slA e (flat sz enc hh) (.slice a len len) xs]))
    (ho : opAt ops T i = some (.buildSlice t len parts, some d, ty) := by kernel_rfl) (hd : d < N := by exact NL rfl) (hb : (partsOf T parts.toList).bind (bsOf P t len) = some (e, xs.flatMap enc) := by kernel_rfl) (hl : xs.length = len := by kernel_rfl) (hm : Nat.ble len maxLen = true := by rfl) : OP P N W S0 ops Q i K T L C :=
  BUILDS t len parts d ty ho hd e (xs.flatMap enc) hb (flat sz enc hh) xs hl (Nat.le_of_ble_eq_true hm) [] [] C rfl (flatRep rfl) k
theorem aBUILD {t : TypeId} {len : Nat} {parts : Array (Nat × Operand)} {d : Nat} {ty : TypeId} {e sz : Nat} {α : Type} {enc : α → List Value} {hh : ∀ x, (enc x).length = sz ∧ ∀ u ∈ enc x, isCell u = true} {xs : List α} [TB P]
    (he : lkn (TB.D P).row t = some (e, sz) := by conv => lhs; whnf) (el : ElT P e α sz enc hh := by infer_instance) (hx : partsO el.dec T 0 parts.toList some = some xs := by conv => lhs; whnf)
    (k : ∀ a : Option Addr, a.isSome = true → OPL X P N W S0 ops Q Kn (i + 1) ((d, .v (.slice a len len)) :: T) L (C ++ [slA e (flat sz enc hh) (.slice a len len) xs])) (hi : Nat.blt i ops.size = true := by rfl)
    (ho : opAt ops T i = some (.buildSlice t len parts, some d, ty) := by kernel_rfl) (hd : d < N := by exact NL rfl) (hb : (partsOf T parts.toList).bind (bsOf P t len) = some (e, xs.flatMap enc) := by kernel_rfl) (hl : xs.length = len := by kernel_rfl) (hm : Nat.ble len maxLen = true := by rfl) :
    AT (.op (.buildSlice t len parts) (some d) ty) X P N W S0 ops Q Kn i T L C := opsOne (lt_of_blt hi) (oBUILD he el hx k ho hd hb hl hm)
/-- append(s, x...): both owned -/
theorem oAPP {K : Go.Act → World → Prop} {t : TypeId} {s x : Operand} {d : Nat} {ty : TypeId} {v : Value} {a2 : Option Addr} {n2 c2 e sz : Nat} {α : Type} {enc : α → List Value} {hh : ∀ x, (enc x).length = sz ∧ ∀ u ∈ enc x, isCell u = true} {xs ys : List α} {j1 j2 : Nat} {R1 R : List Ass} [TB P]
    (he : lkn (TB.D P).row t = some (e, sz) := by conv => lhs; whnf) (el : ElT P e α sz enc hh := by infer_instance) (hs : evv T s = some v := by conv => lhs; whnf) (hx : evv T x = some (.slice a2 n2 c2) := by conv => lhs; whnf)
    (hp1 : pull j1 C = some (slA e (flat sz enc hh) v xs, R1)) (hp2 : pull j2 R1 = some (slA e (flat sz enc hh) (.slice a2 n2 c2) ys, R)) (ha2 : a2.isSome = true) (hn2 : ys.length = n2) (hlen : xs.length + n2 ≤ 100000000000)
    (k : ∀ (a : Option Addr) (c : Nat), NNil a (xs ++ ys).length → G N W S0 K ((d, .v (.slice a (xs ++ ys).length c)) :: T) L (R ++ [slA e (flat sz enc hh) (.slice a (xs ++ ys).length c) (xs ++ ys)]))
    (ho : opAt ops T i = some (.call { callee := .builtin .append, args := #[s, x], argTypes := #[t, t] }, some d, ty) := by kernel_rfl) (hd : d < N := by exact NL rfl) (hu : P.underlying t = some (.slice e) := by kernel_rfl) : OP P N W S0 ops Q i K T L C := by
  have hb := el.small
  have hm : (xs.length + n2) * el.bytes ≤ (xs.length + n2) * 1024 := Nat.mul_le_mul_left _ hb
  have hz : el.z.cells.size = sz := by
    have h1 := congrArg List.length el.zc
    rw [(hh el.x0).1] at h1
    simpa using h1
  exact APPENDO t s x d ty ho hd v a2 n2 c2 hs hx ha2 e hu (flat sz enc hh) el.z el.bytes el.info hz el.pos j1 j2 xs ys R (by simp [pulls, hp1, hp2]) hn2 (by omega) (by simp only [maxLen]; omega) k
theorem aAPP {t : TypeId} {s x : Operand} {d : Nat} {ty : TypeId} {v : Value} {a2 : Option Addr} {n2 c2 e sz : Nat} {α : Type} {enc : α → List Value} {hh : ∀ x, (enc x).length = sz ∧ ∀ u ∈ enc x, isCell u = true} {xs ys : List α} {j1 j2 : Nat} {R1 R : List Ass} [TB P]
    (he : lkn (TB.D P).row t = some (e, sz) := by conv => lhs; whnf) (el : ElT P e α sz enc hh := by infer_instance) (hs : evv T s = some v := by conv => lhs; whnf) (hx : evv T x = some (.slice a2 n2 c2) := by conv => lhs; whnf)
    (hp1 : pull j1 C = some (slA e (flat sz enc hh) v xs, R1) := by exact PU) (hp2 : pull j2 R1 = some (slA e (flat sz enc hh) (.slice a2 n2 c2) ys, R) := by exact PU) (ha2 : a2.isSome = true := by assumption) (hn2 : ys.length = n2 := by rfl) (hlen : xs.length + n2 ≤ 100000000000 := by exact LEN)
    (k : ∀ (a : Option Addr) (c : Nat), NNil a (xs ++ ys).length → OPL X P N W S0 ops Q Kn (i + 1) ((d, .v (.slice a (xs ++ ys).length c)) :: T) L (R ++ [slA e (flat sz enc hh) (.slice a (xs ++ ys).length c) (xs ++ ys)])) (hi : Nat.blt i ops.size = true := by rfl)
    (ho : opAt ops T i = some (.call { callee := .builtin .append, args := #[s, x], argTypes := #[t, t] }, some d, ty) := by kernel_rfl) (hd : d < N := by exact NL rfl) (hu : P.underlying t = some (.slice e) := by kernel_rfl) :
    AT (.op (.call { callee := .builtin .append, args := #[s, x], argTypes := #[t, t] }) (some d) ty) X P N W S0 ops Q Kn i T L C := opsOne (lt_of_blt hi) (oAPP he el hs hx hp1 hp2 ha2 hn2 hlen k ho hd hu)
/-- append(s, x...): x is read -/
theorem aAPR {t : TypeId} {s x : Operand} {d : Nat} {ty : TypeId} {v : Value} {a2 : Option Addr} {n2 c2 e sz : Nat} {α : Type} {enc : α → List Value} {hh : ∀ x, (enc x).length = sz ∧ ∀ u ∈ enc x, isCell u = true} {xs ys : List α} {j1 : Nat} {R : List Ass} [TB P]
    (he : lkn (TB.D P).row t = some (e, sz) := by conv => lhs; whnf) (el : ElT P e α sz enc hh := by infer_instance) (hs : evv T s = some v := by conv => lhs; whnf) (hx : evv T x = some (.slice a2 n2 c2) := by conv => lhs; whnf)
    (hp1 : pull j1 C = some (slA e (flat sz enc hh) v xs, R) := by exact PU) (hr : Rd (flat sz enc hh) W a2 ys) (hn2 : ys.length = n2 := by rfl) (hlen : xs.length + n2 ≤ 100000000000 := by exact LEN)
    (k : ∀ (a : Option Addr) (c : Nat), NNil a (xs ++ ys).length → OPL X P N W [] ops Q Kn (i + 1) ((d, .v (.slice a (xs ++ ys).length c)) :: T) L (R ++ [slA e (flat sz enc hh) (.slice a (xs ++ ys).length c) (xs ++ ys)])) (hi : Nat.blt i ops.size = true := by rfl)
    (ho : opAt ops T i = some (.call { callee := .builtin .append, args := #[s, x], argTypes := #[t, t] }, some d, ty) := by kernel_rfl) (hd : d < N := by exact NL rfl) (hu : P.underlying t = some (.slice e) := by kernel_rfl) :
    AT (.op (.call { callee := .builtin .append, args := #[s, x], argTypes := #[t, t] }) (some d) ty) X P N W [] ops Q Kn i T L C := by
  have hb := el.small
  have hm : (xs.length + n2) * el.bytes ≤ (xs.length + n2) * 1024 := Nat.mul_le_mul_left _ hb
  have hz : el.z.cells.size = sz := by
    have h1 := congrArg List.length el.zc
    rw [(hh el.x0).1] at h1
    simpa using h1
  exact opsOne (lt_of_blt hi) (APPENDR t s x d ty ho hd v a2 n2 c2 hs hx e hu el.z el.bytes el.info hz el.pos j1 xs ys R (by simp [pulls, hp1]) hn2 (fun w hw => hr.fr hw.fr) (by omega) (by simp only [maxLen]; omega) k)
/-- an own nil slice comes into being -/
theorem aNIL {x : Nx} {e : TypeId} {α : Type} {La : Lay α} (k : AT x X P N W S0 ops Q Kn i T L (C ++ [slA e La (.slice none 0 0) []])) : AT x X P N W S0 ops Q Kn i T L C := NIL e La k
/-- the address of an element of an own row; a load out of it -/
theorem aIO {t : TypeId} {x ix : Operand} {d : Nat} {ty : TypeId} {a : Option Addr} {n cap : Nat} {kd : IntKind} {z e sz j : Nat} {e' : TypeId} {α : Type} {La : Lay α} {xs : List α} [TB P]
    (hix : evv T ix = some (.int kd (z : Int)) := by conv => lhs; whnf) (hx : evv T x = some (.slice a n cap) := by conv => lhs; whnf) (ho : lkn (TB.D P).row t = some (e, sz) := by conv => lhs; whnf)
    (hC : C[j]? = some (slA e' La (.slice a n cap) xs) := by exact NT) (hn : z < n := by exact LEN) (k : OPL X P N W S0 ops Q Kn (i + 1) ((d, .e a (z * sz) 0) :: T) L C)
    (hi : Nat.blt i ops.size = true := by rfl) (hoa : opAt ops T i = some (.indexAddr t x ix, some d, ty) := by kernel_rfl) (hd : d < N := by exact NL rfl) (hu : P.underlying t = some (.slice e) := by kernel_rfl) (hsz : (P.info? e).map (·.size) = some sz := by kernel_rfl) :
    AT (.op (.indexAddr t x ix) (some d) ty) X P N W S0 ops Q Kn i T L C := aIN k hix hx ho (fun w hw => SlO.isS (hw.own j hC) (by omega)) hn hi hoa hd hu hsz
theorem aLO {t : TypeId} {x : Operand} {d : Nat} {ty : TypeId} {a : Option Addr} {m n cap sz off j : Nat} {e' : TypeId} {α : Type} {enc : α → List Value} {hh : ∀ x, (enc x).length = sz ∧ ∀ u ∈ enc x, isCell u = true} {xs : List α} {v : Value} [TB P]
    (hx : evo T x = some (.e a (m * sz) off) := by conv => lhs; whnf) (hC : C[j]? = some (slA e' (flat sz enc hh) (.slice a n cap) xs) := by exact NT) (hj : m < xs.length := by exact LEN) (hv : ldB (TB.D P) t (enc xs[m]) off some = some v := by conv => lhs; whnf) (k : OPL X P N W S0 ops Q Kn (i + 1) ((d, .v v) :: T) L C)
    (hi : Nat.blt i ops.size = true := by rfl) (ho : opAt ops T i = some (.load t x, some d, ty) := by kernel_rfl) (hd : d < N := by exact NL rfl) (hl : loadOf P t (enc xs[m]) off = some v := by kernel_rfl) :
    AT (.op (.load t x) (some d) ty) X P N W S0 ops Q Kn i T L C := aLE k hx (fun w hw => Rd.flat (hw.rdO j hC) (List.getElem?_eq_getElem hj)) hv hi ho hd hl
/-- a store into an element of an own row -/
def stE {α R : Type} (dec : List Value → Option α) (off : Nat) (cs : List Value) (v : Value) (k : α → Option R) : Option R :=
  cellsC v (fun vs => putC off cs vs (fun cs => match dec cs with
    | some y => k y
    | none => none))
theorem aSO {t : TypeId} {x y : Operand} {ty : TypeId} {a : Option Addr} {m n cap sz off j e : Nat} {α : Type} {enc : α → List Value} {hh : ∀ x, (enc x).length = sz ∧ ∀ u ∈ enc x, isCell u = true} {xs : List α} {v : Value} {x1 : α} {R : List Ass}
    (hx : evo T x = some (.e a (m * sz) off) := by conv => lhs; whnf) (hy : evv T y = some v := by conv => lhs; whnf) (hp : pull j C = some (slA e (flat sz enc hh) (.slice a n cap) xs, R) := by exact PU) (el : ElT P e α sz enc hh := by infer_instance) (hj : m < xs.length := by exact LEN) (hv : stE el.dec off (enc xs[m]) v some = some x1 := by conv => lhs; whnf)
    (k : OPL X P N W S0 ops Q Kn (i + 1) T L (R ++ [slA e (flat sz enc hh) (.slice a n cap) (xs.set m x1)]))
    (hi : Nat.blt i ops.size = true := by rfl) (ho : opAt ops T i = some (.store t x y, none, ty) := by kernel_rfl) (hst : storeOf P t (enc xs[m]) off v = some (enc x1) := by kernel_rfl) :
    AT (.op (.store t x y) none ty) X P N W S0 ops Q Kn i T L C := opsOne (lt_of_blt hi) (STOREF t x y ty ho j R e a n cap m off xs (by simp [pulls, hp]) xs[m] x1 (List.getElem?_eq_getElem hj) v hx hy hst k)
/-- an own row that is not empty is not nil -/
def Iss (a : Option Addr) (n : Nat) : Prop := 0 < n → a.isSome = true
theorem Iss.get {a : Option Addr} {n : Nat} (h : Iss a n) (hn : 0 < n) : a.isSome = true := h hn
theorem gISS {c : Code} {a : Option Addr} {n cap j : Nat} {e : TypeId} {α : Type} {La : Lay α} {xs : List α} (hC : C[j]? = some (slA e La (.slice a n cap) xs) := by exact NT) (k : Iss a n → CD X P N W S0 c Q T L C) : CD X P N W S0 c Q T L C := by
  unfold CD at *
  exact FACT (Iss a n) (fun w hw hn => SlO.isS (hw.own j hC) hn) k
theorem qLO {t : TypeId} {x : Operand} {d : Nat} {ty : TypeId} {a : Option Addr} {m n cap sz off j : Nat} {e' : TypeId} {α : Type} {enc : α → List Value} {hh : ∀ x, (enc x).length = sz ∧ ∀ u ∈ enc x, isCell u = true} {xs : List α} {v : Value} [TB P]
    (hx : evo T x = some (.e a (m * sz) off) := by conv => lhs; whnf) (hC : C[j]? = some (slA e' (flat sz enc hh) (.slice a n cap) xs) := by exact NT) (hj : m < xs.length := by exact LEN) (hv : ldB (TB.D P) t (enc xs[m]) off some = some v := by conv => lhs; whnf) (k : QL X P N W S0 ops Q Kn (i + 1) ((d, .v v) :: T) L C)
    (ho : opAt ops T i = some (.load t x, some d, ty) := by kernel_rfl) (hd : d < N := by exact NL rfl) (hl : loadOf P t (enc xs[m]) off = some v := by kernel_rfl) :
    QT (.op (.load t x) (some d) ty) X P N W S0 ops Q Kn i T L C := qLE k hx (fun w hw => Rd.flat (hw.rdO j hC) (List.getElem?_eq_getElem hj)) hv ho hd hl
/-- a slice that is handed back, owned -/
theorem rOWN {e : TypeId} {α : Type} {La : Lay α} {a : Option Addr} {n c j : Nat} {xs xs' : List α} {R : List Ass} (hp : pull j C = some (slA e La (.slice a n c) xs, R) := by exact PU) (hn : n = xs.length := by rfl) (h : xs = xs') :
    RETG (.slice a n c) ⟨HH, fun p => .slice p.1 xs'.length p.2, fun p => [slA e La (.slice p.1 xs'.length p.2) xs']⟩ C := by
  subst h; subst hn
  exact ⟨(a, c), [j], rfl, by simp [pulls, hp]⟩
end rules
/-- a row that is handed back -/
abbrev RO {α : Type} (e : TypeId) (La : Lay α) (xs : List α) : Res := ⟨HH, fun p => .slice p.1 xs.length p.2, fun p => [slA e La (.slice p.1 xs.length p.2) xs]⟩
end SX
end Go.Proofs.YthnbaikmbgaddaaGreat
