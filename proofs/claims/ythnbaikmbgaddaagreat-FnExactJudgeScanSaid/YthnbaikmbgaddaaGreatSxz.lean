/- Short names for what the printed walks say often. It imports no program. -/
import Derived.Test.YthnbaikmbgaddaaGreatSxd
import Derived.Test.YthnbaikmbgaddaaGreatSxe
import Derived.Test.YthnbaikmbgaddaaGreatSxc
import Derived.Test.YthnbaikmbgaddaaGreatMdl9
namespace Go.Proofs.YthnbaikmbgaddaaGreat
namespace SX
set_option linter.unusedVariables false
set_option linter.unusedSimpArgs false
open Go Go.RowKit
/-! ### Tactics that prove a side goal -/
theorem KR {p : Prop} (h : p := by kernel_rfl) : p := h
theorem LQ {p : Prop} (h : p := by first | omega | (simp only [List.length_append, List.length_cons, List.length_nil, List.length_take, List.length_drop] at *; omega)) : p := h
theorem LM {p : Prop} (h : p := by simp only [maxLen]; first | omega | (simp only [List.length_append, List.length_cons, List.length_nil, List.length_take, List.length_drop] at *; omega)) : p := h
theorem LA {p : Prop} (h : p := by first | assumption | omega | (dsimp only; omega) | (simp only [List.length_append, List.length_cons, List.length_nil] at *; omega)) : p := h
theorem LD {p : Prop} (h : p := by first | omega | (dsimp only; omega)) : p := h
theorem LO {p : Prop} (h : p := by omega) : p := h
theorem LF {p : Prop} (h : p := by simp only [maxLen]; omega) : p := h
theorem LS {p : Prop} (h : p := by assumption) : p := h
/-! ### Cells -/
@[reducible] def rC (x : Rules) (a : Option Addr) (c : Nat) : List Value := [.slice a x.seats.length c, vi x.tiers, vi x.room, vi x.size, vi x.period, vi x.window, vi x.rest, vi x.tries, vi x.crew]
@[reducible] def caC (x : Cabin) (a1 : Option Addr) (c1 : Nat) (a2 : Option Addr) (c2 : Nat) : List Value := [vi x.seats.total, vi x.seats.free, vi x.seats.held, vi x.seats.sold, vi x.seats.tied, .slice a1 x.row.length c1, .slice a2 x.wheel.spoke.length c2]
@[reducible] def paC (x : Party) : List Value := [vi x.id, vi x.cabin, vi x.from', vi x.size, vi x.tier, vi x.since, vi x.turn, vi x.state, vi x.until', vi x.asked]
@[reducible] def paZ : List Value := [vi 0, vi 0, vi 0, vi 0, vi 0, vi 0, vi 0, vi 0, vi 0, vi 0]
@[reducible] def leC (x : Ledger) : List Value := [vi x.total, vi x.free, vi x.held, vi x.sold, vi x.tied]
/-! ### Rules -/
section
variable {P : Program} {N : Nat} {W : World} {S0 : List Nat} {Q : Exit → Go.Act → World → Prop} {T : Tm} {L : Bx} {C C0 : List Ass} {ops : Array Oper}
theorem CX {i : Nat} {K : Go.Act → World → Prop} {f : FuncId} {vs : Array Value} {r : Res} (d : Nat) (hcon : ∀ w, At W S0 C w → Spec P w [] f vs r) (k : ∀ x : r.ι, G N W S0 K (putd (some d) (.v (r.val x)) T) L (C ++ r.own x))
    (hc : callOf P ops T i = some (f, vs, some d) := by kernel_rfl) (hd : ∀ k, some d = some k → k < N := by exact NO rfl) : OP P N W S0 ops Q i K T L C := CA f vs (some d) r hcon k hc hd
theorem CY {i : Nat} {K : Go.Act → World → Prop} {f : FuncId} {vs : Array Value} {r : Res} {pre R : List Ass} (d : Nat) (js : List Nat) (hcon : ∀ w, At W S0 C w → Spec P w pre f vs r) (hp : pulls js C = some (pre, R)) (k : ∀ x : r.ι, G N W S0 K (putd (some d) (.v (r.val x)) T) L (R ++ r.own x))
    (hc : callOf P ops T i = some (f, vs, some d) := by kernel_rfl) (hd : ∀ k, some d = some k → k < N := by exact NO rfl) : OP P N W S0 ops Q i K T L C := CALL f vs (some d) hc js pre R hp r hcon hd k
theorem QX {i : Nat} {f : FuncId} {vs : Array Value} {v : Value} (d : Nat) (hcon : ∀ w, At W S0 C w → Spec P w [] f vs (RV v)) (k : QO P N W S0 ops Q (i + 1) (putd (some d) (.v v) T) L C)
    (hc : callOf P ops T i = some (f, vs, some d) := by kernel_rfl) (hd : ∀ k, some d = some k → k < N := by exact NO rfl) : QO P N W S0 ops Q i T L C := QCA f vs (some d) v hcon k hc hd
theorem BU {i : Nat} {K : Go.Act → World → Prop} (t : TypeId) (len : Nat) (parts : Array (Nat × Operand)) (d : Nat) (ty : TypeId) (e : TypeId) (cells : List Value) {α : Type} (La : Lay α) (xs : List α) (hrep : ∀ w fps, holds w [] fps → cellsRep La true w cells xs fps.flatten)
    (k : ∀ a : Option Addr, a.isSome = true → G N W S0 K ((d, .v (.slice a len len)) :: T) L (C ++ [slA e La (.slice a len len) xs])) (ho : opAt ops T i = some (.buildSlice t len parts, some d, ty) := by kernel_rfl) (hd : d < N := by exact NL rfl)
    (hb : (partsOf T parts.toList).bind (bsOf P t len) = some (e, cells) := by kernel_rfl) (hl : xs.length = len := by rfl) (hm : len ≤ maxLen := by simp only [maxLen]; omega) : OP P N W S0 ops Q i K T L C :=
  BUILDS t len parts d ty ho hd e cells hb La xs hl hm [] [] C rfl hrep k
theorem AO {i : Nat} {K : Go.Act → World → Prop} (t : TypeId) (s x : Operand) (d : Nat) (ty : TypeId) (v : Value) (a2 : Option Addr) (n2 c2 : Nat) (ha2 : a2.isSome = true) (e : TypeId) {α : Type} (La : Lay α) (z : Value) (bytes : Nat) (j1 j2 : Nat) (xs ys : List α) {R : List Ass}
    (hp : pulls [j1, j2] C = some ([slA e La v xs, slA e La (.slice a2 n2 c2) ys], R))
    (k : ∀ (a : Option Addr) (c : Nat), (a = none → (xs ++ ys).length = 0) → G N W S0 K ((d, .v (.slice a (xs ++ ys).length c)) :: T) L (R ++ [slA e La (.slice a (xs ++ ys).length c) (xs ++ ys)]))
    (ho : opAt ops T i = some (.call { callee := .builtin .append, args := #[s, x], argTypes := #[t, t] }, some d, ty) := by kernel_rfl) (hd : d < N := by exact NL rfl) (hs : evv T s = some v := by kernel_rfl) (hx : evv T x = some (.slice a2 n2 c2) := by kernel_rfl)
    (hu : P.underlying t = some (.slice e) := by kernel_rfl) (hi : (P.info? e).map (fun i => (i.zero, i.size, i.bytes)) = some (some z, La.sz, bytes) := by kernel_rfl) (hz : z.cells.size = La.sz := by rfl) (hsz : 0 < La.sz := by decide) (hn2 : ys.length = n2 := by rfl)
    (hlen : (xs.length + n2) * bytes ≤ 140737488355328 := by first | omega | (simp only [List.length_append, List.length_cons, List.length_nil, List.length_take, List.length_drop] at *; omega))
    (hlen' : xs.length + n2 ≤ maxLen := by simp only [maxLen]; first | omega | (simp only [List.length_append, List.length_cons, List.length_nil, List.length_take, List.length_drop] at *; omega)) : OP P N W S0 ops Q i K T L C :=
  APPENDO t s x d ty ho hd v a2 n2 c2 hs hx ha2 e hu La z bytes hi hz hsz j1 j2 xs ys R hp hn2 hlen hlen' k
theorem HW {fuel : Nat} {listed : Array Bool} (js : List Nat) (k : H P N W S0 ops Q C0 fuel listed T L C) (hC : (pulls js C).map (·.1) = some C0 := by rfl) : G N W S0 (HN P W S0 ops Q C0 fuel listed) T L C := HKEEP hC k
theorem HK {fuel : Nat} {listed : Array Bool} (js rs : List Nat) (k : AllOf (fun i => OP P N W S0 ops (nQ Q) i (HN P W S0 ops Q C0 fuel (listed.setIfInBounds i true)) T L C) rs) (hC : (pulls js C).map (·.1) = some C0 := by rfl) (hr : Region.ready .any ops listed = rs := by kernel_rfl) (hne : rs ≠ [] := by decide) :
    G N W S0 (HN P W S0 ops Q C0 (fuel + 1) listed) T L C := HKEEP hC (HALL rs hr hne k)
theorem HS {fuel : Nat} {listed : Array Bool} (i : Nat) (js : List Nat) {T' : Tm} (ho : (match ops[i]? with | some o => if wants ops T o = some false then put N T o.dst (.v undef) else none | none => none) = some T')
    (k : H P N W S0 ops Q C0 fuel (listed.setIfInBounds i true) T' L C) (hk : (Region.noSelect ops && Region.free .any ops listed i && (Region.ready .any ops listed).contains i) = true := by kernel_rfl) (hC : (pulls js C).map (·.1) = some C0 := by rfl) : H P N W S0 ops Q C0 (fuel + 1) listed T L C := HSKIP T' ho hk hC k
theorem HDz {fuel : Nat} {listed : Array Bool} (k : DONE N W S0 Q .normal T L C) (hr : Region.ready .any ops listed = [] := by kernel_rfl) : H P N W S0 ops Q C0 fuel listed T L C := HEND hr k
theorem XN {y : Code} {Q' : Exit → Go.Act → World → Prop} {is : List Nat} (k : CODE P N W S0 y Q T L C) (h : is = [] := by rfl) : OPS P N W S0 ops (Exit.then (y.wp P Q) Q') is T L C := by subst h; exact ENDOPS (NEXT k)
theorem XF {fn : Func} {r : Res} {Q' : Exit → Go.Act → World → Prop} {is : List Nat} (hq : Q .ret = bodyPost P fn (RetM S0 r W) .ret) (v : Value) (x : r.ι) (js : List Nat) (hx : v = r.val x) (hp : (pulls js C).map (·.1) = some (r.own x) := by rfl) (hv : resOf fn P T L = some v := by kernel_rfl) (h : is = [] := by rfl) :
    OPS P N W S0 ops (Exit.then (Code.wp P .ret Q) Q') is T L C := by subst h; exact ENDOPS (NEXT (RF hq v x js hx hp hv))
theorem RB {fn : Func} {val : Unit → Value} {Q' : Exit → Go.Act → World → Prop} {is : List Nat} (hq : Q .ret = bodyPost P fn (RetM S0 ⟨Unit, val, fun _ => []⟩ W) .ret) (d : Nat) (b : Bool) (hx : .bool b = val ()) (hr : runD P N ops 1 is T L [d] = some ([(d, B b)], L) := by kernel_rfl)
    (hv : resOf fn P ((d, B b) :: T) L = some (.bool b) := by kernel_rfl) (h : is.drop 1 = [] := by rfl) :
    OPS P N W S0 ops (Exit.then (Code.wp P .ret Q) Q') is T L C := RUL 1 _ [(d, B b)] L hr rfl (XF (r := ⟨Unit, val, fun _ => []⟩) hq (.bool b) () [] hx rfl hv h)
theorem XS {x y : Code} {Q' : Exit → Go.Act → World → Prop} (k : CODE P N W S0 x (Exit.then (y.wp P Q) Q) T L C) : DONE N W S0 (Exit.then ((Code.seq x y).wp P Q) Q') .normal T L C := NEXT (SEQ k)
theorem XK {y : Code} {Q' : Exit → Go.Act → World → Prop} (k : CODE P N W S0 y Q T L C) : CODE P N W S0 .skip (Exit.then (y.wp P Q) Q') T L C := SKIP (NEXT k)
theorem XG {id : Nat} {y : Code} (k : OPS P N W S0 ops (Exit.then (y.wp P Q) Q) (List.range ops.size) T L C) : CODE P N W S0 (.seq (.region id ops false) y) Q T L C := SEQ (RG k)
theorem XI {x : Operand} {c d : Code} (k : CODE P N W S0 c Q T L C) (hx : evv T x = some (.bool true) := by kernel_rfl) : CODE P N W S0 (.cond x c d) Q T L C := IFT hx k
end
theorem dT {p X : Prop} [Decidable p] (f : p → decide p = true → X) (h : decide p = true) : X := f (of_decide_eq_true h) h
theorem dF {p X : Prop} [Decidable p] (f : ¬ p → decide p = false → X) (h : decide p = false) : X := f (of_decide_eq_false h) h
theorem aT {a b X : Prop} (g : a → b) (f : b → a → X) (h : a) : X := f (g h) h
theorem VC {x : Int} {n : Nat} (h : x = n := by omega) (h1 : n ≤ 9223372036854775807 := by omega) : vi (wr x) = vi (n : Int) := vi_cast h h1
end SX
end Go.Proofs.YthnbaikmbgaddaaGreat
