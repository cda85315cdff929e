/- Texts of this claim, put together by program. -/
import Derived.Test.YthnbaikmbgaddaaGreatSu2
import Derived.Test.YthnbaikmbgaddaaGreatMdl9
/- Data that are read, and the engine. It imports no program. -/
namespace Go.Proofs.YthnbaikmbgaddaaGreat
namespace SX
set_option linter.unusedVariables false
set_option linter.unusedSimpArgs false
open Go Go.RowKit
def reqE (q : Req) : List Value := [vi q.kind, vi q.id, vi q.cabin, vi q.from', vi q.size, vi q.tier]
theorem reqH (q : Req) : (reqE q).length = 6 ∧ ∀ u ∈ reqE q, isCell u = true := ⟨rfl, by simp [reqE, isCell]⟩
/-- a slice's value -/
def Rs {α : Type} (La : Lay α) (w : World) (v : Value) (xs : List α) : Prop := ∃ a c, v = .slice a xs.length c ∧ xs.length ≤ c ∧ Rd La w a xs
theorem Rs.fr {α : Type} {La : Lay α} {W w : World} {v : Value} {xs : List α} (h : Rs La W v xs) (hf : Fr [] W w) : Rs La w v xs := let ⟨a, c, h1, h2, h3⟩ := h; ⟨a, c, h1, h2, h3.fr hf⟩
theorem Rs.mk {α : Type} {La : Lay α} {W w : World} {a : Option Addr} {c : Nat} {xs : List α} (h : Rd La W a xs) (hc : xs.length ≤ c) (hf : Fr [] W w) : Rs La w (.slice a xs.length c) xs := ⟨a, c, rfl, hc, h.fr hf⟩
def RulesR (w : World) (cs : List Value) (r : Rules) : Prop := ∃ a c, cs = [.slice a r.seats.length c, vi r.tiers, vi r.room, vi r.size, vi r.period, vi r.window, vi r.rest, vi r.tries, vi r.crew] ∧ r.seats.length ≤ c ∧ Rd intL w a r.seats
theorem RulesR.fr {W w : World} {cs : List Value} {r : Rules} (h : RulesR W cs r) (hf : Fr [] W w) : RulesR w cs r := let ⟨a, c, h1, h2, h3⟩ := h; ⟨a, c, h1, h2, h3.fr hf⟩
theorem RulesR.mk {W w : World} {a : Option Addr} {c : Nat} {r : Rules} (h : Rd intL W a r.seats) (hc : r.seats.length ≤ c) (hf : Fr [] W w) : RulesR w [.slice a r.seats.length c, vi r.tiers, vi r.room, vi r.size, vi r.period, vi r.window, vi r.rest, vi r.tries, vi r.crew] r := ⟨a, c, rfl, hc, h.fr hf⟩
def CabinR (e3 : TypeId) (w : World) (cs : List Value) (c : Cabin) : Prop := ∃ a1 c1 a2 c2, cs = [vi c.seats.total, vi c.seats.free, vi c.seats.held, vi c.seats.sold, vi c.seats.tied, .slice a1 c.row.length c1, .slice a2 c.wheel.spoke.length c2] ∧ c.row.length ≤ c1 ∧ c.wheel.spoke.length ≤ c2 ∧ Rd entryL w a1 c.row ∧ Rd (sl e3 pinL) w a2 c.wheel.spoke
theorem CabinR.fr {e : TypeId} {W w : World} {cs : List Value} {c : Cabin} (h : CabinR e W cs c) (hf : Fr [] W w) : CabinR e w cs c := let ⟨a1, c1, a2, c2, h1, h2, h3, h4, h5⟩ := h; ⟨a1, c1, a2, c2, h1, h2, h3, h4.fr hf, h5.fr hf⟩
theorem CabinR.mk {e : TypeId} {W w : World} {a1 a2 : Option Addr} {c1 c2 : Nat} {c : Cabin} (h2 : c.row.length ≤ c1) (h3 : c.wheel.spoke.length ≤ c2) (h4 : Rd entryL W a1 c.row) (h5 : Rd (sl e pinL) W a2 c.wheel.spoke) (hf : Fr [] W w) :
    CabinR e w [vi c.seats.total, vi c.seats.free, vi c.seats.held, vi c.seats.sold, vi c.seats.tied, .slice a1 c.row.length c1, .slice a2 c.wheel.spoke.length c2] c := ⟨a1, c1, a2, c2, rfl, h2, h3, h4.fr hf, h5.fr hf⟩
def HouseR (e4 e5 e6 : TypeId) (w : World) (cs : List Value) (x : House) : Prop := ∃ a1 c1 a2 c2 a3 c3 a4 c4 a5 c5, cs = [.slice a1 x.rules.seats.length c1, vi x.rules.tiers, vi x.rules.room, vi x.rules.size, vi x.rules.period, vi x.rules.window, vi x.rules.rest, vi x.rules.tries, vi x.rules.crew, vi x.now, vi x.turn, .slice a2 x.parties.length c2, .slice a3 x.cabins.length c3, .slice a4 x.todo.length c4, .slice a5 x.jobs.length c5] ∧
  x.rules.seats.length ≤ c1 ∧ x.parties.length ≤ c2 ∧ x.cabins.length ≤ c3 ∧ x.todo.length ≤ c4 ∧ x.jobs.length ≤ c5 ∧ Rd intL w a1 x.rules.seats ∧ Rd partyL w a2 x.parties ∧ Rd (cabinLx e4 e5 e6) w a3 x.cabins ∧ Rd intL w a4 x.todo ∧ Rd intL w a5 x.jobs
theorem HouseR.fr {e4 e5 e6 : TypeId} {W w : World} {cs : List Value} {x : House} (h : HouseR e4 e5 e6 W cs x) (hf : Fr [] W w) : HouseR e4 e5 e6 w cs x := by
  obtain ⟨a1, c1, a2, c2, a3, c3, a4, c4, a5, c5, h0, h1, h2, h3, h4, h5, h6, h7, h8, h9, h10⟩ := h
  exact ⟨a1, c1, a2, c2, a3, c3, a4, c4, a5, c5, h0, h1, h2, h3, h4, h5, h6.fr hf, h7.fr hf, h8.fr hf, h9.fr hf, h10.fr hf⟩
/-- how an element of a row that is read is opened -/
class OpR {α : Type} (La : Lay α) (ι : outParam Type) (enc : outParam (α → ι → List Value)) (imp : outParam (World → α → ι → Prop → Prop)) : Prop where
  ex : ∀ {w : World} {a : Option Addr} {xs : List α} {k : Nat} {x : α}, Rd La w a xs → xs[k]? = some x → ∃ i, ElemAt w a (k * La.sz) (enc x i) ∧ ∀ A, imp w x i A → A
instance {e1 e2 e3 : TypeId} : OpR (cabinLx e1 e2 e3) (HH × HH) (fun c i => [vi c.seats.total, vi c.seats.free, vi c.seats.held, vi c.seats.sold, vi c.seats.tied, .slice i.1.1 c.row.length i.1.2, .slice i.2.1 c.wheel.spoke.length i.2.2])
    (fun w c i A => c.row.length ≤ i.1.2 → c.wheel.spoke.length ≤ i.2.2 → c.row.length ≤ 9223372036854775807 → c.wheel.spoke.length ≤ 9223372036854775807 → Rd entryL w i.1.1 c.row → Rd (sl e3 pinL) w i.2.1 c.wheel.spoke → A) := ⟨fun h hk => by
  obtain ⟨a1, c1, a2, c2, h1, h2, h3, h4, h5⟩ := cabin_view h hk
  exact ⟨((a1, c1), (a2, c2)), h1, fun A k => k h4 h5 h2.len h3.len h2 h3⟩⟩
instance {α : Type} {e : TypeId} {La : Lay α} : OpR (sl e La) HH (fun xs i => [.slice i.1 xs.length i.2]) (fun w xs i A => xs.length ≤ i.2 → xs.length ≤ 9223372036854775807 → Rd La w i.1 xs → A) := ⟨fun h hk => by
  obtain ⟨a1, c1, h1, h2, h3⟩ := sl_view h hk
  exact ⟨(a1, c1), h1, fun A k => k h3 h2.len h2⟩⟩
section rules
variable {X : List Nat} {P : Program} {N : Nat} {W : World} {S0 : List Nat} {Q : Exit → Go.Act → World → Prop} {T : Tm} {L : Bx} {C : List Ass} {ops : Array Oper} {Kn : List (Nat × Nat)} {i : Nat}
/-- a load out of an element that holds slices -/
theorem aLN {t : TypeId} {x : Operand} {d : Nat} {ty : TypeId} {a : Option Addr} {j sz off : Nat} {α ι : Type} {La : Lay α} {enc : α → ι → List Value} {imp : World → α → ι → Prop → Prop} [op : OpR La ι enc imp] {xs : List α} {y : α} {v : ι → Value} [TB P]
    (k : ∀ q, imp W y q (OPL X P N W [] ops Q Kn (i + 1) ((d, .v (v q)) :: T) L C))
    (hx : evo T x = some (.e a (j * sz) off) := by conv => lhs; whnf) (hr : Rd La W a xs) (hj : xs[j]? = some y) (hv : ∀ q, ldB (TB.D P) t (enc y q) off some = some (v q) := by intro q; conv => lhs; whnf)
    (hsz : La.sz = sz := by rfl) (hi : Nat.blt i ops.size = true := by rfl) (ho : opAt ops T i = some (.load t x, some d, ty) := by kernel_rfl) (hd : d < N := by exact NL rfl) (hl : ∀ q, loadOf P t (enc y q) off = some (v q) := by intro q; kernel_rfl) :
    AT (.op (.load t x) (some d) ty) X P N W [] ops Q Kn i T L C := by
  subst hsz
  obtain ⟨q, h1, h2⟩ := op.ex hr hj
  refine opsOne (lt_of_blt hi) (LOADE t x d ty ho hd a (j * La.sz) off _ (v q) hx (fun w hw j hj => ?_) (hl q) (h2 _ (k q)))
  exact ElemAt.fr h1 hw.fr j hj
end rules
end SX
end Go.Proofs.YthnbaikmbgaddaaGreat
/- Regions whose order is open, in the text's order. It imports no program. -/
namespace Go.Proofs.YthnbaikmbgaddaaGreat
namespace SX
set_option linter.unusedVariables false
set_option linter.unusedSimpArgs false
open Go Go.RowKit
section rules
variable {X : List Nat} {P : Program} {N : Nat} {W : World} {S0 : List Nat} {Q : Exit → Go.Act → World → Prop} {T : Tm} {L : Bx} {C : List Ass} {ops : Array Oper} {Kn : List (Nat × Nat)} {i : Nat}
def QL (X : List Nat) (P : Program) (N : Nat) (W : World) (S0 : List Nat) (ops : Array Oper) (Q : Exit → Go.Act → World → Prop) (Kn : List (Nat × Nat)) (i : Nat) (T : Tm) (L : Bx) (C : List Ass) : Prop := QO P N W S0 ops Q i T L C
def QT (x : Nx) (X : List Nat) (P : Program) (N : Nat) (W : World) (S0 : List Nat) (ops : Array Oper) (Q : Exit → Go.Act → World → Prop) (Kn : List (Nat × Nat)) (i : Nat) (T : Tm) (L : Bx) (C : List Ass) : Prop := QL X P N W S0 ops Q Kn i T L C
def inN : List Nat → Nat → Bool
  | [], _ => false
  | k :: r, i => match Nat.beq k i with
    | true => true
    | false => inN r i
/-- nothing in the region writes memory -/
def quietR (D : OTab) : List Oper → Bool
  | [] => true
  | o :: os => match o.op with
    | .box _ _ | .alloc _ | .store _ _ _ | .slice _ _ _ _ _ | .buildSlice _ _ _ | .makeSlice _ _ _ | .makeMap _ _ | .mapUpdate _ _ _ _ | .makeFunc _ _ _ => false
    | .call c => match c.callee with
      | .builtin .len | .builtin .max | .builtin .min | .builtin .cap => quietR D os
      | .builtin _ => false
      | _ => match inN D.loud o.type with
        | true => false
        | false => quietR D os
    | _ => quietR D os
theorem gRQ [TB P] {id : Nat} (k : QL X P N W S0 ops Q [] 0 T L C) (hq : quietR (TB.D P) ops.toList = true := by rfl) (hB : Region.lexB .any ops = true := by decide +kernel) (hm : P.follows .mixedOrders = true := by kernel_rfl) : CD X P N W S0 (.region id ops true) Q T L C := REGIONQ hm hB k
theorem qNXT [TB P] {x : Nx} (k : QT x X P N W S0 ops Q Kn i T L C) (h : nxt (TB.D P) ops Kn i T L = some x := by conv => lhs; whnf) : QL X P N W S0 ops Q Kn i T L C := k
theorem qRUN {n : Nat} {T' : Tm} (k : QL X P N W S0 ops Q Kn (i + n) T' L C) (h : runQ P N ops L n i T = some T' := by kernel_rfl) : QT (.run n T' L) X P N W S0 ops Q Kn i T L C := runQ_ok n i h k
theorem qFIN {T' : Tm} (k : DN X N W S0 Q .normal T' L C) (hp : prune X [] T some = some T' := by conv => lhs; whnf) (hT : keep T (T'.map (·.1)) = keep T' (T'.map (·.1)) := by kernel_rfl) (hn : boundedB L.length T' = true := by kernel_rfl) (h : ops.size = i := by rfl) : QT .fin X P N W S0 ops Q Kn i T L C := by
  refine QEND h fun a w h => k a w ?_
  obtain ⟨bs, fps, ht, hb, hm⟩ := h
  exact ⟨bs, fps, ⟨ht.1, ht.2.1, fun i x hx => ht.2.2 i x (sub_ok hT i x hx)⟩, boundedB_ok hn, hm⟩
theorem qASK {d : Nat} {b : Bool} (k : CND b (QL X P N W S0 ops Q ((d, 1) :: Kn) i ((d, .v (.bool true)) :: T) L C) (QL X P N W S0 ops Q ((d, 0) :: Kn) i ((d, .v (.bool false)) :: T) L C))
    (h : lk T d = some (.v (.bool b)) := by conv => lhs; whnf) : QT (.ask d) X P N W S0 ops Q Kn i T L C := QSPLIT b h k.1 k.2
theorem qASKU {d : Nat} (k : QL X P N W S0 ops Q ((d, 2) :: Kn) i T L C) (h : lk T d = some (.v undef) := by conv => lhs; whnf) : QT (.ask d) X P N W S0 ops Q Kn i T L C := k
theorem qWRP {n : Nat} {T' : Tm} {d : Nat} {e e' : Int} (k : QL X P N W S0 ops Q Kn (i + n) ((d, .v (.int .i64 e')) :: T') L C) (he : wr e = e') (h : runQ P N ops L n i T = some ((d, .v (.int .i64 (IntKind.wrap .i64 e))) :: T') := by kernel_rfl) : QT (.wrp n T' d e L) X P N W S0 ops Q Kn i T L C := by
  refine runQ_ok n i h ?_
  have e1 : IntKind.wrap .i64 e = e' := he
  rw [e1]
  exact k
theorem qWRN {n : Nat} {T' : Tm} {d m : Nat} (k : QL X P N W S0 ops Q Kn (i + n) ((d, .v (.int .i64 ((m + 1 : Nat) : Int))) :: T') L C) (h1 : m < 9223372036854775807)
    (h : runQ P N ops L n i T = some ((d, .v (.int .i64 (IntKind.wrap .i64 ((m : Int) + 1)))) :: T') := by kernel_rfl) : QT (.wrp n T' d ((m : Int) + 1) L) X P N W S0 ops Q Kn i T L C := qWRP k (wr_of (by omega) (by omega)) h
theorem qWRM {n : Nat} {T' : Tm} {d m : Nat} (k : QL X P N W S0 ops Q Kn (i + n) ((d, .v (.int .i64 ((m - 1 : Nat) : Int))) :: T') L C) (h0 : 1 ≤ m) (h1 : m < 9223372036854775807)
    (h : runQ P N ops L n i T = some ((d, .v (.int .i64 (IntKind.wrap .i64 ((m : Int) - 1)))) :: T') := by kernel_rfl) : QT (.wrp n T' d ((m : Int) - 1) L) X P N W S0 ops Q Kn i T L C := qWRP k (by rw [wr_of (by omega) (by omega)]; omega) h
theorem qWRX {n : Nat} {T' : Tm} {d : Nat} {e : Int} (k : QL X P N W S0 ops Q Kn (i + n) ((d, .v (.int .i64 (wr e))) :: T') L C) (h : runQ P N ops L n i T = some ((d, .v (.int .i64 (IntKind.wrap .i64 e))) :: T') := by kernel_rfl) : QT (.wrp n T' d e L) X P N W S0 ops Q Kn i T L C := runQ_ok n i h k
theorem qCV {f : FuncId} {S : Prop} [inst : HasC P f S] {vs : Array Value} {d : Nat} {v : Value} (k : QL X P N W S0 ops Q Kn (i + 1) ((d, .v v) :: T) L C) (hcon : S → ∀ w, At W S0 C w → Spec P w [] f vs (RV v))
    (hc : callOf P ops T i = some (f, vs, some d) := by kernel_rfl) (hd : ∀ k, some d = some k → k < N := by exact NO rfl) : QT (.call f vs (some d)) X P N W S0 ops Q Kn i T L C := QCALL f vs (some d) hc v (hcon inst.pf) hd k
theorem qIX {t : TypeId} {x ix : Operand} {d : Nat} {ty : TypeId} {a : Option Addr} {n cap : Nat} {kd : IntKind} {z : Int} {e sz : Nat} [TB P] (k : QL X P N W S0 ops Q Kn (i + 1) ((d, .e a (z.toNat * sz) 0) :: T) L C)
    (hx : evv T x = some (.slice a n cap) := by conv => lhs; whnf) (hix : evv T ix = some (.int kd z) := by conv => lhs; whnf) (ho : lkn (TB.D P).row t = some (e, sz) := by conv => lhs; whnf)
    (ha : a.isSome = true) (h0 : 0 ≤ z) (hn : z < n)
    (hoa : opAt ops T i = some (.indexAddr t x ix, some d, ty) := by kernel_rfl) (hd : d < N := by exact NL rfl) (hu : P.underlying t = some (.slice e) := by kernel_rfl) (hsz : (P.info? e).map (·.size) = some sz := by kernel_rfl) :
    QT (.op (.indexAddr t x ix) (some d) ty) X P N W S0 ops Q Kn i T L C := QINDEX t x ix d ty hoa hd a n cap kd z e sz hx hix hu hsz ha h0 hn k
theorem qIN {t : TypeId} {x ix : Operand} {d : Nat} {ty : TypeId} {a : Option Addr} {n cap : Nat} {kd : IntKind} {z e sz : Nat} [TB P] (k : QL X P N W S0 ops Q Kn (i + 1) ((d, .e a (z * sz) 0) :: T) L C)
    (hix : evv T ix = some (.int kd (z : Int)) := by conv => lhs; whnf) (hx : evv T x = some (.slice a n cap) := by conv => lhs; whnf) (ho : lkn (TB.D P).row t = some (e, sz) := by conv => lhs; whnf)
    (ha : a.isSome = true) (hn : z < n)
    (hoa : opAt ops T i = some (.indexAddr t x ix, some d, ty) := by kernel_rfl) (hd : d < N := by exact NL rfl) (hu : P.underlying t = some (.slice e) := by kernel_rfl) (hsz : (P.info? e).map (·.size) = some sz := by kernel_rfl) :
    QT (.op (.indexAddr t x ix) (some d) ty) X P N W S0 ops Q Kn i T L C := QINDEX t x ix d ty hoa hd a n cap kd z e sz hx hix hu hsz ha (by omega) (by omega) k
theorem qLE {t : TypeId} {x : Operand} {d : Nat} {ty : TypeId} {a : Option Addr} {j sz off : Nat} {cs : List Value} {v : Value} [TB P] (k : QL X P N W S0 ops Q Kn (i + 1) ((d, .v v) :: T) L C)
    (hx : evo T x = some (.e a (j * sz) off) := by conv => lhs; whnf) (he : ∀ w, At W S0 C w → ElemAt w a (j * sz) cs) (hv : ldB (TB.D P) t cs off some = some v := by conv => lhs; whnf)
    (ho : opAt ops T i = some (.load t x, some d, ty) := by kernel_rfl) (hd : d < N := by exact NL rfl) (hl : loadOf P t cs off = some v := by kernel_rfl) :
    QT (.op (.load t x) (some d) ty) X P N W S0 ops Q Kn i T L C := QLOADE t x d ty ho hd a (j * sz) off cs v hx he hl k
theorem qLN {t : TypeId} {x : Operand} {d : Nat} {ty : TypeId} {a : Option Addr} {j sz off : Nat} {α ι : Type} {La : Lay α} {enc : α → ι → List Value} {imp : World → α → ι → Prop → Prop} [op : OpR La ι enc imp] {xs : List α} {y : α} {v : ι → Value} [TB P]
    (k : ∀ q, imp W y q (QL X P N W [] ops Q Kn (i + 1) ((d, .v (v q)) :: T) L C))
    (hx : evo T x = some (.e a (j * sz) off) := by conv => lhs; whnf) (hr : Rd La W a xs) (hj : xs[j]? = some y) (hv : ∀ q, ldB (TB.D P) t (enc y q) off some = some (v q) := by intro q; conv => lhs; whnf)
    (hsz : La.sz = sz := by rfl) (ho : opAt ops T i = some (.load t x, some d, ty) := by kernel_rfl) (hd : d < N := by exact NL rfl) (hl : ∀ q, loadOf P t (enc y q) off = some (v q) := by intro q; kernel_rfl) :
    QT (.op (.load t x) (some d) ty) X P N W [] ops Q Kn i T L C := by
  subst hsz
  obtain ⟨q, h1, h2⟩ := op.ex hr hj
  exact QLOADE t x d ty ho hd a (j * La.sz) off _ (v q) hx (fun w hw j hj => ElemAt.fr h1 hw.fr j hj) (hl q) (h2 _ (k q))
theorem aLF {t : TypeId} {x : Operand} {d : Nat} {ty : TypeId} {a : Option Addr} {j sz off : Nat} {α : Type} {enc : α → List Value} {hh : ∀ x, (enc x).length = sz ∧ ∀ u ∈ enc x, isCell u = true} {xs : List α} {v : Value} [TB P]
    (hx : evo T x = some (.e a (j * sz) off) := by conv => lhs; whnf) (hr : Rd (flat sz enc hh) W a xs) (hj : j < xs.length) (hv : ldB (TB.D P) t (enc xs[j]) off some = some v := by conv => lhs; whnf) (k : OPL X P N W [] ops Q Kn (i + 1) ((d, .v v) :: T) L C)
    (hi : Nat.blt i ops.size = true := by rfl) (ho : opAt ops T i = some (.load t x, some d, ty) := by kernel_rfl) (hd : d < N := by exact NL rfl) (hl : loadOf P t (enc xs[j]) off = some v := by kernel_rfl) :
    AT (.op (.load t x) (some d) ty) X P N W [] ops Q Kn i T L C := aLE k hx (fun w hw => Rd.flat (Rd.fr hr hw.fr) (List.getElem?_eq_getElem hj)) hv hi ho hd hl
theorem qLF {t : TypeId} {x : Operand} {d : Nat} {ty : TypeId} {a : Option Addr} {j sz off : Nat} {α : Type} {enc : α → List Value} {hh : ∀ x, (enc x).length = sz ∧ ∀ u ∈ enc x, isCell u = true} {xs : List α} {v : Value} [TB P]
    (hx : evo T x = some (.e a (j * sz) off) := by conv => lhs; whnf) (hr : Rd (flat sz enc hh) W a xs) (hj : j < xs.length) (hv : ldB (TB.D P) t (enc xs[j]) off some = some v := by conv => lhs; whnf) (k : QL X P N W [] ops Q Kn (i + 1) ((d, .v v) :: T) L C)
    (ho : opAt ops T i = some (.load t x, some d, ty) := by kernel_rfl) (hd : d < N := by exact NL rfl) (hl : loadOf P t (enc xs[j]) off = some v := by kernel_rfl) :
    QT (.op (.load t x) (some d) ty) X P N W [] ops Q Kn i T L C := qLE k hx (fun w hw => Rd.flat (Rd.fr hr hw.fr) (List.getElem?_eq_getElem hj)) hv ho hd hl
theorem aLG {t : TypeId} {x : Operand} {d : Nat} {ty : TypeId} {a : Option Addr} {j sz off : Nat} {α ι : Type} {La : Lay α} {enc : α → ι → List Value} {imp : World → α → ι → Prop → Prop} {xs : List α} {y : α} {v : ι → Value} [TB P]
    (hx : evo T x = some (.e a (j * sz) off) := by conv => lhs; whnf) (hr : Rd La W a xs) (hj : j < xs.length) (hy : xs[j] = y := by rfl) (op : OpR La ι enc imp := by infer_instance) (hv : ∀ q, ldB (TB.D P) t (enc y q) off some = some (v q) := by intro q; conv => lhs; whnf) (k : ∀ q, imp W y q (OPL X P N W [] ops Q Kn (i + 1) ((d, .v (v q)) :: T) L C))
    (hsz : La.sz = sz := by rfl) (hi : Nat.blt i ops.size = true := by rfl) (ho : opAt ops T i = some (.load t x, some d, ty) := by kernel_rfl) (hd : d < N := by exact NL rfl) (hl : ∀ q, loadOf P t (enc y q) off = some (v q) := by intro q; kernel_rfl) :
    AT (.op (.load t x) (some d) ty) X P N W [] ops Q Kn i T L C := aLN k hx hr (by rw [← hy]; exact List.getElem?_eq_getElem hj) hv hsz hi ho hd hl
theorem qLG {t : TypeId} {x : Operand} {d : Nat} {ty : TypeId} {a : Option Addr} {j sz off : Nat} {α ι : Type} {La : Lay α} {enc : α → ι → List Value} {imp : World → α → ι → Prop → Prop} {xs : List α} {y : α} {v : ι → Value} [TB P]
    (hx : evo T x = some (.e a (j * sz) off) := by conv => lhs; whnf) (hr : Rd La W a xs) (hj : j < xs.length) (hy : xs[j] = y := by rfl) (op : OpR La ι enc imp := by infer_instance) (hv : ∀ q, ldB (TB.D P) t (enc y q) off some = some (v q) := by intro q; conv => lhs; whnf) (k : ∀ q, imp W y q (QL X P N W [] ops Q Kn (i + 1) ((d, .v (v q)) :: T) L C))
    (hsz : La.sz = sz := by rfl) (ho : opAt ops T i = some (.load t x, some d, ty) := by kernel_rfl) (hd : d < N := by exact NL rfl) (hl : ∀ q, loadOf P t (enc y q) off = some (v q) := by intro q; kernel_rfl) :
    QT (.op (.load t x) (some d) ty) X P N W [] ops Q Kn i T L C := qLN k hx hr (by rw [← hy]; exact List.getElem?_eq_getElem hj) hv hsz ho hd hl
/-- a step whose run is known -/
theorem aRV {op : Op} {d : Nat} {ty : TypeId} {v : Value} (hrun : Runs P W S0 T C op ty v) (k : OPL X P N W S0 ops Q Kn (i + 1) ((d, .v v) :: T) L C) (hi : Nat.blt i ops.size = true := by rfl) (ho : opAt ops T i = some (op, some d, ty) := by kernel_rfl) (hd : d < N := by exact NL rfl) :
    AT (.op op (some d) ty) X P N W S0 ops Q Kn i T L C := opsOne (lt_of_blt hi) (RUNV op d ty ho hd v hrun k)
theorem qRV {op : Op} {d : Nat} {ty : TypeId} {v : Value} (hrun : Runs P W S0 T C op ty v) (k : QL X P N W S0 ops Q Kn (i + 1) ((d, .v v) :: T) L C) (ho : opAt ops T i = some (op, some d, ty) := by kernel_rfl) (hd : d < N := by exact NL rfl) :
    QT (.op op (some d) ty) X P N W S0 ops Q Kn i T L C := QRUNV op d ty ho hd v hrun k
def stO {R : Type} : List Value → List Value → (Bool → Option R) → Option R
  | [], [], k => k true
  | .int _ a :: xs, .int _ b :: ys, k => stO xs ys (fun r => k (a == b && r))
  | _, _, _ => none
theorem rEQL {t t2 ty : TypeId} {x y : Operand} {xs ys : List Value} {r : Bool} (hx : evv T x = some (.agg xs.toArray) := by conv => lhs; whnf) (hy : evv T y = some (.agg ys.toArray) := by conv => lhs; whnf) (ho : stO xs ys some = some r := by conv => lhs; whnf) (h : steqOf P t xs ys = some r := by kernel_rfl) :
    Runs P W S0 T C (.binOp .eql t x y t2) ty (.bool r) := runs_eql hx hy h
theorem rNEQ {t t2 ty : TypeId} {x y : Operand} {xs ys : List Value} {r : Bool} (hx : evv T x = some (.agg xs.toArray) := by conv => lhs; whnf) (hy : evv T y = some (.agg ys.toArray) := by conv => lhs; whnf) (ho : stO xs ys some = some r := by conv => lhs; whnf) (h : steqOf P t xs ys = some r := by kernel_rfl) :
    Runs P W S0 T C (.binOp .neq t x y t2) ty (.bool (!r)) := runs_neq hx hy h
theorem rQUO {t t2 ty : TypeId} {x y : Operand} {k : IntKind} {a b : Int} (hx : evv T x = some (.int k a) := by conv => lhs; whnf) (hy : evv T y = some (.int k b) := by conv => lhs; whnf) (hb : b ≠ 0 := by omega) : Runs P W S0 T C (.binOp .quo t x y t2) ty (.int k (k.wrap (a.tdiv b))) := runs_quo hx hy hb
theorem rREM {t t2 ty : TypeId} {x y : Operand} {k : IntKind} {a b : Int} (hx : evv T x = some (.int k a) := by conv => lhs; whnf) (hy : evv T y = some (.int k b) := by conv => lhs; whnf) (hb : b ≠ 0 := by omega) : Runs P W S0 T C (.binOp .rem t x y t2) ty (.int k (a.tmod b)) := runs_rem hx hy hb
end rules
end SX
end Go.Proofs.YthnbaikmbgaddaaGreat
