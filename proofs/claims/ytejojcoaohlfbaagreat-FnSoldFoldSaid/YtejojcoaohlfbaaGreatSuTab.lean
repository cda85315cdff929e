/- Texts of this claim, put together by program. -/
import Derived.Test.YtejojcoaohlfbaaGreatSud
import Derived.Test.YtejojcoaohlfbaaGreatSxc
import Derived.Test.YtejojcoaohlfbaaGreatProg
/- Draws in the engine: the bytes of a draw are kept and owned by a cursor; results of which a property alone is told. It imports no program. -/
namespace Go.Proofs.YtejojcoaohlfbaaGreat
namespace SX
set_option linter.unusedVariables false
set_option linter.unusedSimpArgs false
open Go Go.RowKit
/-- where a draw's bytes lie, and how the memory was there -/
structure Kd where
  W : World
  f : List Nat
  v : Value
def Kd.ok (d : Kd) : Prop := ∃ (a : Option Addr) (c : Nat) (xs : List UInt8), d.v = .slice a xs.length c ∧ xs.length ≤ c ∧ SlR byteL d.W a xs d.f
theorem Kd.ok.lt {d : Kd} (h : d.ok) : ∀ b ∈ d.f, b < d.W.heap.size := let ⟨_, _, _, _, _, hs⟩ := h; hs.lt
def keepP (d : Kd) (w : World) : Prop := d.ok ∧ ∀ b ∈ d.f, w.heap[b]? = d.W.heap[b]?
theorem keepP.st {d : Kd} {w w' : World} (h : keepP d w) (hb : ∀ b ∈ d.f, w'.heap[b]? = w.heap[b]?) : keepP d w' := ⟨h.1, fun b hm => (hb b hm).trans (h.2 b hm)⟩
theorem keepP.lt {d : Kd} {w : World} (h : keepP d w) : ∀ b ∈ d.f, b < w.heap.size := by
  intro b hb
  have h1 := h.2 b hb
  rw [Array.getElem?_eq_getElem (h.1.lt b hb)] at h1
  exact (Array.getElem?_eq_some_iff.1 h1).1
theorem keepP.rd {d : Kd} {w : World} (h : keepP d w) {a : Option Addr} {c : Nat} {xs : List UInt8} (hs : SlR byteL d.W a xs d.f) : Rd byteL w a xs := ⟨d.f, hs.st h.2⟩
/-- the bytes are as they were -/
def keepA (d : Kd) : Ass := ⟨fun w fp => fp = d.f ∧ keepP d w, fun w w' fp h hb => ⟨h.1, h.2.st (by rw [← h.1]; exact hb)⟩, fun w fp h => by rw [h.1]; exact h.2.lt⟩
/-- a cursor over them -/
def curO (d : Kd) (t : TypeId) (p : Value) : Ass :=
  ⟨fun w fp => ∃ b i h, p = .pointer (some ⟨b, 0, none⟩) ∧ 0 ≤ i ∧ fp = b :: d.f ∧ w.heap[b]? = some (.cells #[d.v, vi i, vi h] t (0, 0)) ∧ keepP d w,
    fun w w' fp ⟨b, i, h, h1, h2, h3, h4, h5⟩ hb => ⟨b, i, h, h1, h2, h3, (hb b (by rw [h3]; simp)).trans h4, h5.st (fun x hx => hb x (by rw [h3]; simp [hx]))⟩,
    fun w fp ⟨b, i, h, h1, h2, h3, h4, h5⟩ x hx => by
      rw [h3] at hx
      rcases List.mem_cons.1 hx with rfl | hx
      · exact (Array.getElem?_eq_some_iff.1 h4).1
      · exact h5.lt x hx⟩
/-- whose bytes these are -/
def IsCur (p : Value) (d : Kd) : Prop := True
theorem isCur {p : Value} {d : Kd} : IsCur p d := trivial
def IsKd (v : Value) (d : Kd) : Prop := d.v = v
/-- a result of which a property is told -/
def RWk {α ι : Type} (P : α → Prop) (val : α → ι → Value) (own : α → ι → List Ass) (O : List Ass) : Res := ⟨{x : α // P x} × ι, fun q => val q.1.1 q.2, fun q => own q.1.1 q.2 ++ O⟩
/-- a result with one more value -/
def W2 {α β ι : Type} (valA : α → ι → Value) (valB : β → Value) : α × β → ι → Value := fun z q => .tuple #[valA z.1 q, valB z.2]
def W2o {α β ι : Type} (own : α → ι → List Ass) : α × β → ι → List Ass := fun z q => own z.1 q
abbrev RW2 {α β ι : Type} (P : α × β → Prop) (valA : α → ι → Value) (own : α → ι → List Ass) (valB : β → Value) (O : List Ass) : Res := RWk P (W2 valA valB) (W2o own) O
section rules
variable {X : List Nat} {P : Program} {N : Nat} {W : World} {S0 : List Nat} {Q : Exit → Go.Act → World → Prop} {T : Tm} {L : Bx} {C : List Ass} {ops : Array Oper} {Kn : List (Nat × Nat)} {i : Nat} {bs : List Nat} {L0 : Bx} {Ks : Keys} {T0 : Tm} {f : Nat} {Ls : List Nat} {la : Array Bool}
theorem gOC {K : Go.Act → World → Prop} {d : Kd} {t : TypeId} {p : Value} {j : Nat} {R : List Ass} (hp : pull j C = some (curO d t p, R))
    (k : ∀ b i h, p = .pointer (some ⟨b, 0, none⟩) → 0 ≤ i → G N W S0 K T L (R ++ [ptC b t [d.v, vi i, vi h], keepA d])) : G N W S0 K T L C := by
  rintro a w ⟨bs, fps, ht, hb, hm⟩
  obtain ⟨xps, hx, hnx, hex⟩ := hm.exch (js := [j]) (pre := [curO d t p]) (R := R) (by simp [pulls, hp])
  match xps, hx with
  | [fp], ⟨⟨b, i, h, h1, h2, h3, h4, h5⟩, _⟩ =>
    subst h3
    obtain ⟨fps', hmem⟩ := hex w [ptC b t [d.v, vi i, vi h], keepA d] [[b], d.f] ⟨⟨rfl, h4⟩, ⟨rfl, h5⟩, trivial⟩ (by simpa using hnx) (fun x hx _ => by simpa using hx) (Fr.refl _ _)
    exact k b i h h1 h2 a w ⟨bs, fps', ht, hb, hmem⟩
theorem gCC {K : Go.Act → World → Prop} {d : Kd} {t : TypeId} {b : Nat} {i h : Int} {j1 j2 : Nat} {R1 R : List Ass} (hp1 : pull j1 C = some (ptC b t [d.v, vi i, vi h], R1)) (hp2 : pull j2 R1 = some (keepA d, R)) (hi : 0 ≤ i)
    (k : G N W S0 K T L (R ++ [curO d t (.pointer (some ⟨b, 0, none⟩))])) : G N W S0 K T L C := by
  rintro a w ⟨bs, fps, ht, hb, hm⟩
  obtain ⟨xps, hx, hnx, hex⟩ := hm.exch (js := [j1, j2]) (pre := [ptC b t [d.v, vi i, vi h], keepA d]) (R := R) (by simp [pulls, hp1, hp2])
  match xps, hx with
  | [fp, gp], ⟨⟨h1, h2⟩, ⟨h3, h4⟩, _⟩ =>
    subst h1 h3
    obtain ⟨fps', hmem⟩ := hex w [curO d t (.pointer (some ⟨b, 0, none⟩))] [b :: d.f] ⟨⟨b, i, h, rfl, hi, rfl, h2, h4⟩, trivial⟩ (by simpa using hnx) (fun x hx _ => by simpa using hx) (Fr.refl _ _)
    exact k a w ⟨bs, fps', ht, hb, hmem⟩
/-- a cursor is given up -/
theorem gCK {K : Go.Act → World → Prop} {d : Kd} {t : TypeId} {p : Value} {j : Nat} {R : List Ass} (hp : pull j C = some (curO d t p, R)) (k : G N W S0 K T L (R ++ [keepA d])) : G N W S0 K T L C := by
  rintro a w ⟨bs, fps, ht, hb, hm⟩
  obtain ⟨xps, hx, hnx, hex⟩ := hm.exch (js := [j]) (pre := [curO d t p]) (R := R) (by simp [pulls, hp])
  match xps, hx with
  | [fp], ⟨⟨b, i, h, h1, h2, h3, h4, h5⟩, _⟩ =>
    subst h3
    obtain ⟨fps', hmem⟩ := hex w [keepA d] [d.f] ⟨⟨rfl, h5⟩, trivial⟩ (by
      have := hnx
      simp only [List.flatten_cons, List.flatten_nil, List.append_nil, List.nodup_cons] at this ⊢
      exact this.2) (fun x hx _ => by simp at hx; simp [hx]) (Fr.refl _ _)
    exact k a w ⟨bs, fps', ht, hb, hmem⟩
theorem cOC {c : Code} {d : Kd} {t : TypeId} {p : Value} {j : Nat} {R : List Ass} (hp : pull j C = some (curO d t p, R) := by exact PU) (k : ∀ b i h, p = .pointer (some ⟨b, 0, none⟩) → 0 ≤ i → CD X P N W S0 c Q T L (R ++ [ptC b t [d.v, vi i, vi h], keepA d])) : CD X P N W S0 c Q T L C := gOC (K := c.wp P Q) hp k
theorem cCC {c : Code} {d : Kd} {t : TypeId} {b : Nat} {i h : Int} {j1 j2 : Nat} {R1 R : List Ass} (hp1 : pull j1 C = some (ptC b t [d.v, vi i, vi h], R1) := by exact PU) (hp2 : pull j2 R1 = some (keepA d, R) := by exact PU) (hi : 0 ≤ i)
    (k : CD X P N W S0 c Q T L (R ++ [curO d t (.pointer (some ⟨b, 0, none⟩))])) : CD X P N W S0 c Q T L C := gCC (K := c.wp P Q) hp1 hp2 hi k
theorem cCK {c : Code} {d : Kd} {t : TypeId} {p : Value} {j : Nat} {R : List Ass} (hp : pull j C = some (curO d t p, R) := by exact PU) (k : CD X P N W S0 c Q T L (R ++ [keepA d])) : CD X P N W S0 c Q T L C := gCK (K := c.wp P Q) hp k
theorem cPV {c : Code} {d b : Nat} (hd : lk T d = some (.e (some ⟨b, 0, none⟩) 0 0)) (k : CD X P N W S0 c Q ((d, .v (.pointer (some ⟨b, 0, none⟩))) :: T) L C) : CD X P N W S0 c Q T L C := ASV (K := c.wp P Q) hd k
/-- what is known of the bytes -/
theorem gKV {K : Go.Act → World → Prop} {d : Kd} {j : Nat} (hC : C[j]? = some (keepA d)) (k : d.ok → G N W S0 K T L C) : G N W S0 K T L C := by
  rintro a w h
  obtain ⟨bs, fps, ht, hb, hm⟩ := h
  obtain ⟨fp, h1⟩ := hm.at_.own j hC
  exact k h1.2.1 a w ⟨bs, fps, ht, hb, hm⟩
theorem cKV {c : Code} {d : Kd} {j : Nat} (hC : C[j]? = some (keepA d) := by exact NT) (k : d.ok → CD X P N W S0 c Q T L C) : CD X P N W S0 c Q T L C := gKV (K := c.wp P Q) hC k
theorem keepA.rd {w : World} {d : Kd} {j : Nat} (hw : At W S0 C w) {a : Option Addr} {xs : List UInt8} (hs : SlR byteL d.W a xs d.f) (hC : C[j]? = some (keepA d) := by exact NT) : Rd byteL w a xs := by
  obtain ⟨fp, h1⟩ := hw.own j hC
  exact ⟨d.f, hs.st h1.2.2⟩
/-- calls of which a property is told -/
theorem aCW {fn : FuncId} {S : Prop} [inst : HasC P fn S] {vs : Array Value} {d : Nat} {pre R : List Ass} {js : List Nat} {α ι : Type} {Pp : α → Prop} {val : α → ι → Value} {own : α → ι → List Ass} {O : List Ass}
    (hcon : S → ∀ w, At W S0 C w → Spec P w pre fn vs (RWk Pp val own O)) (hp : pulls js C = some (pre, R)) (k : ∀ x, Pp x → ∀ q, OPL X P N W S0 ops Q Kn (i + 1) ((d, .v (val x q)) :: T) L (R ++ (own x q ++ O)))
    (hi : Nat.blt i ops.size = true := by rfl) (hc : callOf P ops T i = some (fn, vs, some d) := by kernel_rfl) (hd : ∀ k, some d = some k → k < N := by exact NO rfl) : AT (.call fn vs (some d)) X P N W S0 ops Q Kn i T L C :=
  opsOne (lt_of_blt hi) (CALL fn vs (some d) hc js pre R hp (RWk Pp val own O) (hcon inst.pf) hd fun x => k x.1.1 x.1.2 x.2)
theorem hCW {fn : FuncId} {S : Prop} [inst : HasC P fn S] {vs : Array Value} {d : Nat} {pre R : List Ass} {js : List Nat} {α ι : Type} {Pp : α → Prop} {val : α → ι → Value} {own : α → ι → List Ass} {O : List Ass}
    (hcon : S → ∀ w, At W S0 C w → Spec P w pre fn vs (RWk Pp val own O)) (hp : pulls js C = some (pre, R)) (k : ∀ x, Pp x → ∀ q, HL X P N W S0 ops Q bs L0 Ks T0 f (i :: Ls) (la.setIfInBounds i true) Kn ((d, .v (val x q)) :: T) L (R ++ (own x q ++ O))) (hC : KP (frz bs L0) Ks (i :: Ls) (la.setIfInBounds i true) R := by exact KP.mk)
    (hc : callOf P ops T i = some (fn, vs, some d) := by kernel_rfl) (hd : ∀ k, some d = some k → k < N := by exact NO rfl) : HO (.call fn vs (some d)) i X P N W S0 ops Q bs L0 Ks T0 f Ls la Kn T L C :=
  CALL fn vs (some d) hc js pre R hp (RWk Pp val own O) (hcon inst.pf) hd fun x => hKEEP hC.app (k x.1.1 x.1.2 x.2)
/-- a result of which a property is told is handed back -/
theorem rWK {v : Value} {α ι : Type} {Pp : α → Prop} {val : α → ι → Value} {own : α → ι → List Ass} {O R R2 : List Ass} {js : List Nat} {x : α} (hr : RP v ⟨ι, val x, own x⟩ C R) (hO : pulls js R = some (O, R2)) (hP : Pp x) : RETG v (RWk Pp val own O) C := by
  obtain ⟨q, ks, h1, h2⟩ := hr
  exact ⟨(⟨x, hP⟩, q), ks ++ js, h1, by rw [pulls_app h2 hO]; rfl⟩
theorem rWV {v : Value} {α : Type} {Pp : α → Prop} {val : α → Unit → Value} {O R2 : List Ass} {js : List Nat} {x : α} (hP : Pp x) (hO : pulls js C = some (O, R2)) (hv : v = val x () := by rfl) : RETG v (RWk Pp val (fun _ _ => []) O) C := ⟨(⟨x, hP⟩, ()), js, hv, by rw [hO]; rfl⟩
/-- bits -/
theorem rAND {t t2 ty : TypeId} {x y : Operand} {a b : Int} (hx : evv T x = some (.int .i64 a) := by conv => lhs; whnf) (hy : evv T y = some (.int .i64 b) := by conv => lhs; whnf) : Runs P W S0 T C (.binOp .and t x y t2) ty (vi (wr (((BitVec.ofInt 64 a &&& BitVec.ofInt 64 b).toNat : Nat) : Int))) := by
  intro ac o bs w hev hop _ _
  have h1 : ac.eval x = .int .i64 a := hev x _ (evo_of_evv hx)
  have h2 : ac.eval y = .int .i64 b := hev y _ (evo_of_evv hy)
  simp [execOp, hop, h1, h2, eqGuard, binOp, Op.intBits, Sem.run_bind, Sem.run_pure]
  rfl
theorem rXOR {t t2 ty : TypeId} {x y : Operand} {a b : Int} (hx : evv T x = some (.int .i64 a) := by conv => lhs; whnf) (hy : evv T y = some (.int .i64 b) := by conv => lhs; whnf) : Runs P W S0 T C (.binOp .xor t x y t2) ty (vi (wr (((BitVec.ofInt 64 a ^^^ BitVec.ofInt 64 b).toNat : Nat) : Int))) := by
  intro ac o bs w hev hop _ _
  have h1 : ac.eval x = .int .i64 a := hev x _ (evo_of_evv hx)
  have h2 : ac.eval y = .int .i64 b := hev y _ (evo_of_evv hy)
  simp [execOp, hop, h1, h2, eqGuard, binOp, Op.intBits, Sem.run_bind, Sem.run_pure]
  rfl
theorem rSHR {t t2 ty : TypeId} {x y : Operand} {kd : IntKind} {a b : Int} (hx : evv T x = some (.int .i64 a) := by conv => lhs; whnf) (hy : evv T y = some (.int kd b) := by conv => lhs; whnf) (h0 : 0 ≤ b := by decide) (h1 : b < 64 := by decide) : Runs P W S0 T C (.binOp .shr t x y t2) ty (vi (a / 2 ^ b.toNat)) := by
  intro ac o bs w hev hop _ _
  have h1 : ac.eval x = .int .i64 a := hev x _ (evo_of_evv hx)
  have h2 : ac.eval y = .int kd b := hev y _ (evo_of_evv hy)
  simp [execOp, hop, h1, h2, eqGuard, binOp, Op.shift, Sem.run_bind, Sem.run_pure]
/-- a byte out of what is kept -/
theorem aIK {t : TypeId} {x ix : Operand} {dd : Nat} {ty : TypeId} {a : Option Addr} {c z : Nat} {kd : IntKind} {xs : List UInt8} {d : Kd} {e sz j n : Nat} [TB P]
    (hix : evv T ix = some (.int kd (z : Int)) := by conv => lhs; whnf) (hx : evv T x = some (.slice a n c) := by conv => lhs; whnf) (ho : lkn (TB.D P).row t = some (e, sz) := by conv => lhs; whnf) (hs : SlR byteL d.W a xs d.f) (hC : C[j]? = some (keepA d) := by exact NT) (hn : n = xs.length := by rfl) (hz : z < xs.length)
    (k : OPL X P N W S0 ops Q Kn (i + 1) ((dd, .e a (z * sz) 0) :: T) L C) (hi : Nat.blt i ops.size = true := by rfl) (hoa : opAt ops T i = some (.indexAddr t x ix, some dd, ty) := by kernel_rfl) (hd : dd < N := by exact NL rfl) (hu : P.underlying t = some (.slice e) := by kernel_rfl) (hsz : (P.info? e).map (·.size) = some sz := by kernel_rfl) :
    AT (.op (.indexAddr t x ix) (some dd) ty) X P N W S0 ops Q Kn i T L C := by
  subst hn
  exact aIN k hix hx ho (fun w hw => Rd.some (keepA.rd hw hs hC) (by omega)) hz hi hoa hd hu hsz
theorem aIKz {t : TypeId} {x ix : Operand} {dd : Nat} {ty : TypeId} {a : Option Addr} {c : Nat} {z : Int} {kd : IntKind} {xs : List UInt8} {d : Kd} {e sz j n : Nat} [TB P]
    (hix : evv T ix = some (.int kd z) := by conv => lhs; whnf) (hx : evv T x = some (.slice a n c) := by conv => lhs; whnf) (ho : lkn (TB.D P).row t = some (e, sz) := by conv => lhs; whnf) (hs : SlR byteL d.W a xs d.f) (hC : C[j]? = some (keepA d) := by exact NT) (hn : n = xs.length := by rfl) (h0 : 0 ≤ z) (hz : z < xs.length)
    (k : OPL X P N W S0 ops Q Kn (i + 1) ((dd, .e a (z.toNat * sz) 0) :: T) L C) (hi : Nat.blt i ops.size = true := by rfl) (hoa : opAt ops T i = some (.indexAddr t x ix, some dd, ty) := by kernel_rfl) (hd : dd < N := by exact NL rfl) (hu : P.underlying t = some (.slice e) := by kernel_rfl) (hsz : (P.info? e).map (·.size) = some sz := by kernel_rfl) :
    AT (.op (.indexAddr t x ix) (some dd) ty) X P N W S0 ops Q Kn i T L C := by
  subst hn
  exact aIX k hx hix ho (fun w hw => Rd.some (keepA.rd hw hs hC) (by omega)) h0 hz hi hoa hd hu hsz
theorem aLK {t : TypeId} {x : Operand} {dd : Nat} {ty : TypeId} {a : Option Addr} {z : Nat} {xs : List UInt8} {d : Kd} {j : Nat} [TB P]
    (hx : evo T x = some (.e a (z * 1) 0) := by conv => lhs; whnf) (hs : SlR byteL d.W a xs d.f) (hC : C[j]? = some (keepA d) := by exact NT) (hz : z < xs.length) (k : OPL X P N W S0 ops Q Kn (i + 1) ((dd, .v (.int .u8 (xs[z].toNat : Int))) :: T) L C)
    (hi : Nat.blt i ops.size = true := by rfl) (ho : opAt ops T i = some (.load t x, some dd, ty) := by kernel_rfl) (hd : dd < N := by exact NL rfl) (hl : loadOf P t [.int .u8 (xs[z].toNat : Int)] 0 = some (.int .u8 (xs[z].toNat : Int)) := by kernel_rfl) :
    AT (.op (.load t x) (some dd) ty) X P N W S0 ops Q Kn i T L C :=
  opsOne (lt_of_blt hi) (LOADE t x dd ty ho hd a (z * 1) 0 [.int .u8 (xs[z].toNat : Int)] _ hx (fun w hw => Rd.flat (keepA.rd hw hs hC) (List.getElem?_eq_getElem hz)) hl k)
theorem qLK {t : TypeId} {x : Operand} {dd : Nat} {ty : TypeId} {a : Option Addr} {z : Nat} {xs : List UInt8} {d : Kd} {j : Nat} [TB P]
    (hx : evo T x = some (.e a (z * 1) 0) := by conv => lhs; whnf) (hs : SlR byteL d.W a xs d.f) (hC : C[j]? = some (keepA d) := by exact NT) (hz : z < xs.length) (k : QL X P N W S0 ops Q Kn (i + 1) ((dd, .v (.int .u8 (xs[z].toNat : Int))) :: T) L C)
    (ho : opAt ops T i = some (.load t x, some dd, ty) := by kernel_rfl) (hd : dd < N := by exact NL rfl) (hl : loadOf P t [.int .u8 (xs[z].toNat : Int)] 0 = some (.int .u8 (xs[z].toNat : Int)) := by kernel_rfl) :
    QT (.op (.load t x) (some dd) ty) X P N W S0 ops Q Kn i T L C :=
  QLOADE t x dd ty ho hd a (z * 1) 0 [.int .u8 (xs[z].toNat : Int)] _ hx (fun w hw => Rd.flat (keepA.rd hw hs hC) (List.getElem?_eq_getElem hz)) hl k
theorem rWN {v : Value} {α ι : Type} {Pp : α → Prop} {val : α → ι → Value} {own : α → ι → List Ass} {O R2 : List Ass} {js : List Nat} (x : α) (q : ι) (hP : Pp x) (hp : pulls js C = some (own x q ++ O, R2)) (hv : v = val x q := by rfl) : RETG v (RWk Pp val own O) C := ⟨(⟨x, hP⟩, q), js, hv, by rw [hp]; rfl⟩
theorem RPW {v : Value} {r : Res} {R : List Ass} (h : RP v r C R := by
    first
    | exact ⟨(), [], rfl, pl0⟩
    | exact pOWN (h := rfl)
    | exact pHO (h := rfl)
    | exact pWh (h := rfl)
    | exact pRu (h := rfl)
    | exact pCa (h := rfl)) : RP v r C R := h
theorem rW2 {v1 v2 : Value} {α β ι : Type} {Pp : α × β → Prop} {valA : α → ι → Value} {own : α → ι → List Ass} {valB : β → Value} {O R R2 : List Ass} {js : List Nat} {x : α} {y : β} (hr : RP v1 ⟨ι, valA x, own x⟩ C R) (hO : pulls js R = some (O, R2)) (hP : Pp (x, y)) (hv : v2 = valB y := by rfl) :
    RETG (.tuple ⟨[v1, v2]⟩) (RWk Pp (W2 valA valB) (W2o own) O) C := by
  obtain ⟨q, ks, h1, h2⟩ := hr
  subst hv
  exact ⟨(⟨(x, y), hP⟩, q), ks ++ js, by rw [show v1 = valA x q from h1]; rfl, by rw [pulls_app h2 hO]; rfl⟩
theorem idRW {v : Value} {α ι : Type} {Pp : α → Prop} {val : α → ι → Value} {own : α → ι → List Ass} {O : List Ass} (k : RETG v (RWk Pp val own O) C) : RETG v (RWk Pp val own O) C := k
theorem goT {t : TypeId} {x : Operand} {a b c : Option Operand} {d : Option Nat} {ty : TypeId} (k : HO (.op (.slice t x a b c) d ty) i X P N W S0 ops Q bs L0 Ks T0 f Ls la Kn T L C) : HO (.op (.slice t x a b c) d ty) i X P N W S0 ops Q bs L0 Ks T0 f Ls la Kn T L C := k
theorem own_cap {w : World} {e : TypeId} {α : Type} {La : Lay α} {a : Option Addr} {n cap j : Nat} {xs : List α} {R : List Ass} (hw : At W S0 C w) (hp : pull j C = some (slA e La (.slice a n cap) xs, R)) : n ≤ cap := by
  obtain ⟨fps, hh, _⟩ := hw.ch
  obtain ⟨fp, gps, ha, _⟩ := holds.pull j hh hp
  have h1 := SlO.capE ⟨fp, ha⟩
  have h2 := (SlO.lenE ⟨fp, ha⟩).1
  omega
/-- an owned row, cut behind its first elements -/
theorem hCHO [TB P] {t : TypeId} {x hi : Operand} {d : Nat} {ty : TypeId} {kl : IntKind} {z : Int} {n cap j : Nat} {a : Option Addr} {e : TypeId} {α : Type} {La : Lay α} {xs : List α} {R : List Ass}
    (hl : evv T hi = some (.int kl z) := by conv => lhs; whnf) (hx : evv T x = some (.slice a n cap) := by conv => lhs; whnf) (hp : pull j C = some (slA e La (.slice a n cap) xs, R) := by exact PU) (h0 : 0 ≤ z) (hz : z ≤ n) (hn : n = xs.length := by rfl)
    (k : HL X P N W S0 ops Q bs L0 Ks T0 f (i :: Ls) (la.setIfInBounds i true) Kn ((d, .v (.slice a z.toNat cap)) :: T) L (R ++ [slA e La (.slice a z.toNat cap) (xs.take z.toNat)])) (hR : KP (frz bs L0) Ks (i :: Ls) (la.setIfInBounds i true) R := by exact KP.mk)
    (ho : opAt ops T i = some (.slice t x none (some hi) none, some d, ty) := by kernel_rfl) (hd : d < N := by exact NL rfl) (hu : P.underlying t = some (.slice e) := by kernel_rfl) (hs : (P.info? e).map (·.size) = some La.sz := by kernel_rfl) :
    HO (.op (.slice t x none (some hi) none) (some d) ty) i X P N W S0 ops Q bs L0 Ks T0 f Ls la Kn T L C :=
  FACT _ (fun w hw => own_cap hw hp) fun hcap => CUTO t x hi d ty ho hd a n cap kl z hx hl e La xs hu hs h0 hz hn hcap j R (by simp [pulls, hp]) (hKEEP hR.app k)
theorem aCHO [TB P] {t : TypeId} {x hi : Operand} {d : Nat} {ty : TypeId} {kl : IntKind} {z : Int} {n cap j : Nat} {a : Option Addr} {e : TypeId} {α : Type} {La : Lay α} {xs : List α} {R : List Ass}
    (hl : evv T hi = some (.int kl z) := by conv => lhs; whnf) (hx : evv T x = some (.slice a n cap) := by conv => lhs; whnf) (hp : pull j C = some (slA e La (.slice a n cap) xs, R) := by exact PU) (h0 : 0 ≤ z) (hz : z ≤ n) (hn : n = xs.length := by rfl)
    (k : OPL X P N W S0 ops Q Kn (i + 1) ((d, .v (.slice a z.toNat cap)) :: T) L (R ++ [slA e La (.slice a z.toNat cap) (xs.take z.toNat)])) (hi9 : Nat.blt i ops.size = true := by rfl)
    (ho : opAt ops T i = some (.slice t x none (some hi) none, some d, ty) := by kernel_rfl) (hd : d < N := by exact NL rfl) (hu : P.underlying t = some (.slice e) := by kernel_rfl) (hs : (P.info? e).map (·.size) = some La.sz := by kernel_rfl) :
    AT (.op (.slice t x none (some hi) none) (some d) ty) X P N W S0 ops Q Kn i T L C :=
  opsOne (lt_of_blt hi9) (FACT _ (fun w hw => own_cap hw hp) fun hcap => CUTO t x hi d ty ho hd a n cap kl z hx hl e La xs hu hs h0 hz hn hcap j R (by simp [pulls, hp]) k)
theorem STD {A B : Prop} (k : B) (h : B → A := by
    intro k
    first
    | (refine idAT ?_
       first
       | (refine aCa ?_; exact aCW (hcon := by intro c w hw; first | (apply c <;> exact SIDE) | fail) (hp := by first | exact plS PU pl0 | exact plS PU (plS PU pl0) | exact pl0 | exact plS PU (plS PU (plS PU (plS PU (plS PU (plS PU pl0)))))) (k := k))
       | (refine aBi ?_
          first
          | exact aRV rAND k
          | exact aRV rXOR k
          | exact aRV rSHR k))
    | (refine idHO ?_; refine goT ?_; exact hCHO (h0 := by omega) (hz := by omega) (k := k))
    | (refine idAT ?_; refine gtC ?_; exact aCHO (h0 := by omega) (hz := by omega) (k := k))
    | (refine idQT ?_; refine qBi ?_
       first
       | exact qRV rAND k
       | exact qRV rXOR k
       | exact qRV rSHR k)
    | (refine idHO ?_; refine goC ?_; exact hCW (hcon := by intro c w hw; first | (apply c <;> exact SIDE) | fail) (hp := by first | exact plS PU pl0 | exact plS PU (plS PU pl0) | exact pl0 | exact plS PU (plS PU (plS PU (plS PU (plS PU (plS PU pl0)))))) (k := k))
    | (refine idRW ?_
       first
       | exact rWV (hP := k) (hO := by first | exact plS PU pl0 | exact plS PU (plS PU pl0) | exact pl0 | exact plS PU (plS PU (plS PU (plS PU (plS PU (plS PU pl0))))))
       | exact rWK (hr := RPW) (hP := k) (hO := by first | exact plS PU pl0 | exact plS PU (plS PU pl0) | exact pl0 | exact plS PU (plS PU (plS PU (plS PU (plS PU (plS PU pl0))))))
       | exact rW2 (hr := RPW) (hP := k) (hO := by first | exact pl0 | exact plS PU pl0 | exact plS PU (plS PU pl0) | exact plS PU (plS PU (plS PU (plS PU (plS PU (plS PU pl0)))))))) : A := h k
end rules
theorem cellsRep_fl {α : Type} {sz : Nat} {enc : α → List Value} {h : ∀ x, (enc x).length = sz ∧ ∀ u ∈ enc x, isCell u = true} {m : Bool} {w : World} : ∀ {xs : List α} {cells : List Value} {f : List Nat}, cellsRep (flat sz enc h) m w cells xs f → f = []
  | [], _, _, hc => hc.2
  | x :: xs, _, _, ⟨_, _, f1, f2, _, h2, h3, h4⟩ => by
    have e1 : f1 = [] := h3.2
    rw [h2, e1, cellsRep_fl h4]; rfl
theorem keep_nd {W : World} {a : Option Addr} {xs : List UInt8} {f : List Nat} (h : SlR byteL W a xs f) : f.Nodup := by
  rcases h.2 with ⟨_, rfl⟩ | ⟨b, o, g, cells, _, _, rfl, hc, _⟩
  · exact List.nodup_nil
  · rw [cellsRep_fl hc]; simp
/-- a law that is shown with its bytes kept -/
theorem lawK {P : Program} {W : World} {f : FuncId} {code : List UInt8} {a : Option Addr} {c : Nat} (h : ∀ (d : Kd) (v : Value), IsKd v d → Spec P W [keepA d] f #[v] ⟨Unit, fun _ => .bool true, fun _ => [keepA d]⟩) (hr : Rd byteL W a code) (hc : code.length ≤ c) :
    Calls P f #[.slice a code.length c] W fun e w' => e = .returned (.bool true) ∧ Below W.heap.size W w' := by
  obtain ⟨fp, hs⟩ := hr
  have hk : (keepA ⟨W, fp, .slice a code.length c⟩).φ W fp := ⟨rfl, ⟨a, c, code, rfl, hc, hs⟩, fun b _ => rfl⟩
  refine (h ⟨W, fp, .slice a code.length c⟩ _ rfl [fp] ⟨hk, trivial⟩ (by simpa using keep_nd hs)).mono ?_
  rintro e w' ⟨x, nps, rfl, hown, _, _, hfr⟩
  refine ⟨rfl, Fr.below ⟨hfr.os, hfr.tape, hfr.output, hfr.size, fun b hb _ => ?_⟩⟩
  by_cases hm : b ∈ fp
  · match nps, hown with
    | [gp], ⟨h1, _⟩ => exact h1.2.2 b hm
  · exact hfr.block b hb (by simpa using hm)
end SX
end Go.Proofs.YtejojcoaohlfbaaGreat
/- What the engine is told of the program: types, slots that live on. Printed by program. -/
namespace Go.Proofs.YtejojcoaohlfbaaGreat
namespace SX
open Go Go.RowKit
instance : TB Tryz.prog := ⟨{ fld := [(24, [(0, none), (1, none), (2, none), (3, none), (4, none), (5, none), (6, none), (7, none), (8, none)]), (28, [(0, some 9), (9, none), (10, none), (11, none), (12, none), (13, none), (14, none)]), (34, [(0, none), (1, none), (2, none), (3, none), (4, none), (5, none), (6, none), (7, none), (8, none)]), (38, [(0, some 9), (9, none), (10, none), (11, none), (12, none), (13, none), (14, none)]), (64, [(0, none), (1, none), (2, none), (3, none), (4, none)]), (68, [(0, none)]), (70, [(0, some 5), (5, none), (6, some 1)]), (80, [(0, none), (1, none)]), (84, [(0, none), (1, none), (2, none), (3, none), (4, none), (5, none)]), (89, [(0, none), (1, none), (2, none), (3, none), (4, none)]), (91, [(0, none), (1, none), (2, none), (3, none), (4, none), (5, none), (6, none), (7, none), (8, none), (9, none)]), (117, [(0, none), (1, none), (2, none), (3, none), (4, none), (5, none)]), (159, [(0, none), (1, none), (2, none), (3, none)]), (166, [(0, none), (1, none)]), (170, [(0, none), (1, none), (2, none), (3, none), (4, none)]), (174, [(0, none)]), (176, [(0, some 5), (5, none), (6, some 1)]), (180, [(0, none), (1, none), (2, none), (3, none), (4, none), (5, none), (6, none), (7, none), (8, none), (9, none)]), (191, [(0, none), (1, none), (2, none)]), (271, [(0, none), (1, none), (2, none), (3, none)]), (301, [(0, none), (1, none)])], agg := [(24, 9), (28, 15), (34, 9), (38, 15), (64, 5), (68, 1), (70, 7), (80, 2), (84, 6), (89, 5), (91, 10), (117, 6), (159, 4), (166, 2), (170, 5), (174, 1), (176, 7), (180, 10), (191, 3), (271, 4), (301, 2)], zero := [(3, [.int .i64 0]), (5, [.int .u8 0]), (22, [.slice none 0 0]), (24, [.slice none 0 0, .int .i64 0, .int .i64 0, .int .i64 0, .int .i64 0, .int .i64 0, .int .i64 0, .int .i64 0, .int .i64 0]), (25, [.slice none 0 0]), (26, [.slice none 0 0]), (28, [.slice none 0 0, .int .i64 0, .int .i64 0, .int .i64 0, .int .i64 0, .int .i64 0, .int .i64 0, .int .i64 0, .int .i64 0, .int .i64 0, .int .i64 0, .slice none 0 0, .slice none 0 0, .slice none 0 0, .slice none 0 0]), (34, [.slice none 0 0, .int .i64 0, .int .i64 0, .int .i64 0, .int .i64 0, .int .i64 0, .int .i64 0, .int .i64 0, .int .i64 0]), (35, [.slice none 0 0]), (36, [.slice none 0 0]), (38, [.slice none 0 0, .int .i64 0, .int .i64 0, .int .i64 0, .int .i64 0, .int .i64 0, .int .i64 0, .int .i64 0, .int .i64 0, .int .i64 0, .int .i64 0, .slice none 0 0, .slice none 0 0, .slice none 0 0, .slice none 0 0]), (55, [.slice none 0 0]), (64, [.int .i64 0, .int .i64 0, .int .i64 0, .int .i64 0, .int .i64 0]), (65, [.slice none 0 0]), (66, [.slice none 0 0]), (68, [.slice none 0 0]), (70, [.int .i64 0, .int .i64 0, .int .i64 0, .int .i64 0, .int .i64 0, .slice none 0 0, .slice none 0 0]), (80, [.int .i64 0, .slice none 0 0]), (84, [.int .i64 0, .int .i64 0, .int .i64 0, .int .i64 0, .int .i64 0, .int .i64 0]), (89, [.int .i64 0, .int .i64 0, .int .i64 0, .int .i64 0, .int .i64 0]), (91, [.int .i64 0, .int .i64 0, .int .i64 0, .int .i64 0, .int .i64 0, .int .i64 0, .int .i64 0, .int .i64 0, .int .i64 0, .int .i64 0]), (117, [.int .i64 0, .int .i64 0, .int .i64 0, .int .i64 0, .int .i64 0, .int .i64 0]), (159, [.int .i64 0, .int .i64 0, .int .i64 0, .int .i64 0]), (166, [.int .i64 0, .int .i64 0]), (170, [.int .i64 0, .int .i64 0, .int .i64 0, .int .i64 0, .int .i64 0]), (171, [.slice none 0 0]), (172, [.slice none 0 0]), (174, [.slice none 0 0]), (176, [.int .i64 0, .int .i64 0, .int .i64 0, .int .i64 0, .int .i64 0, .slice none 0 0, .slice none 0 0]), (180, [.int .i64 0, .int .i64 0, .int .i64 0, .int .i64 0, .int .i64 0, .int .i64 0, .int .i64 0, .int .i64 0, .int .i64 0, .int .i64 0]), (191, [.slice none 0 0, .int .i64 0, .int .i64 0]), (199, [.slice none 0 0]), (271, [.int .i64 0, .int .i64 0, .int .i64 0, .int .i64 0]), (283, [.int .u64 0]), (292, [.slice none 0 0]), (301, [.int .i64 0, .int .i64 0])], row := [(22, 3, 1), (25, 180, 10), (26, 176, 7), (29, 117, 6), (35, 91, 10), (36, 70, 7), (40, 84, 6), (51, 89, 5), (55, 5, 1), (60, 80, 2), (65, 159, 4), (66, 199, 1), (171, 271, 4), (172, 292, 1), (199, 166, 2), (292, 301, 2)], ik := [(3, .i64), (5, .u8), (215, .u64), (264, .u32), (283, .u64)], nm := [(64, fun l => match l with | [.int _ x0, .int _ x1, .int _ x2, .int _ x3, .int _ x4] => some (ledgerE ⟨x0, x1, x2, x3, x4⟩) | _ => none), (84, fun l => match l with | [.int _ x0, .int _ x1, .int _ x2, .int _ x3, .int _ x4, .int _ x5] => some (reqE ⟨x0, x1, x2, x3, x4, x5⟩) | _ => none), (89, fun l => match l with | [.int _ x0, .int _ x1, .int _ x2, .int _ x3, .int _ x4] => some (lookE ⟨x0, x1, x2, x3, x4⟩) | _ => none), (91, fun l => match l with | [.int _ x0, .int _ x1, .int _ x2, .int _ x3, .int _ x4, .int _ x5, .int _ x6, .int _ x7, .int _ x8, .int _ x9] => some (partyE ⟨x0, x1, x2, x3, x4, x5, x6, x7, x8, x9⟩) | _ => none), (117, fun l => match l with | [.int _ x0, .int _ x1, .int _ x2, .int _ x3, .int _ x4, .int _ x5] => some (reqE ⟨x0, x1, x2, x3, x4, x5⟩) | _ => none), (159, fun l => match l with | [.int _ x0, .int _ x1, .int _ x2, .int _ x3] => some (entryE ⟨x0, x1, x2, x3⟩) | _ => none), (166, fun l => match l with | [.int _ x0, .int _ x1] => some (pinE ⟨x0, x1⟩) | _ => none), (170, fun l => match l with | [.int _ x0, .int _ x1, .int _ x2, .int _ x3, .int _ x4] => some (ledgerE ⟨x0, x1, x2, x3, x4⟩) | _ => none), (180, fun l => match l with | [.int _ x0, .int _ x1, .int _ x2, .int _ x3, .int _ x4, .int _ x5, .int _ x6, .int _ x7, .int _ x8, .int _ x9] => some (partyE ⟨x0, x1, x2, x3, x4, x5, x6, x7, x8, x9⟩) | _ => none), (271, fun l => match l with | [.int _ x0, .int _ x1, .int _ x2, .int _ x3] => some (entryE ⟨x0, x1, x2, x3⟩) | _ => none), (301, fun l => match l with | [.int _ x0, .int _ x1] => some (pinE ⟨x0, x1⟩) | _ => none)], loud := [1, 15, 16, 17, 18, 19, 22, 23, 24, 25, 26, 27, 28, 29, 30, 31, 33, 34, 35, 36, 37, 38, 39, 40, 41, 42, 43, 44, 45, 46, 47, 48, 49, 50, 51, 52, 53, 54, 55, 56, 57, 58, 59, 60, 61, 62, 65, 66, 67, 68, 69, 70, 71, 72, 73, 74, 75, 76, 77, 78, 79, 80, 81, 82, 85, 86, 87, 92, 93, 94, 95, 96, 97, 98, 99, 100, 101, 102, 103, 104, 105, 106, 107, 108, 109, 110, 111, 112, 113, 114, 115, 116, 118, 119, 120, 121, 122, 123, 124, 125, 126, 127, 128, 129, 130, 131, 132, 133, 134, 135, 136, 137, 138, 139, 140, 141, 142, 143, 144, 145, 146, 147, 148, 149, 150, 151, 152, 153, 154, 156, 157, 160, 161, 162, 163, 164, 167, 168, 169, 171, 172, 173, 174, 175, 176, 177, 178, 179, 181, 182, 183, 184, 185, 186, 187, 188, 189, 190, 191, 192, 193, 194, 195, 196, 197, 198, 199, 200, 201, 202, 203, 205, 207, 208, 209, 210, 211, 212, 213, 214, 216, 217, 218, 219, 220, 221, 222, 223, 224, 225, 227, 228, 229, 230, 231, 232, 233, 234, 235, 236, 237, 238, 239, 240, 241, 242, 243, 244, 245, 246, 247, 248, 249, 250, 251, 252, 253, 254, 255, 256, 259, 260, 261, 262, 263, 265, 267, 268, 269, 270, 272, 273, 274, 275, 276, 277, 278, 279, 280, 281, 282, 284, 285, 286, 287, 288, 289, 290, 291, 292, 293, 294, 295, 296, 297, 299, 300, 302, 303, 304, 305, 306, 307, 308, 309, 310, 311, 312, 313, 314, 315, 319, 322, 323, 326, 327], live := [(3, [0, 1, 2, 3, 6, 7, 8, 9, 10, 11, 12, 13, 18, 23, 51, 56, 61]),
  (4, [0, 1, 2, 4, 5, 6, 7, 8, 9, 10, 11, 12, 13, 18, 23, 39, 44, 49, 63, 71, 74, 83, 88, 91]),
  (5, [0, 1, 2, 4, 5, 6, 7, 8, 9, 10, 11, 12, 13, 18, 23, 39, 44, 49, 63, 71, 74, 83, 88, 91]),
  (6, [0, 2, 3, 4, 5, 6, 8, 9, 11, 22, 38, 66]),
  (7, [0, 2, 3, 4, 5, 6, 7, 8, 9, 11, 39, 42]),
  (8, [0, 2, 3, 4, 5, 6, 7, 8, 9, 10, 11, 13, 32, 52, 69, 97]),
  (9, [0, 2, 3, 4, 5, 6, 7, 8, 9, 10, 11, 12, 13, 14, 15, 17, 33, 48, 80, 103, 111, 173, 178, 236]),
  (10, [0, 2, 3, 4, 5, 6, 8, 9, 10, 11, 13, 27, 35, 74, 95, 100, 137]),
  (11, [0, 2, 3, 4, 5, 6, 7, 8, 9, 10, 11, 12, 13, 14, 16, 27, 75, 86, 103, 115, 131, 157, 165, 191, 202, 206, 213]),
  (12, [0, 1, 2, 4, 10, 16, 22, 28, 34]),
  (13, [0, 1, 4, 10]),
  (14, [0, 1, 2, 3, 6, 7, 8, 9, 10, 11, 12, 13, 21, 28, 41, 90]),
  (15, [0, 1, 2, 3]),
  (16, [0, 2, 3, 4, 11]),
  (17, [0, 1, 2, 3, 6, 7, 8, 9, 11, 12, 13, 14, 15, 16, 19, 22, 23, 24, 25, 32, 81, 83]),
  (18, [0, 1, 2, 3, 4, 10, 15, 20, 26, 32, 38, 44]),
  (19, [0, 1, 4, 5, 10, 14, 26]),
  (20, [0, 1, 2, 4, 5, 6, 7, 8, 13, 38]),
  (21, [0, 1, 2, 4, 5, 6, 7, 8, 9, 10, 13, 14, 15, 16, 39]),
  (22, [0, 1, 4, 5, 10, 14, 25]),
  (23, [0, 1, 2, 4]),
  (24, [0, 1, 4, 5, 9]),
  (25, [0, 1, 4, 5, 9]),
  (26, [0, 1, 4, 5, 9, 17]),
  (27, [0, 1, 2, 4, 5, 6, 7, 8, 9, 10, 11, 16, 31, 54]),
  (28, [0, 1, 2, 4, 5, 6, 7, 8, 9, 10, 11, 12, 14, 17, 18, 19, 20, 33, 44, 45, 46, 47]),
  (29, [0, 1, 4, 5, 10, 14, 26]),
  (30, [0, 1, 4, 5, 9]),
  (31, [0, 1, 4, 5, 9, 18, 27, 36, 45, 54]),
  (32, [0, 2]),
  (33, [0, 2, 3, 4, 5, 11]),
  (34, [0, 1, 2, 3, 35, 43, 48, 90]),
  (35, [0, 1, 2, 4, 5, 6, 7, 9, 10, 11, 14, 15, 16, 17]),
  (36, [0, 1, 2]),
  (37, [0, 2, 3, 4, 5, 6, 7, 8, 28]),
  (38, [0, 2]),
  (39, [0, 1, 2, 3, 4, 5, 6, 8, 11, 20, 41]),
  (40, [0, 1, 2, 6, 7, 8, 9, 10, 11, 12, 13, 31]),
  (41, [0, 1, 4, 5, 7, 9, 10, 11, 12, 13, 17, 18, 19, 20, 25]),
  (42, [0, 1, 2, 4, 5, 6, 7, 8, 9, 10, 17]),
  (43, [0, 1, 2, 5, 6]),
  (44, [0, 1, 2, 5, 6]),
  (45, [0, 1, 2, 3, 4, 5, 6, 7, 8, 13, 19, 30, 48, 58, 70, 80, 90]),
  (46, [0, 1, 2, 3, 4, 7, 11, 14, 16, 17, 22, 28, 29, 36, 40, 47, 48, 55, 59, 60, 67, 80]),
  (47, [0, 1, 2, 3, 4, 6, 7, 9, 10, 14, 18, 19, 20, 21, 47]),
  (48, [0, 1, 2, 3, 6, 7, 8, 9, 10, 14, 21, 53, 64, 74]),
  (49, [0, 1, 2, 4, 5, 11]),
  (50, [0, 1, 2, 4]),
  (51, [0, 1, 2, 4]),
  (52, [0, 1, 2, 4, 5, 6, 12]),
  (53, [0, 2, 3]),
  (54, [0, 1, 2, 4, 5, 6, 8, 12, 18, 26, 27, 28, 29]),
  (55, [0, 1, 4, 5, 10, 14, 25]),
  (56, [0, 1, 2, 4, 5, 6, 7, 8, 9, 10, 15, 22, 34, 47, 52]),
  (57, [0, 1, 2, 4, 5, 6, 7, 8, 9, 10, 16, 22, 37]),
  (58, [0, 1, 2, 3, 6, 7, 8, 9, 18]),
  (59, [0, 1, 4, 8]),
  (60, [0, 1, 2, 4, 5, 6, 7, 8, 9, 10, 15, 20, 35]),
  (61, [0, 1, 4]),
  (62, [0, 1, 4, 5, 10, 14, 25]),
  (63, [0, 2, 3, 7]),
  (64, [0, 1, 2, 3, 4, 5, 6, 61, 66, 79, 84, 98]),
  (65, [0, 1, 2, 3, 4, 9, 17]),
  (66, [0, 1, 2, 3, 4, 5, 12, 20]),
  (67, [0, 1, 2, 4, 13, 15, 16, 17, 18, 22]),
  (68, [0, 1, 2, 4, 14]),
  (69, [0, 1, 2, 4]),
  (70, [0, 1, 2, 4, 5, 6, 7, 8, 9, 10, 18, 68]),
  (71, [0, 1, 2, 4, 5, 6, 7, 8, 16]),
  (72, [0, 1, 2, 3, 4, 5, 6, 13, 22, 23, 24, 43]),
  (73, [0, 1, 2, 4, 5, 6, 16]),
  (74, [0, 1, 2, 4, 5, 6, 16]),
  (75, [0, 1, 2]),
  (76, [0, 1, 2, 4, 10]),
  (77, [0, 1, 4, 10]),
  (78, [0, 1, 4, 5, 11, 15, 25]),
  (79, [0, 1, 4, 10]),
  (80, [0, 1, 2, 3, 4, 5, 6, 7, 8, 15, 21, 30, 47, 56, 67, 76, 85]),
  (81, [0, 1, 4, 5, 9, 17]),
  (82, [0, 1, 2, 3, 4, 6, 11]),
  (83, [0, 1, 2, 3]),
  (84, [0, 2, 3, 4, 11]),
  (85, [0, 2, 3, 4, 11]),
  (86, [0, 2, 3, 4, 11]),
  (87, [0, 1, 2, 3]),
  (88, [0, 1, 2, 3, 4, 5, 7, 8, 9, 10, 11, 13, 49, 53, 55, 56, 57, 58, 91, 95, 96, 97, 98, 133, 137, 138, 139, 140, 175, 178, 179, 180, 181, 196, 199, 200, 201, 202, 209]),
  (89, [0, 1, 2, 3, 5, 24, 25, 26, 27]),
  (90, [0, 1, 2, 3, 4, 5, 6, 7, 11, 16, 24, 25, 27, 48, 56, 63, 68, 74, 84, 97, 101, 107, 108, 110, 116, 121, 129, 136, 139, 147, 156, 160, 161, 163, 170]),
  (91, [0, 1, 2, 3, 4, 6, 11]),
  (92, [0, 1, 4]),
  (93, [0, 1, 2, 3, 4, 10, 15, 20, 25, 30, 35, 40, 45, 50]),
  (94, [0, 1, 4, 5, 10, 14, 26]),
  (95, [0, 1, 4, 5, 10, 14, 26]),
  (96, [0, 1, 2, 3, 4, 9, 14, 19, 24, 29, 34]),
  (97, [0, 1, 2, 3, 4]),
  (98, [0, 1, 2, 4]),
  (99, [0, 1, 4, 5, 9]),
  (100, [0, 1, 4, 5, 9]),
  (101, [0, 1, 2, 4, 5, 7, 12, 13, 14, 15]),
  (102, [0, 1, 2, 4, 5, 6, 7, 8, 9, 16]),
  (103, [0, 1, 2, 3, 4, 9, 14, 19, 24, 29]),
  (104, [0, 2, 3, 4, 15]),
  (105, [0, 2, 3, 6]),
  (106, [0, 1, 4]),
  (107, [0, 2, 3, 4, 11, 12, 16, 20, 28, 36, 49, 54, 60, 70, 77, 82, 87]),
  (108, [0, 1, 2, 4, 6, 7, 8, 9, 13, 20, 25]),
  (109, [0, 1, 4, 5, 6, 7, 8, 10, 12]),
  (110, [0, 1, 2, 6, 7, 15]),
  (111, [0, 1, 2, 3, 32, 37, 46]),
  (112, [0, 1, 2, 6]),
  (113, [0, 1, 2, 3, 4, 5, 6, 11, 48, 51, 91]),
  (114, [0, 1, 2, 3, 4, 9, 34, 39, 52]),
  (115, [0, 1, 2, 3, 4, 5, 6, 10]),
  (116, [0, 1, 4, 5, 6, 10, 19]),
  (117, [0, 1, 2, 6]),
  (118, [0, 2, 5]),
  (119, [0, 2, 3, 4, 11, 12, 20, 24, 28, 32, 36, 40, 44, 48, 52]),
  (120, [0, 1, 2]),
  (121, [0, 2, 3, 4, 5, 12]),
  (122, [0, 1, 2, 3, 8]),
  (123, [0, 1, 2, 3, 4, 29]),
  (124, [0, 1, 2, 6, 7, 8, 9, 10, 11, 12, 13, 14, 15, 23, 43]),
  (125, [0, 1, 2, 3]),
  (126, [0, 1, 2, 3]),
  (127, [0, 1, 2, 3, 4, 5, 6, 12, 13, 14, 15, 16, 17, 30, 78]),
  (128, [0, 1, 2, 4, 5, 6, 7, 8, 9, 17, 34, 83]),
  (129, [0, 1, 2, 4, 5, 6, 7, 8, 9, 10, 18, 26]),
  (130, [0, 1, 2, 4, 5, 30, 47, 68]),
  (131, [0, 1, 2, 3, 4, 25, 32, 38, 42, 47, 56, 68, 71]),
  (132, [0, 1, 2, 4]),
  (133, [0, 1, 2, 4, 5, 10, 17, 25]),
  (134, [0, 1, 2, 4]),
  (135, [0, 1, 2, 3, 4, 6]),
  (136, [0, 1, 2, 3, 6, 7, 8, 10, 31, 33, 34, 35, 36, 55]),
  (137, [0, 1, 4]),
  (138, [0, 1, 2, 3, 4]),
  (139, [0, 1, 2, 4]),
  (140, [0, 1, 2, 3, 5, 6]),
  (141, [0, 1, 2, 3, 6, 7, 8, 9, 31, 37, 64]),
  (142, [0, 1, 2, 4, 5, 6, 13]),
  (143, [0, 1, 4, 5, 9, 18]),
  (144, [0, 1, 2, 4, 5, 6, 7, 8, 13]),
  (145, [0, 2, 3, 4, 5, 11, 15]),
  (146, [0, 1, 2, 3, 4, 5, 6, 10, 13, 14, 15, 20]),
  (147, [0, 1, 4, 5, 11]),
  (148, [0, 2]),
  (149, [0, 1, 2, 4, 5, 6, 7, 13, 20, 40]),
  (150, [0, 1, 4, 5, 11]),
  (151, [0, 1, 4, 7]),
  (152, [0, 1, 2, 3, 4, 5, 6, 7, 14, 21, 41]),
  (153, [0, 1, 2, 3, 4, 5]),
  (154, [0, 1, 2, 6]),
  (155, [0, 1, 2, 3, 4, 5, 7, 12, 15, 16, 17, 18, 30]),
  (156, [0, 1, 4, 5, 6, 10, 18]),
  (157, [0, 2, 3, 7, 8, 11, 16, 18]),
  (158, [0, 1, 2, 3, 4]),
  (159, [0, 1, 4, 5, 10, 14, 25]),
  (160, [0, 1, 2, 3, 4]),
  (161, [0, 1, 2, 3, 8, 16]),
  (162, [0, 1, 2, 4, 5, 6, 7, 8, 9, 10, 11, 19, 29]),
  (163, [0, 1, 2, 4, 9, 11, 12, 13, 14, 19]),
  (164, [0, 1, 4]),
  (165, [0, 1, 3, 4]),
  (166, [0, 1, 2, 3, 4, 5]),
  (167, [0, 1, 2, 3, 4, 5, 6, 7, 8, 18, 31]),
  (168, [0, 1, 4, 5, 6, 13]),
  (169, [0, 1, 2, 3, 4, 5]),
  (170, [0, 1, 2, 4, 5, 6, 7, 8, 9, 60, 95]),
  (171, [0, 1, 2, 3, 4, 8, 9, 11, 12, 13, 14, 15, 16, 17, 33]),
  (172, [0, 1, 4, 5, 7, 8, 9, 10, 11, 17]),
  (173, [0, 1, 2, 4]),
  (174, [0, 1, 2, 4, 10, 16]),
  (175, [0, 1, 2, 3, 4, 5, 6, 12, 13, 14, 15, 16, 28, 54]),
  (176, [0, 1, 2, 4, 5, 6, 7, 8, 16, 28]),
  (177, [0, 1, 2, 3, 6, 7, 8, 9, 18]),
  (178, [0, 1, 2, 4, 5, 6, 7, 8, 9, 17, 65]),
  (179, [0, 1, 2, 4, 5, 6, 7, 8, 16]),
  (180, [0, 1, 2, 3, 4, 5, 6, 13, 24, 44]),
  (181, [0, 1, 2, 3, 4, 6, 47, 84]),
  (182, [0, 1, 2, 3, 6]),
  (183, [0, 1, 2, 3]),
  (184, [0, 1, 2, 3]),
  (185, [0, 1, 2, 3, 4, 6, 46, 81]),
  (186, [0, 1, 2, 3, 4, 5, 6, 10]),
  (187, [0, 1, 2]),
  (188, [0, 2]),
  (189, [0, 1, 2]),
  (190, [0, 1, 2, 3, 5, 6, 35, 53, 76]),
  (191, [0, 1, 2, 4]),
  (192, [0, 1, 2, 4]),
  (193, [0, 1, 2, 3, 6, 20]),
  (194, [0, 1, 4, 5, 7, 8, 9, 16]),
  (195, [0, 1, 2, 3, 4, 9, 14, 19, 24, 29, 34, 39, 44, 49, 54]),
  (196, [0, 1, 2, 3, 4, 10, 16, 22]),
  (197, [0, 1, 2, 3, 4]),
  (198, [0, 1, 4, 5, 10, 12, 13, 14, 24]),
  (199, [0, 1, 4, 5, 10, 12, 13, 14, 24]),
  (200, [0, 1, 2, 6, 7, 8, 9, 14, 15, 16, 17, 18, 30]),
  (201, [0, 1, 2, 3, 4]),
  (202, [0, 1, 4, 5, 9]),
  (203, [0, 1, 4, 5, 9]),
  (204, [0, 1, 2, 4, 5, 7, 11, 20, 21, 22, 23]),
  (205, [0, 1, 2, 4, 5, 7, 8, 9, 13, 15, 16, 17, 18, 24, 44]),
  (206, [0, 1, 2, 3, 4, 5]),
  (207, [0, 1, 4, 5, 6, 7, 14]),
  (208, [0, 1, 3, 4, 5, 6, 7, 15, 25]),
  (209, [0, 1, 2, 3, 4, 5, 6, 7, 8, 18, 39, 55]),
  (210, [0, 2, 3, 4, 6, 7, 8, 9, 10, 11, 26, 57, 80, 94, 111, 121, 125]),
  (211, [0, 2, 3, 4, 5, 35]),
  (212, [0, 1, 4]),
  (213, [0, 1, 2, 4, 6, 7, 8, 11, 20, 21, 27, 31, 35, 39, 43, 47, 51, 55, 59]),
  (214, [0, 2, 3, 5, 18]),
  (215, [0, 1, 3, 4, 5, 6, 7, 19, 36, 37, 63, 69, 73, 83, 87, 91]),
  (216, [0, 1, 3, 4, 5, 10, 23, 35]),
  (217, [0, 1, 3, 4, 5, 6, 14, 15, 19, 23, 27, 31, 35]),
  (218, [0, 2, 3, 34]),
  (219, [0, 1, 2]),
  (220, [0, 1, 4, 5, 10, 14, 25]),
  (221, [0, 1, 2, 3, 4, 8, 9, 10, 11, 12, 18, 40]),
  (222, [0, 1, 4, 5, 10, 14, 25]),
  (223, [0, 1, 2, 3, 4, 5, 9, 16]),
  (224, [0, 1, 4, 5, 6, 11, 28]),
  (225, [0, 1, 4, 5, 6, 10, 35]),
  (226, [0, 1, 4, 5, 6, 10, 27]),
  (227, [0, 2, 3, 4, 10]),
  (228, [0, 1, 2, 5]),
  (229, [0, 1, 2]),
  (230, [0, 1, 2, 3, 8, 9, 10, 18, 33]),
  (231, [0, 1, 2, 3, 4, 6, 7, 17]),
  (232, [0, 1, 3, 4, 5, 6, 7, 8, 22, 38]),
  (233, [0, 1, 2, 3, 4, 5]),
  (234, [0, 1, 2, 3, 4, 5]),
  (235, [0, 1, 2, 4, 5, 6, 7, 8, 9, 20]),
  (236, [0, 2]),
  (237, [0, 1, 2, 4]),
  (238, [0, 1, 2, 3, 4, 5, 6, 8, 9, 10]),
  (239, [0, 1, 4, 5, 7, 8, 9, 16]),
  (240, [0, 1, 2, 3, 4, 5, 6, 8, 9, 10]),
  (241, [0, 1, 2, 4, 5, 6, 7, 21]),
  (242, [0, 1, 2, 3, 4, 5, 6, 20]),
  (243, [0, 1, 2, 4, 5, 6, 7, 13, 23, 49]),
  (244, [0, 1, 3, 4, 5, 6, 15, 34]),
  (245, [0, 1, 2, 4, 5]),
  (246, [0, 1, 4, 5, 6, 11]),
  (247, [0, 1, 2, 3, 4, 5, 6, 7, 17, 35]),
  (248, [0, 1, 4, 7]),
  (249, [0, 1, 2, 3, 4]),
  (250, [0, 1, 2, 3, 8, 9, 10, 11, 12, 13, 14, 15, 16, 17, 18, 23, 29, 35, 50, 68, 72, 87, 113]),
  (251, [0, 2]),
  (252, [0, 1, 2, 3, 6, 7, 8, 16, 23]),
  (253, [0, 1]),
  (254, [0, 1, 2, 3, 4]),
  (255, [0, 1, 2, 4, 5, 6, 7, 8, 9, 16, 29]),
  (256, [0, 1, 2, 3]),
  (257, [0, 1]),
  (258, [0, 1, 2, 3, 5, 7, 8, 9, 10]),
  (259, [0, 1, 2, 3, 4, 5, 6, 7, 8, 12, 15, 16, 17, 18, 22, 23, 24, 25, 52]),
  (260, [0, 1, 2]),
  (261, [0, 1, 3, 4, 5, 7, 8, 9, 16]),
  (262, [0, 1, 2, 6, 7, 16]),
  (263, [0, 1, 2, 6, 7, 16]),
  (264, [0, 1]),
  (265, [0, 1, 2, 3, 4, 6, 7, 25]),
  (266, [0, 1]),
  (267, [0, 1, 2, 3, 4, 5, 12]),
  (268, [0, 1, 4, 10]),
  (269, [0, 1, 2, 4, 10]),
  (270, [0, 1, 2, 3, 4, 5]),
  (271, [0, 1, 2, 4, 5]),
  (272, [0, 1, 2, 3, 4, 5]),
  (273, [0, 1, 2, 3, 4, 13]),
  (274, [0, 1, 2, 3, 6]),
  (275, [0, 1, 2, 4, 5]),
  (276, [0, 1, 2, 3, 4, 5, 6, 7, 8, 18, 30, 42]),
  (277, [0, 1, 2, 3]),
  (278, [0, 2, 3, 4, 11]),
  (279, [0, 1, 2, 3]),
  (280, [0, 1, 2]),
  (281, [0, 1, 4, 5, 10, 12, 13, 14, 24]),
  (282, [0, 1, 4, 5, 10, 12, 13, 14, 24]),
  (283, [0, 1, 2, 3, 5, 8, 10, 11, 12, 13]),
  (284, [0, 1, 4, 5, 7, 8, 9, 10, 11, 22]),
  (285, [0, 1, 4, 5, 7, 8, 9, 10, 11, 27]),
  (286, [0, 1, 4, 5, 7, 8, 9, 10, 11, 22]),
  (287, [0, 2]),
  (288, [0, 2]),
  (289, [0, 1, 2, 3, 4, 9, 14, 19, 24, 29]),
  (290, [0, 1, 4, 5, 10, 14, 26]),
  (291, [0, 1, 2, 3, 4, 10]),
  (292, [0, 1, 2, 3, 4]),
  (293, [0, 1, 4, 5, 9]),
  (294, [0, 1, 2, 4, 5, 7, 9, 10, 11, 12, 18]),
  (295, [0, 1, 2, 4, 5, 6]),
  (296, [0, 1]),
  (297, [0, 1, 3, 4]),
  (298, [0, 1, 2, 6, 7, 16]),
  (299, [0, 1, 2, 3]),
  (300, [0, 1, 2, 6, 7, 8, 9, 16, 22, 31, 68]),
  (301, [0, 1, 2, 3, 4, 5, 12]),
  (302, [0, 1, 2, 6, 7, 8, 9, 16, 22, 31, 68]),
  (303, [0, 1, 2, 4, 6, 7, 34, 41, 51, 62]),
  (304, [0, 1, 2, 3, 4, 5, 6, 18, 34]),
  (305, [0, 1, 2, 3, 4, 5, 10, 11, 12, 13, 14, 15, 16, 17, 25]),
  (306, [0, 2, 3, 4, 11, 12, 16, 20, 24, 28]),
  (307, [0, 2, 3, 4, 8, 9, 16, 20]),
  (308, [0, 2, 3, 4, 8, 9, 26, 34]),
  (309, [0, 2]),
  (310, [0, 1, 2]),
  (311, [0, 2, 3, 4, 7, 11, 39, 59]),
  (312, [0, 1, 2, 3, 4, 5, 6, 7, 18, 22, 40, 43, 56, 61, 71, 110]),
  (313, [0, 1, 2, 3, 4, 6, 7, 8, 19]),
  (314, [0, 1, 3, 4, 5, 6, 18]),
  (315, [0, 1, 2, 3, 4, 10]),
  (316, [0, 1, 3, 4, 5, 6, 18]),
  (317, [0, 2]),
  (318, [0, 1, 2, 3, 4, 10]),
  (319, [0, 1, 2, 3, 4]),
  (320, [0, 1, 2, 6, 7, 8, 9, 16, 22, 31, 68]),
  (321, [0, 2, 3, 4, 7, 8, 9, 10, 11, 35, 57]),
  (322, [0, 1]),
  (323, [0, 1]),
  (324, [0, 1, 2, 4, 5, 6, 7, 14, 23]),
  (325, [0, 1, 2, 3, 4, 6, 7, 25]),
  (326, [0, 1, 2, 6, 7, 11, 30]),
  (327, [0, 1, 2, 3, 4, 5, 6, 12, 13, 14, 22, 53]),
  (328, [0, 1, 4, 5, 9, 18]),
  (329, [0, 1, 2, 6, 7, 12, 30]),
  (330, [0, 1, 2, 6, 7, 8, 9, 10, 19, 30]),
  (331, [0, 1, 2, 6, 7, 8, 9, 10, 15, 33, 43]),
  (332, [0, 1, 2, 6, 7, 8, 9, 10, 11, 12, 32, 34, 49, 51, 54]),
  (333, [0, 1, 2, 6, 7, 13]),
  (334, [0, 1, 2, 6, 7, 8, 9, 10, 14, 32, 37, 41, 61, 65, 78, 98, 103, 116]),
  (335, [0, 1, 4]),
  (336, [0, 1, 2, 3, 8, 9, 10, 43, 59, 64]),
  (337, [0, 1, 2, 3, 8, 9, 10, 11, 43, 60, 65, 112, 129, 134]),
  (338, [0, 2, 4, 8]),
  (339, [0, 2, 4, 8, 14]),
  (340, [0, 1, 2, 6, 7, 8, 9, 13, 30, 35, 54]),
  (341, [0, 1, 4, 5, 6, 11, 12, 13, 16, 19]),
  (342, [0, 1, 4, 5, 11, 15, 25]),
  (343, [0, 1, 2, 4, 5]),
  (344, [0, 1, 4, 5, 10]),
  (345, [0, 1, 2, 4, 5]),
  (346, [0, 1, 2, 4, 5]),
  (347, [0, 1, 2, 3]),
  (348, [0, 2, 3, 4, 11]),
  (349, [0, 1, 4]),
  (350, [0, 1]),
  (351, [0, 1, 2, 3, 4, 9, 14, 19, 24]),
  (352, [0, 1, 4, 5, 10, 14, 26]),
  (353, [0, 1, 4, 5, 7, 8, 9, 16]),
  (354, [0, 1, 2, 3, 4]),
  (355, [0, 1, 2, 3]),
  (356, []),
  (357, [0, 1]),
  (358, []),
  (359, [0, 1]),
  (360, [0, 2, 3]),
  (361, [0, 2, 3, 4, 5, 6, 11, 17, 23]),
  (362, [0, 2, 3, 4, 21, 22, 26, 30, 34]),
  (363, [0, 2, 3, 4, 5, 6, 11, 13, 27]),
  (364, [0, 2, 3, 12, 13, 19]),
  (365, [0, 1, 2, 3, 4]),
  (366, [0, 1, 2, 3, 4]),
  (367, []),
  (368, [0, 1]),
  (369, [0, 1, 2, 3, 8, 9, 16, 36, 52]),
  (370, [0, 2]),
  (372, [0, 1, 2, 6]),
  (373, [0, 1, 2, 3, 4, 10]),
  (374, [0, 2]),
  (375, [0, 1, 2, 3, 8, 9, 14, 34]),
  (376, [0, 1, 2, 3, 4, 10, 11, 12, 13, 14, 15, 16, 17, 18, 19, 20, 21, 22, 23, 24, 28, 33, 50, 58, 80, 85, 103, 110, 140, 151, 171, 185, 199, 213]),
  (377, [0, 1, 4, 10]),
  (378, [0, 2, 3, 4, 11]),
  (379, [0, 1, 2, 3, 4, 10, 11, 12, 13, 14, 15, 16, 17, 18, 19, 20, 25, 32, 39, 56, 75, 80, 97, 125]),
  (380, [0, 1, 2, 6, 7, 8, 9, 13, 30, 35, 54]),
  (381, [0, 1, 4, 5, 10, 14, 26]),
  (382, [0, 1]),
  (383, [0, 1]),
  (384, [0, 1, 3, 4, 5, 6, 17]),
  (385, [0, 2, 3, 4, 5, 11]),
  (386, [0, 1]),
  (387, [0, 1, 2, 3, 8, 9, 18]),
  (388, [0, 1, 2, 3, 4, 10, 11, 20, 23]),
  (389, [0, 1, 2, 3]),
  (390, [0, 1, 2, 3, 8, 9, 14, 34]),
  (391, [0, 1, 2, 3, 8, 9, 10, 11, 12, 21, 33]),
  (392, [0, 1, 2, 8, 9, 10, 11, 12, 17, 35, 45]),
  (393, [0, 1, 2, 3, 8, 9, 10, 11, 12, 13, 14, 34, 36, 55, 57, 60]),
  (394, [0, 1, 2, 8, 9, 15]),
  (395, [0, 1, 2, 3, 8, 9, 10, 11, 12, 16, 36, 41, 45, 65, 69, 84, 104, 109, 124]),
  (396, [0, 1, 2, 3, 4, 10, 11, 12, 47, 65, 70]),
  (397, [0, 1, 2, 3, 4, 10, 11, 12, 13, 47, 66, 71, 120, 139, 144]),
  (398, [0, 1, 2, 3, 4, 10, 11, 12, 13, 14, 15, 16, 17, 18, 19, 20, 21, 22, 23, 24, 28, 33, 50, 58, 80, 85, 103, 110, 140, 151, 171, 185, 199, 213]),
  (399, [0, 1, 2, 3, 4, 9, 14]),
  (400, [0, 2, 3, 9]),
  (401, [0, 2, 3, 9]),
  (402, [0, 2, 3, 9]),
  (403, [0, 1, 2, 3, 10, 13]),
  (404, [0, 1, 2, 3, 4, 10, 11, 18, 40, 58]),
  (405, [0, 1, 2, 3, 8]),
  (406, [0, 1, 2, 3, 4, 5, 12]),
  (407, [0, 1, 2, 3, 4, 10, 11, 20, 23]),
  (408, [0, 1, 2, 3, 4, 10, 11, 22]),
  (409, [0, 1, 2, 3, 10, 13])] }⟩

instance : ElT Tryz.prog 3 Int 1 (fun z => [.int .i64 z]) (fun z => ⟨rfl, by simp [isCell]⟩) := ⟨.int .i64 0, 0, 8, fun l => match l with | [.int _ n] => some n | _ => none, by kernel_rfl, rfl, by decide, by decide⟩
instance : ElT Tryz.prog 84 Req 6 reqE reqH := ⟨.agg #[vi 0, vi 0, vi 0, vi 0, vi 0, vi 0], ⟨0, 0, 0, 0, 0, 0⟩, 48, fun l => match l with | [.int _ x0, .int _ x1, .int _ x2, .int _ x3, .int _ x4, .int _ x5] => some ⟨x0, x1, x2, x3, x4, x5⟩ | _ => none, by kernel_rfl, rfl, by decide, by decide⟩
instance : ElT Tryz.prog 89 LookR 5 lookE lookH := ⟨.agg #[vi 0, vi 0, vi 0, vi 0, vi 0], ⟨0, 0, 0, 0, 0⟩, 40, fun l => match l with | [.int _ x0, .int _ x1, .int _ x2, .int _ x3, .int _ x4] => some ⟨x0, x1, x2, x3, x4⟩ | _ => none, by kernel_rfl, rfl, by decide, by decide⟩
instance : ElT Tryz.prog 91 Party 10 partyE partyH := ⟨.agg #[vi 0, vi 0, vi 0, vi 0, vi 0, vi 0, vi 0, vi 0, vi 0, vi 0], ⟨0, 0, 0, 0, 0, 0, 0, 0, 0, 0⟩, 80, fun l => match l with | [.int _ x0, .int _ x1, .int _ x2, .int _ x3, .int _ x4, .int _ x5, .int _ x6, .int _ x7, .int _ x8, .int _ x9] => some ⟨x0, x1, x2, x3, x4, x5, x6, x7, x8, x9⟩ | _ => none, by kernel_rfl, rfl, by decide, by decide⟩
instance : ElT Tryz.prog 117 Req 6 reqE reqH := ⟨.agg #[vi 0, vi 0, vi 0, vi 0, vi 0, vi 0], ⟨0, 0, 0, 0, 0, 0⟩, 48, fun l => match l with | [.int _ x0, .int _ x1, .int _ x2, .int _ x3, .int _ x4, .int _ x5] => some ⟨x0, x1, x2, x3, x4, x5⟩ | _ => none, by kernel_rfl, rfl, by decide, by decide⟩
instance : ElT Tryz.prog 159 Entry 4 entryE entryH := ⟨.agg #[vi 0, vi 0, vi 0, vi 0], ⟨0, 0, 0, 0⟩, 32, fun l => match l with | [.int _ x0, .int _ x1, .int _ x2, .int _ x3] => some ⟨x0, x1, x2, x3⟩ | _ => none, by kernel_rfl, rfl, by decide, by decide⟩
instance : ElT Tryz.prog 166 Pin 2 pinE pinH := ⟨.agg #[vi 0, vi 0], ⟨0, 0⟩, 16, fun l => match l with | [.int _ x0, .int _ x1] => some ⟨x0, x1⟩ | _ => none, by kernel_rfl, rfl, by decide, by decide⟩
instance : ElT Tryz.prog 180 Party 10 partyE partyH := ⟨.agg #[vi 0, vi 0, vi 0, vi 0, vi 0, vi 0, vi 0, vi 0, vi 0, vi 0], ⟨0, 0, 0, 0, 0, 0, 0, 0, 0, 0⟩, 80, fun l => match l with | [.int _ x0, .int _ x1, .int _ x2, .int _ x3, .int _ x4, .int _ x5, .int _ x6, .int _ x7, .int _ x8, .int _ x9] => some ⟨x0, x1, x2, x3, x4, x5, x6, x7, x8, x9⟩ | _ => none, by kernel_rfl, rfl, by decide, by decide⟩
instance : ElT Tryz.prog 271 Entry 4 entryE entryH := ⟨.agg #[vi 0, vi 0, vi 0, vi 0], ⟨0, 0, 0, 0⟩, 32, fun l => match l with | [.int _ x0, .int _ x1, .int _ x2, .int _ x3] => some ⟨x0, x1, x2, x3⟩ | _ => none, by kernel_rfl, rfl, by decide, by decide⟩
instance : ElT Tryz.prog 301 Pin 2 pinE pinH := ⟨.agg #[vi 0, vi 0], ⟨0, 0⟩, 16, fun l => match l with | [.int _ x0, .int _ x1] => some ⟨x0, x1⟩ | _ => none, by kernel_rfl, rfl, by decide, by decide⟩
instance : ElN Tryz.prog 70 (cabinLx 159 199 166) := ⟨.agg #[.int .i64 0, .int .i64 0, .int .i64 0, .int .i64 0, .int .i64 0, .slice none 0 0, .slice none 0 0], 88, by kernel_rfl, by rfl, by decide, by decide⟩
instance : ElN Tryz.prog 80 (replyL 3) := ⟨.agg #[.int .i64 0, .slice none 0 0], 32, by kernel_rfl, by rfl, by decide, by decide⟩
instance : ElN Tryz.prog 176 (cabinLx 271 292 301) := ⟨.agg #[.int .i64 0, .int .i64 0, .int .i64 0, .int .i64 0, .int .i64 0, .slice none 0 0, .slice none 0 0], 88, by kernel_rfl, by rfl, by decide, by decide⟩
instance : ElN Tryz.prog 199 (sl 166 pinL) := ⟨.slice none 0 0, 24, by kernel_rfl, by rfl, by decide, by decide⟩
instance : ElN Tryz.prog 292 (sl 301 pinL) := ⟨.slice none 0 0, 24, by kernel_rfl, by rfl, by decide, by decide⟩
abbrev HC (f : Nat) (S : Prop) : Prop := HasC Tryz.prog f S
abbrev Sp := Spec Tryz.prog
end SX
end Go.Proofs.YtejojcoaohlfbaaGreat
