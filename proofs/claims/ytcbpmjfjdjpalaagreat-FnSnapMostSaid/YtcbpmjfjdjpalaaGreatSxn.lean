/- Texts of this claim, put together by program. -/
import Derived.Test.YtcbpmjfjdjpalaaGreatSxh
/- Cursors over the bytes of a draw: an object behind a pointer that is handed from call to call. It imports no program. -/
namespace Go.Proofs.YtcbpmjfjdjpalaaGreat
namespace SX
set_option linter.unusedVariables false
set_option linter.unusedSimpArgs false
open Go Go.RowKit

/-- a block that holds these cells -/
def ptC (b : Nat) (t : TypeId) (cells : List Value) : Ass :=
  ⟨fun w f => f = [b] ∧ w.heap[b]? = some (.cells cells.toArray t (0, 0)), fun _ _ _ h hb => ⟨h.1, by rw [hb b (by rw [h.1]; simp)]; exact h.2⟩, fun w f h x hx => by
    rw [h.1] at hx; simp at hx; subst hx; exact (Array.getElem?_eq_some_iff.1 h.2).1⟩
/-- where the bytes of a draw lie -/
structure Cd where
  lo : Nat
  t : TypeId
  a : Option Addr
  n : Nat
  c : Nat
def RdLo (W : World) (lo : Nat) (a : Option Addr) (xs : List UInt8) : Prop := ∃ f, SlR byteL W a xs f ∧ ∀ x ∈ f, x < lo
theorem RdLo.rd {W w : World} {S0 : List Nat} {lo : Nat} {a : Option Addr} {xs : List UInt8} (h : RdLo W lo a xs) (hf : Fr S0 W w) (hS : ∀ x ∈ S0, lo ≤ x) : Rd byteL w a xs := by
  obtain ⟨f, hs, hl⟩ := h
  exact ⟨f, hs.st fun b hb => hf.block b (hs.lt b hb) (fun hm => by have := hl b hb; have := hS b hm; omega)⟩
theorem RdLo.rd0 {W : World} {lo : Nat} {a : Option Addr} {xs : List UInt8} (h : RdLo W lo a xs) : Rd byteL W a xs := let ⟨f, hs, _⟩ := h; ⟨f, hs⟩
def CodeOk (W : World) (d : Cd) : Prop := ∃ xs : List UInt8, xs.length = d.n ∧ RdLo W d.lo d.a xs
theorem CodeOk.fr {W w : World} {S0 : List Nat} {d : Cd} (h : CodeOk W d) (hf : Fr S0 W w) (hS : ∀ x ∈ S0, d.lo ≤ x) : CodeOk w d := by
  obtain ⟨xs, hn, f, hs, hl⟩ := h
  exact ⟨xs, hn, f, hs.st fun b hb => hf.block b (hs.lt b hb) (fun hm => by have := hl b hb; have := hS b hm; omega), hl⟩
theorem CodeOk.of {W w : World} {t : TypeId} {a : Option Addr} {c : Nat} {xs : List UInt8} (h : Rd byteL W a xs) (hf : Fr [] W w) : CodeOk w ⟨W.heap.size, t, a, xs.length, c⟩ := by
  obtain ⟨f, hs⟩ := h
  exact ⟨xs, rfl, f, hs.fr hf, hs.lt⟩
/-- a cursor -/
def curA (d : Cd) (p : Value) : Ass :=
  ⟨fun w f => ∃ b i h, p = .pointer (some ⟨b, 0, none⟩) ∧ 0 ≤ i ∧ d.lo ≤ b ∧ (ptC b d.t [.slice d.a d.n d.c, vi i, vi h]).φ w f,
    fun w w' f ⟨b, i, h, h1, h2, h3, h4⟩ hb => ⟨b, i, h, h1, h2, h3, (ptC b d.t _).st w w' f h4 hb⟩, fun w f ⟨b, i, h, h1, h2, h3, h4⟩ => (ptC b d.t _).lt w f h4⟩

/-- what is read beside a cursor -/
def RdP {α : Type} (W : World) (p : Value) (L : Lay α) (a : Option Addr) (xs : List α) : Prop := ∃ f, SlR L W a xs f ∧ ∀ b, p = .pointer (some ⟨b, 0, none⟩) → b ∉ f
section
variable {α : Type} {L : Lay α} {W w : World} {S0 : List Nat} {C : List Ass} {p : Value} {a : Option Addr} {xs : List α}
theorem RdP.rd0 (h : RdP W p L a xs) : Rd L W a xs := let ⟨f, hs, _⟩ := h; ⟨f, hs⟩
theorem RdP.len (h : RdP W p L a xs) : xs.length ≤ 9223372036854775807 := Rd.len h.rd0
theorem RdP.fr (h : RdP W p L a xs) (hf : Fr S0 W w) (hP : ∀ x ∈ S0, p = .pointer (some ⟨x, 0, none⟩)) : RdP w p L a xs := by
  obtain ⟨f, hs, hn⟩ := h
  exact ⟨f, hs.st fun b hb => hf.block b (hs.lt b hb) (fun hm => hn b (hP b hm) hb), hn⟩
theorem RdP.rd (h : RdP W p L a xs) (hf : Fr S0 W w) (hP : ∀ x ∈ S0, p = .pointer (some ⟨x, 0, none⟩)) : Rd L w a xs := (h.fr hf hP).rd0
theorem RdP.nil (W : World) (p : Value) (L : Lay α) : RdP W p L none [] := ⟨[], ⟨by simp [maxLen], .inl ⟨rfl, rfl⟩⟩, by simp⟩
theorem holds.mem {w : World} : ∀ {C : List Ass} {fps : List (List Nat)} (i : Nat) {A : Ass}, holds w C fps → C[i]? = some A → ∃ g, A.φ w g ∧ g ∈ fps
  | A :: _, f :: _, 0, _, h, hi => by simp at hi; subst hi; exact ⟨f, h.1, by simp⟩
  | _ :: _, _ :: _, i + 1, _, h, hi => by
    obtain ⟨g, hg, hm⟩ := holds.mem i h.2 (by simpa using hi)
    exact ⟨g, hg, by simp [hm]⟩
  | [], _, _, _, _, hi => by simp at hi
  | _ :: _, [], _, _, h, _ => h.elim
theorem holds.nth2 {w : World} : ∀ {C : List Ass} {fps : List (List Nat)} (i j : Nat) {A B : Ass}, holds w C fps → fps.flatten.Nodup → C[i]? = some A → C[j]? = some B → i ≠ j → ∃ f g, A.φ w f ∧ B.φ w g ∧ ∀ x ∈ f, x ∉ g
  | A :: C, f :: fps, 0, 0, _, _, _, _, _, _, hne => absurd rfl hne
  | A :: C, f :: fps, 0, j + 1, _, B, h, hn, hi, hj, _ => by
    simp at hi; subst hi
    have hn' := List.nodup_append.1 (by simpa using hn : (f ++ fps.flatten).Nodup)
    obtain ⟨g, hg, hs⟩ : ∃ g, B.φ w g ∧ g ∈ fps := holds.mem j h.2 (by simpa using hj)
    exact ⟨f, g, h.1, hg, fun x hx hxg => hn'.2.2 x hx x (List.mem_flatten.2 ⟨g, hs, hxg⟩) rfl⟩
  | A :: C, f :: fps, i + 1, 0, _, B, h, hn, hi, hj, _ => by
    simp at hj; subst hj
    have hn' := List.nodup_append.1 (by simpa using hn : (f ++ fps.flatten).Nodup)
    obtain ⟨g, hg, hs⟩ := holds.mem i h.2 (by simpa using hi)
    exact ⟨g, f, hg, h.1, fun x hx hxf => hn'.2.2 x hxf x (List.mem_flatten.2 ⟨g, hs, hx⟩) rfl⟩
  | A :: C, f :: fps, i + 1, j + 1, _, _, h, hn, hi, hj, hne => by
    have hn' := List.nodup_append.1 (by simpa using hn : (f ++ fps.flatten).Nodup)
    exact holds.nth2 i j h.2 hn'.2.1 (by simpa using hi) (by simpa using hj) (by omega)
  | [], _, _, _, _, _, _, _, hi, _, _ => by simp at hi
  | _ :: _, [], _, _, _, _, h, _, _, _, _ => h.elim
theorem RdP.own {e : TypeId} {n c : Nat} {d : Cd} (hw : At W S0 C w) (i j : Nat) (hi : C[i]? = some (slA e L (.slice a n c) xs)) (hj : C[j]? = some (curA d p)) (hij : i ≠ j) : RdP w p L a xs := by
  obtain ⟨fps, hh, hn, _⟩ := hw.ch
  obtain ⟨f, g, hf, hg, hd⟩ := holds.nth2 i j hh hn hi hj hij
  obtain ⟨a', c', f', hv, hsub, hr⟩ := SlO.rd hf
  injection hv with e1 e2 e3
  subst e1
  obtain ⟨b, _, _, h1, _, _, h4, _⟩ := hg
  refine ⟨f', hr, fun b' hb' hm => ?_⟩
  rw [h1] at hb'
  injection hb' with hb'
  injection hb' with hb'
  injection hb' with hb'
  subst hb'
  exact hd _ (hsub _ hm) (by rw [h4]; simp)
end

section rules
variable {P : Program} {N : Nat} {W : World} {S0 : List Nat} {Q : Exit → Act → World → Prop} {T : Tm} {L : Bx} {C : List Ass} {ops : Array Oper} {K : Act → World → Prop}

/-- the entry of a function that takes a cursor -/
theorem ENTERC {f : FuncId} {fn : Func} {c : Code} {vs : List Value} {d : Cd} {p : Value} {r : Res} (hf : P.funcs[f]? = some fn) (hb : fn.body = some c) (hn : fn.ntmps = N) (hl : vs.length ≤ N)
    (k : ∀ S0, (∀ x ∈ S0, d.lo ≤ x) → (∀ x ∈ S0, p = .pointer (some ⟨x, 0, none⟩)) → CODE P N W S0 c (bodyPost P fn (RetM S0 r W)) (argsT 0 vs) [] [curA d p]) : Spec P W [curA d p] f vs.toArray r := by
  intro fps hh hnd
  have hS : ∀ x ∈ fps.flatten, d.lo ≤ x := by
    match fps, hh with
    | [fp], ⟨⟨b, i, h, h1, h2, h3, h4, h5⟩, _⟩ =>
      subst h4
      intro x hx
      simp at hx; subst hx; exact h3
  have hP : ∀ x ∈ fps.flatten, p = .pointer (some ⟨x, 0, none⟩) := by
    match fps, hh with
    | [fp], ⟨⟨b, i, h, h1, h2, h3, h4, h5⟩, _⟩ =>
      subst h4
      intro x hx
      simp at hx; subst hx; exact h1
  refine calls_of_wp hf hb (k _ hS hP _ _ ⟨[], fps, ⟨rfl, ?_, fun i x hx => ?_⟩, bounded_argsT _ _ _, ⟨Fr.refl _ _, trivial, hh, by simpa using hnd, fun b hbm _ => by simpa using hbm⟩⟩)
  · simp [hn]; omega
  · obtain ⟨_, v, hv, rfl⟩ := lk_argsT vs 0 i x hx
    have hlt : i < vs.length := (List.getElem?_eq_some_iff.1 hv).1
    simp only [Nat.sub_zero] at hv
    show _ = some v
    rw [← hv]
    simp [Array.getElem?_append, hlt]

/-- what a cursor holds -/
theorem OPENCUR {d : Cd} {p : Value} (j : Nat) (R : List Ass) (hp : pulls [j] C = some ([curA d p], R)) (k : ∀ b i h, p = .pointer (some ⟨b, 0, none⟩) → 0 ≤ i → d.lo ≤ b → G N W S0 K T L (R ++ [ptC b d.t [.slice d.a d.n d.c, vi i, vi h]])) : G N W S0 K T L C := by
  rintro a w ⟨bs, fps, ht, hb, hm⟩
  obtain ⟨xps, hx, hnx, hex⟩ := hm.exch hp
  match xps, hx with
  | [fp], ⟨⟨b, i, h, h1, h2, h3, h4⟩, _⟩ =>
    obtain ⟨fps', hmem⟩ := hex w [ptC b d.t [.slice d.a d.n d.c, vi i, vi h]] [fp] ⟨h4, trivial⟩ hnx (fun b hb _ => hb) (Fr.refl _ _)
    exact k b i h h1 h2 h3 a w ⟨bs, fps', ht, hb, hmem⟩
theorem CLOSECUR {d : Cd} {b : Nat} {i h : Int} (j : Nat) (R : List Ass) (hp : pulls [j] C = some ([ptC b d.t [.slice d.a d.n d.c, vi i, vi h]], R)) (hi : 0 ≤ i) (hlo : d.lo ≤ b) (k : G N W S0 K T L (R ++ [curA d (.pointer (some ⟨b, 0, none⟩))])) : G N W S0 K T L C := by
  rintro a w ⟨bs, fps, ht, hb, hm⟩
  obtain ⟨xps, hx, hnx, hex⟩ := hm.exch hp
  match xps, hx with
  | [fp], ⟨h4, _⟩ =>
    obtain ⟨fps', hmem⟩ := hex w [curA d (.pointer (some ⟨b, 0, none⟩))] [fp] ⟨⟨b, i, h, rfl, hi, hlo, h4⟩, trivial⟩ hnx (fun b hb _ => hb) (Fr.refl _ _)
    exact k a w ⟨bs, fps', ht, hb, hmem⟩
/-- a pointer into a block, seen as one into a row -/
theorem ASE {d b : Nat} (hd : lk T d = some (.v (.pointer (some ⟨b, 0, none⟩)))) (k : G N W S0 K ((d, .e (some ⟨b, 0, none⟩) 0 0) :: T) L C) : G N W S0 K T L C := by
  rintro a w ⟨bs, fps, ht, hb, hm⟩
  refine k a w ⟨bs, fps, ⟨ht.1, ht.2.1, fun i x hx => ?_⟩, hb, hm⟩
  simp only [lk] at hx
  by_cases hk : d = i
  · subst hk
    simp at hx; subst hx
    have := ht.2.2 d _ hd
    rw [this]
    simp [den, addrOf, add_lit]
  · have : (d == i) = false := by simpa using hk
    simp only [this, Bool.false_eq_true, if_false] at hx
    exact ht.2.2 i x hx
theorem ptC_elem {b : Nat} {t : TypeId} {cells : List Value} {w : World} (h : ∃ f, (ptC b t cells).φ w f) : ElemAt w (some ⟨b, 0, none⟩) 0 cells := by
  obtain ⟨f, _, hh⟩ := h
  intro j hj
  have e : (addrOf (some ⟨b, 0, none⟩)).add (0 + j) = ⟨b, j, none⟩ := by simp [addrOf, add_lit]
  rw [e]
  simp only [World.cell?, hh]
  simp
/-- a store into the block -/
theorem STOREC {i : Nat} (t : TypeId) (x y : Operand) (ty : TypeId) (ho : opAt ops T i = some (.store t x y, none, ty)) (j : Nat) (R : List Ass) (b off : Nat) (tb : TypeId) (cells cells' : List Value) (hp : pulls [j] C = some ([ptC b tb cells], R))
    (v : Value) (hx : evo T x = some (.e (some ⟨b, 0, none⟩) 0 off)) (hy : evv T y = some v) (hst : storeOf P t cells off v = some cells') (k' : G N W S0 K T L (R ++ [ptC b tb cells'])) : OP P N W S0 ops Q i K T L C := by
  refine STEPM (js := [j]) (ι := Unit) (val := fun _ => undef) (own := fun _ => [ptC b tb cells']) _ none _ ho (by rintro _ ⟨⟩) hp ?_ (fun _ => k')
  intro ac o bs w fps hev hop hty hat hown hnd
  match fps, hown with
  | [fp], ⟨⟨hfp, hh⟩, _⟩ =>
    obtain ⟨w', hrun, hn, hs, h1, h2, h3, h4⟩ := storeOf_run (P := P) hh hst
    have e1 : ac.eval x = .pointer (some ⟨b, off, none⟩) := by rw [hev x _ hx]; simp [den, addrOf, add_lit]
    have e2 : ac.eval y = v := hev y _ (evo_of_evv hy)
    refine ⟨(), w', .skip, [[b]], ?_, .inr ⟨rfl, rfl⟩, ⟨⟨rfl, hn⟩, trivial⟩, by simp, ?_, ?_⟩
    · simp only [execOp, hop, e1, e2, Instr.storeAt, Instr.sureAddr, Sem.run_bind, Sem.run_pure, Result.andThen_ok, hrun]
    · intro c hc _; rw [hfp]; simpa using hc
    · refine ⟨h1, h2, h3, by omega, fun c hc hne => h4 c (fun e => hne (by rw [hfp]; simp [e]))⟩
/-- the one box becomes a block whose number is new -/
theorem BOXOUT {t : TypeId} {cs : List Value} (d : Nat) (hd : lk T d = some (.p 0 0)) (k : ∀ b, W.heap.size ≤ b → G N W [] K [(d, .v (.pointer (some ⟨b, 0, none⟩)))] [] (C ++ [ptC b t cs])) : G N W [] K T [(t, cs)] C := by
  rintro a w ⟨bs, fps, ht, hb, hm⟩
  match bs, hm.bx with
  | [b], ⟨hb1, _⟩ =>
    have hnew : W.heap.size ≤ b := by
      rcases Nat.lt_or_ge b W.heap.size with h | h
      · have := hm.new b (by simp) h; cases this
      · exact h
    refine k b hnew a w ⟨[], fps ++ [[b]], ⟨ht.1, ht.2.1, fun i x hx => ?_⟩, ?_, ⟨hm.fr, trivial, hm.ch.append ⟨⟨rfl, hb1⟩, trivial⟩, ?_, ?_⟩⟩
    · simp only [lk] at hx
      by_cases hk : d = i
      · subst hk
        simp at hx; subst hx
        rw [ht.2.2 d _ hd]
        simp [den]
      · have : (d == i) = false := by simpa using hk
        simp [this] at hx
    · simp [bounded]
    · have := hm.nd
      simp only [List.singleton_append, List.nodup_cons, List.nil_append, List.flatten_append, List.flatten_cons, List.flatten_nil, List.append_nil] at this ⊢
      exact List.nodup_append.2 ⟨this.2, by simp, fun x hx y hy e => by simp at hy; subst hy; subst e; exact this.1 hx⟩
    · intro x hx hlt
      simp only [List.nil_append, List.flatten_append, List.flatten_cons, List.flatten_nil, List.append_nil, List.mem_append, List.mem_singleton] at hx
      refine hm.new x ?_ hlt
      rcases hx with h | h
      · simp [h]
      · simp [h]
end rules
theorem and255 (a : Int) : 0 ≤ wr (((BitVec.ofInt 64 a &&& BitVec.ofInt 64 255).toNat : Nat) : Int) ∧ wr (((BitVec.ofInt 64 a &&& BitVec.ofInt 64 255).toNat : Nat) : Int) < 256 := by
  have h : (BitVec.ofInt 64 a &&& BitVec.ofInt 64 255).toNat ≤ 255 := by
    rw [BitVec.toNat_and]
    exact Nat.le_trans Nat.and_le_right (by decide)
  rw [wr_of (by omega) (by omega)]
  omega
end SX
end Go.Proofs.YtcbpmjfjdjpalaaGreat
/- Data within data: layouts of pairs; elements that hold slices: read out of arguments, built, stored, pinned. It imports no program. -/
namespace Go.Proofs.YtcbpmjfjdjpalaaGreat
namespace SX
set_option linter.unusedVariables false
set_option linter.unusedSimpArgs false
open Go Go.RowKit

/-- one behind the other -/
def prodL {α β : Type} (A : Lay α) (B : Lay β) : Lay (α × β) where
  sz := A.sz + B.sz
  rep := fun m w cs x f => ∃ c1 c2 f1 f2, cs = c1 ++ c2 ∧ f = f1 ++ f2 ∧ A.rep m w c1 x.1 f1 ∧ B.rep m w c2 x.2 f2
  len := by rintro m w cs x f ⟨c1, c2, f1, f2, rfl, rfl, h1, h2⟩; rw [List.length_append, A.len h1, B.len h2]
  one := by
    rintro m w cs x f ⟨c1, c2, f1, f2, rfl, rfl, h1, h2⟩ u hu
    rcases List.mem_append.1 hu with h | h
    · exact A.one h1 u h
    · exact B.one h2 u h
  st := by
    rintro m w w' cs x f ⟨c1, c2, f1, f2, rfl, rfl, h1, h2⟩ hb
    exact ⟨c1, c2, f1, f2, rfl, rfl, A.st h1 fun b hm => hb b (List.mem_append.2 (.inl hm)), B.st h2 fun b hm => hb b (List.mem_append.2 (.inr hm))⟩
  lt := by
    rintro m w cs x f ⟨c1, c2, f1, f2, rfl, rfl, h1, h2⟩ b hb
    rcases List.mem_append.1 hb with h | h
    · exact A.lt h1 b h
    · exact B.lt h2 b h
  rd := by
    rintro w cs x f ⟨c1, c2, f1, f2, rfl, rfl, h1, h2⟩
    obtain ⟨g1, hg1, k1⟩ := A.rd h1
    obtain ⟨g2, hg2, k2⟩ := B.rd h2
    refine ⟨g1 ++ g2, fun b hb => ?_, c1, c2, g1, g2, rfl, rfl, k1, k2⟩
    rcases List.mem_append.1 hb with h | h
    · exact List.mem_append.2 (.inl (hg1 b h))
    · exact List.mem_append.2 (.inr (hg2 b h))
def viaL {α β : Type} (L : Lay β) (g : α → β) : Lay α where
  sz := L.sz
  rep := fun m w cs x f => L.rep m w cs (g x) f
  len := L.len
  one := L.one
  st := L.st
  lt := L.lt
  rd := L.rd

/-! ### Elements of arguments -/
theorem ElemAt.fr {W w : World} {a : Option Addr} {c : Nat} {cs : List Value} (h : ElemAt W a c cs) (hf : Fr [] W w) : ElemAt w a c cs := by
  intro j hj
  have h1 := h j hj
  rw [List.getElem?_eq_getElem hj] at h1 ⊢
  have hlt := World.block_lt_of_cell? _ _ h1
  rw [World.cell?_of_block (hf.block _ hlt (by simp))]
  exact h1
theorem sl_view {α : Type} {e : TypeId} {L : Lay α} {W : World} {a : Option Addr} {xss : List (List α)} (h : Rd (sl e L) W a xss) {k : Nat} {x : List α} (hk : xss[k]? = some x) :
    ∃ (a1 : Option Addr) (c1 : Nat), ElemAt W a (k * 1) [.slice a1 x.length c1] ∧ Rd L W a1 x ∧ x.length ≤ c1 := by
  obtain ⟨cs, g, ⟨a1, c1, rfl, h1⟩, h2⟩ := h.elem hk
  simp only [Bool.false_eq_true, if_false] at h1
  exact ⟨a1, c1, h2, ⟨g, h1.2⟩, h1.1⟩

/-! ### Objects whose cells are named -/
def slX {α : Type} (e : TypeId) (L : Lay α) (v : Value) (xs : List α) (cells : List Value) : Ass :=
  ⟨fun w f => ∃ g, ownsR w e L.sz v xs.length cells ∧ f = v.ownBlock.toList ++ g ∧ cellsRep L true w cells xs g ∧ xs.length ≤ maxLen,
    fun w w' f h hb => by
      obtain ⟨g, h1, rfl, h3, h4⟩ := h
      exact ⟨g, h1.st (fun b hm => hb b (List.mem_append.2 (.inl (by simpa using hm)))), rfl, h3.st fun b hm => hb b (List.mem_append.2 (.inr hm)), h4⟩,
    fun w f h => by
      obtain ⟨g, h1, rfl, h3, h4⟩ := h
      exact SlO.lt ⟨cells, g, h1, rfl, h3, h4⟩⟩
section rules
variable {P : Program} {N : Nat} {W : World} {S0 : List Nat} {Q : Exit → Act → World → Prop} {T : Tm} {L : Bx} {C : List Ass} {ops : Array Oper} {K : Act → World → Prop} {α : Type}
theorem PIN {e : TypeId} {La : Lay α} {v : Value} {xs : List α} (j : Nat) (R : List Ass) (hp : pulls [j] C = some ([slA e La v xs], R)) (k : ∀ cells, G N W S0 K T L (R ++ [slX e La v xs cells])) : G N W S0 K T L C := by
  rintro a w ⟨bs, fps, ht, hb, hm⟩
  obtain ⟨xps, hx, hnx, hex⟩ := hm.exch hp
  match xps, hx with
  | [fp], ⟨⟨cells, g, h1, h2, h3, h4⟩, _⟩ =>
    obtain ⟨fps', hmem⟩ := hex w [slX e La v xs cells] [fp] ⟨⟨g, h1, h2, h3, h4⟩, trivial⟩ hnx (fun b hb _ => hb) (Fr.refl _ _)
    exact k cells a w ⟨bs, fps', ht, hb, hmem⟩
theorem UNPIN {e : TypeId} {La : Lay α} {v : Value} {xs : List α} {cells : List Value} (j : Nat) (R : List Ass) (hp : pulls [j] C = some ([slX e La v xs cells], R)) (k : G N W S0 K T L (R ++ [slA e La v xs])) : G N W S0 K T L C := by
  rintro a w ⟨bs, fps, ht, hb, hm⟩
  obtain ⟨xps, hx, hnx, hex⟩ := hm.exch hp
  match xps, hx with
  | [fp], ⟨⟨g, h1, h2, h3, h4⟩, _⟩ =>
    obtain ⟨fps', hmem⟩ := hex w [slA e La v xs] [fp] ⟨⟨cells, g, h1, h2, h3, h4⟩, trivial⟩ hnx (fun b hb _ => hb) (Fr.refl _ _)
    exact k a w ⟨bs, fps', ht, hb, hmem⟩
end rules
section
variable {α : Type} {e : TypeId} {L : Lay α} {w : World} {a : Option Addr} {n c : Nat} {cells : List Value}
theorem take_one {cells : List Value} {k : Nat} {v : Value} (h : cells[k]? = [v][0]?) : (cells.drop k).take 1 = [v] := by
  simp at h
  obtain ⟨hk, rfl⟩ := List.getElem?_eq_some_iff.1 h
  rw [List.drop_eq_getElem_cons hk]
  rfl
theorem slX.elem {xs : List α} (h : ∃ f, (slX e L (.slice a n c) xs cells).φ w f) {k : Nat} {x : α} (hk : xs[k]? = some x) : ElemAt w a (k * L.sz) ((cells.drop (k * L.sz)).take L.sz) := by
  obtain ⟨f, g, h1, _, h3, _⟩ := h
  have hkl : k < xs.length := (List.getElem?_eq_some_iff.1 hk).1
  rcases h1.2 with ⟨hv, h0⟩ | ⟨b, cap, cur, fz, hv, _⟩
  · omega
  · injection hv with e1 e2 e3
    subst e1; subst e2; subst e3
    have hl := h3.len
    intro j hj
    rw [List.length_take, List.length_drop] at hj
    have hlt : k * L.sz + j < cells.length := by omega
    have := h1.cells (g := b) rfl (k * L.sz + j) cells[k * L.sz + j] (List.getElem?_eq_getElem hlt)
    have ea : (addrOf (some ⟨b, 0, none⟩)).add (k * L.sz + j) = (⟨b, 0, none⟩ : Addr).add (k * L.sz + j) := rfl
    rw [ea, this, List.getElem?_take, if_pos (by omega), List.getElem?_drop, List.getElem?_eq_getElem hlt]
theorem slX.inner {e' : TypeId} {xss : List (List α)} (h : ∃ f, (slX e (sl e' L) (.slice a n c) xss cells).φ w f) {k : Nat} {x : List α} (hk : xss[k]? = some x) : ∃ a1 c1, (cells.drop (k * 1)).take 1 = [.slice a1 x.length c1] ∧ x.length ≤ c1 := by
  obtain ⟨f, g, h1, _, h3, _⟩ := h
  obtain ⟨cs, g', ⟨a1, c1, rfl, hr9⟩, _, hc⟩ := h3.at_ k hk
  refine ⟨a1, c1, ?_, SlO.capE ⟨_, by simpa using hr9⟩⟩
  have h0 := hc 0 (show 0 < 1 by decide)
  have hz : (sl e' L).sz = 1 := rfl
  rw [hz, Nat.add_zero] at h0
  exact take_one h0
theorem slX.rd {e' : TypeId} {xss : List (List α)} (h : ∃ f, (slX e (sl e' L) (.slice a n c) xss cells).φ w f) {k : Nat} {x : List α} (hk : xss[k]? = some x) {a1 : Option Addr} {c1 : Nat} (hc1 : (cells.drop (k * 1)).take 1 = [.slice a1 x.length c1]) : Rd L w a1 x := by
  obtain ⟨f, g, h1, _, h3, _⟩ := h
  obtain ⟨cs, g', ⟨a2, c2, rfl, hr⟩, _, hc⟩ := h3.at_ k hk
  have h0 := hc 0 (show 0 < 1 by decide)
  have hz : (sl e' L).sz = 1 := rfl
  rw [hz, Nat.add_zero] at h0
  rw [take_one h0] at hc1
  injection hc1 with hc1 _
  injection hc1 with e1 e2 e3
  subst e1
  obtain ⟨_, _, f'', hv, _, hr'⟩ := SlO.rd (by simpa using hr)
  injection hv with e4 e5 e6
  subst e4
  exact ⟨f'', hr'⟩
end

/-! ### Stores of whole elements -/
theorem cellsRep.set {α : Type} {L : Lay α} {w : World} {z : α} {cs : List Value} {fz : List Nat} (hz : L.rep true w cs z fz) : ∀ {xs : List α} {cells g} (k : Nat), k < xs.length → cellsRep L true w cells xs g →
    ∃ g', cellsRep L true w (setCells cells (k * L.sz) cs) (xs.set k z) g' ∧ ∃ r, r.Sublist g ∧ g'.Perm (r ++ fz)
  | [], cells, g, k, hk, _ => by simp at hk
  | x :: xs, cells, g, 0, _, ⟨c1, rest, f1, f2, h1, h2, h3, h4⟩ => by
    subst h1; subst h2
    have hl1 := L.len h3
    have hl2 := L.len hz
    have hset : setCells (c1 ++ rest) (0 * L.sz) cs = cs ++ rest := by
      rw [Nat.zero_mul, setCells_left _ _ _ _ (by omega)]
      congr 1
      have := setCells_take cs c1 0 (by omega)
      rw [Nat.zero_add, List.take_of_length_le (by rw [setCells_length]; omega)] at this
      simpa using this
    rw [hset]
    exact ⟨fz ++ f2, ⟨cs, rest, fz, f2, rfl, rfl, hz, h4⟩, f2, List.sublist_append_right _ _, List.perm_append_comm⟩
  | x :: xs, cells, g, k + 1, hk, ⟨c1, rest, f1, f2, h1, h2, h3, h4⟩ => by
    subst h1; subst h2
    obtain ⟨g', hg', r, hr, hp⟩ := cellsRep.set hz k (by simpa using hk) h4
    have hl1 := L.len h3
    have hset : setCells (c1 ++ rest) ((k + 1) * L.sz) cs = c1 ++ setCells rest (k * L.sz) cs := by
      rw [show (k + 1) * L.sz = c1.length + k * L.sz by rw [hl1, Nat.add_mul]; omega]
      exact setCells_append c1 rest cs (k * L.sz)
    rw [hset]
    exact ⟨f1 ++ g', ⟨c1, _, f1, g', rfl, rfl, h3, hg'⟩, f1 ++ r, List.Sublist.append_left hr f1, by rw [List.append_assoc]; exact hp.append_left f1⟩
section rules
variable {P : Program} {N : Nat} {W : World} {S0 : List Nat} {Q : Exit → Act → World → Prop} {T : Tm} {L : Bx} {C : List Ass} {ops : Array Oper} {K : Act → World → Prop} {α : Type}
theorem STOREN {i : Nat} (t : TypeId) (x y : Operand) (ty : TypeId) (ho : opAt ops T i = some (.store t x y, none, ty)) (e : TypeId) (La : Lay α) (a : Option Addr) (n cap k : Nat) (xs : List α) (js : List Nat) (pre R : List Ass) (hp : pulls js C = some (slA e La (.slice a n cap) xs :: pre, R))
    (z : α) (hk : k < xs.length) (v : Value) (hx : evo T x = some (.e a (k * La.sz) 0)) (hy : evv T y = some v) (hi : (P.info? t).map (·.size) = some v.cells.size)
    (hrep : ∀ w fps, holds w pre fps → La.rep true w v.cells.toList z fps.flatten)
    (k' : G N W S0 K T L (R ++ [slA e La (.slice a n cap) (xs.set k z)])) : OP P N W S0 ops Q i K T L C := by
  refine STEPM (js := js) (ι := Unit) (val := fun _ => undef) (own := fun _ => [slA e La (.slice a n cap) (xs.set k z)]) _ none _ ho (by rintro _ ⟨⟩) hp ?_ (fun _ => k')
  intro ac o bs w fps hev hop hty hat hown hnd
  match fps, hown with
  | fp :: fps, ⟨⟨cells, g, hrow, hfp, hcr, hlen⟩, hpre⟩ =>
    have hz := hrep w fps hpre
    rcases hrow.2 with ⟨hv, h0⟩ | ⟨b, cap', cur, fz, hv, _, _⟩
    · omega
    · injection hv with e1 e2 e3
      subst e1; subst e2; subst e3
      obtain ⟨inf, hinf, hsz⟩ := Option.map_eq_some_iff.1 hi
      have hzl := La.len hz
      have hcl := hcr.len
      have hone : v.cells.toList.all isCell = true := List.all_eq_true.2 (La.one hz)
      have hkm : (k + 1) * La.sz ≤ xs.length * La.sz := Nat.mul_le_mul_right _ hk
      rw [Nat.add_mul] at hkm
      obtain ⟨w', hr, hrow', hg⟩ := run_storeCells_row (P := P) v.cells.toList w 0 (k * La.sz) _ hrow hone (by rw [Nat.add_zero, hzl]; omega)
      have hnd2 := List.nodup_append.1 (by simpa using hnd : (fp ++ fps.flatten).Nodup)
      have hndf := hnd2.1
      rw [hfp] at hndf
      have hb0 : (Value.slice (some ⟨b, 0, none⟩) xs.length cap).ownBlock.toList = [b] := by simp [Value.ownBlock]
      rw [hb0] at hndf hfp
      have hbg : b ∉ g := by simp only [List.singleton_append, List.nodup_cons] at hndf; exact hndf.1
      have hgn : g.Nodup := by simp only [List.singleton_append, List.nodup_cons] at hndf; exact hndf.2
      have hbf : ∀ q ∈ fps.flatten, q ≠ b := fun q hq he => hnd2.2.2 b (by rw [hfp]; simp) q hq he.symm
      have hltz : ∀ q ∈ fps.flatten, q < w.heap.size := La.lt hz
      have hz' : La.rep true w' v.cells.toList z fps.flatten := La.st hz fun q hq => hg.block q (hltz q hq) (fun he => hbf q hq (by injection he))
      have hcr' : cellsRep La true w' cells xs g := hcr.st fun q hq => hg.block q (hcr.lt q hq) (fun he => by injection he with he; subst he; exact hbg hq)
      obtain ⟨g', hg', r, hrs, hperm⟩ := cellsRep.set hz' k hk hcr'
      have hmem : ∀ q ∈ g', q ∈ g ∨ q ∈ fps.flatten := fun q hq => (List.mem_append.1 (hperm.subset hq)).imp (fun h => hrs.subset h) id
      refine ⟨(), w', .skip, [[b] ++ g'], ?_, .inr ⟨rfl, rfl⟩, ⟨⟨_, g', ?_, by rw [hb0], hg', by simpa using hlen⟩, trivial⟩, ?_, ?_, ?_⟩
      · have h1 : ac.eval x = .pointer (some ⟨b, k * La.sz, none⟩) := by rw [hev x _ hx]; simp [den, addrOf, add_lit]
        have h2 : ac.eval y = v := hev y _ (evo_of_evv hy)
        simp only [execOp, hop, h1, h2, Instr.storeAt, Instr.sureAddr, Sem.run_bind, Sem.run_pure, Result.andThen_ok, storeVar, run_sizeOf hinf, hsz]
        simp [hr, Sem.run_pure]
      · rw [List.length_set]
        simpa using hrow'
      · simp only [List.flatten_cons, List.flatten_nil, List.append_nil, List.singleton_append, List.nodup_cons]
        refine ⟨fun hq => ?_, hperm.nodup_iff.2 (List.nodup_append.2 ⟨hrs.nodup hgn, hnd2.2.1, fun p hp q hq he => ?_⟩)⟩
        · rcases hmem b hq with h | h
          · exact hbg h
          · exact hbf b h rfl
        · exact hnd2.2.2 p (by rw [hfp]; simp [hrs.subset hp]) q hq he
      · intro q hq _
        simp only [List.flatten_cons, List.flatten_nil, List.append_nil, List.mem_append, List.mem_singleton] at hq ⊢
        rw [hfp]
        rcases hq with h | h
        · simp [h]
        · rcases hmem q h with h | h
          · simp [h]
          · exact .inr h
      · refine ⟨hg.os, hg.tape, hg.output, hg.size, fun q hq hne => hg.block q hq (fun he => hne ?_)⟩
        injection he with he
        subst he
        simp [hfp]
end rules
theorem nestRep {α : Type} {e e' : TypeId} {L : Lay α} {a : Option Addr} {c : Nat} {x : List α} : ∀ w fps, holds w [slA e L (.slice a x.length c) x] fps → (sl e L).rep true w [.slice a x.length c] x fps.flatten := by
  intro w fps h
  match fps, h with
  | [f], ⟨h1, _⟩ => exact ⟨a, c, rfl, by simp only [if_true, List.flatten_cons, List.flatten_nil, List.append_nil]; exact h1⟩
theorem oneRep {α : Type} {L : Lay α} {pre : List Ass} {cells : List Value} {x : α} (h : ∀ w fps, holds w pre fps → L.rep true w cells x fps.flatten) : ∀ w fps, holds w pre fps → cellsRep L true w cells [x] fps.flatten :=
  fun w fps hf => ⟨cells, [], fps.flatten, [], by simp, by simp, h w fps hf, rfl, rfl⟩
end SX
end Go.Proofs.YtcbpmjfjdjpalaaGreat
