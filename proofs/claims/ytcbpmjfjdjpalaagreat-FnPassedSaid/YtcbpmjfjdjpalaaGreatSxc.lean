/- Cursors over the bytes of a draw: an object behind a pointer that is handed from call to call. It imports no program. -/
import Derived.Test.YtcbpmjfjdjpalaaGreatSxh
namespace Go.Proofs.YtcbpmjfjdjpalaaGreat
namespace SX
set_option linter.unusedVariables false
set_option linter.unusedSimpArgs false
open Go Go.RowKit

/-- a block that holds these cells -/
def ptC (b : Nat) (t : TypeId) (cells : List Value) : Ass :=
  ⟨fun w f => f = [b] ∧ w.heap[b]? = some (.cells cells.toArray t (0, 0)), fun _ _ _ h hb => ⟨h.1, by rw [hb b (by rw [h.1]; simp)]; exact h.2⟩, fun w f h x hx => by
    rw [h.1] at hx; simp at hx; subst hx; exact (Array.getElem?_eq_some_iff.1 h.2).1⟩
/-- where the bytes of a draw lie -/
structure Cd where
  lo : Nat
  t : TypeId
  a : Option Addr
  n : Nat
  c : Nat
def RdLo (W : World) (lo : Nat) (a : Option Addr) (xs : List UInt8) : Prop := ∃ f, SlR byteL W a xs f ∧ ∀ x ∈ f, x < lo
theorem RdLo.rd {W w : World} {S0 : List Nat} {lo : Nat} {a : Option Addr} {xs : List UInt8} (h : RdLo W lo a xs) (hf : Fr S0 W w) (hS : ∀ x ∈ S0, lo ≤ x) : Rd byteL w a xs := by
  obtain ⟨f, hs, hl⟩ := h
  exact ⟨f, hs.st fun b hb => hf.block b (hs.lt b hb) (fun hm => by have := hl b hb; have := hS b hm; omega)⟩
theorem RdLo.rd0 {W : World} {lo : Nat} {a : Option Addr} {xs : List UInt8} (h : RdLo W lo a xs) : Rd byteL W a xs := let ⟨f, hs, _⟩ := h; ⟨f, hs⟩
def CodeOk (W : World) (d : Cd) : Prop := ∃ xs : List UInt8, xs.length = d.n ∧ RdLo W d.lo d.a xs
theorem CodeOk.fr {W w : World} {S0 : List Nat} {d : Cd} (h : CodeOk W d) (hf : Fr S0 W w) (hS : ∀ x ∈ S0, d.lo ≤ x) : CodeOk w d := by
  obtain ⟨xs, hn, f, hs, hl⟩ := h
  exact ⟨xs, hn, f, hs.st fun b hb => hf.block b (hs.lt b hb) (fun hm => by have := hl b hb; have := hS b hm; omega), hl⟩
theorem CodeOk.of {W w : World} {t : TypeId} {a : Option Addr} {c : Nat} {xs : List UInt8} (h : Rd byteL W a xs) (hf : Fr [] W w) : CodeOk w ⟨W.heap.size, t, a, xs.length, c⟩ := by
  obtain ⟨f, hs⟩ := h
  exact ⟨xs, rfl, f, hs.fr hf, hs.lt⟩
/-- a cursor -/
def curA (d : Cd) (p : Value) : Ass :=
  ⟨fun w f => ∃ b i h, p = .pointer (some ⟨b, 0, none⟩) ∧ 0 ≤ i ∧ d.lo ≤ b ∧ (ptC b d.t [.slice d.a d.n d.c, vi i, vi h]).φ w f,
    fun w w' f ⟨b, i, h, h1, h2, h3, h4⟩ hb => ⟨b, i, h, h1, h2, h3, (ptC b d.t _).st w w' f h4 hb⟩, fun w f ⟨b, i, h, h1, h2, h3, h4⟩ => (ptC b d.t _).lt w f h4⟩

/-- what is read beside a cursor -/
def RdP {α : Type} (W : World) (p : Value) (L : Lay α) (a : Option Addr) (xs : List α) : Prop := ∃ f, SlR L W a xs f ∧ ∀ b, p = .pointer (some ⟨b, 0, none⟩) → b ∉ f
section
variable {α : Type} {L : Lay α} {W w : World} {S0 : List Nat} {C : List Ass} {p : Value} {a : Option Addr} {xs : List α}
theorem RdP.rd0 (h : RdP W p L a xs) : Rd L W a xs := let ⟨f, hs, _⟩ := h; ⟨f, hs⟩
theorem RdP.len (h : RdP W p L a xs) : xs.length ≤ 9223372036854775807 := Rd.len h.rd0
theorem RdP.fr (h : RdP W p L a xs) (hf : Fr S0 W w) (hP : ∀ x ∈ S0, p = .pointer (some ⟨x, 0, none⟩)) : RdP w p L a xs := by
  obtain ⟨f, hs, hn⟩ := h
  exact ⟨f, hs.st fun b hb => hf.block b (hs.lt b hb) (fun hm => hn b (hP b hm) hb), hn⟩
theorem RdP.rd (h : RdP W p L a xs) (hf : Fr S0 W w) (hP : ∀ x ∈ S0, p = .pointer (some ⟨x, 0, none⟩)) : Rd L w a xs := (h.fr hf hP).rd0
theorem RdP.nil (W : World) (p : Value) (L : Lay α) : RdP W p L none [] := ⟨[], ⟨by simp [maxLen], .inl ⟨rfl, rfl⟩⟩, by simp⟩
theorem holds.mem {w : World} : ∀ {C : List Ass} {fps : List (List Nat)} (i : Nat) {A : Ass}, holds w C fps → C[i]? = some A → ∃ g, A.φ w g ∧ g ∈ fps
  | A :: _, f :: _, 0, _, h, hi => by simp at hi; subst hi; exact ⟨f, h.1, by simp⟩
  | _ :: _, _ :: _, i + 1, _, h, hi => by
    obtain ⟨g, hg, hm⟩ := holds.mem i h.2 (by simpa using hi)
    exact ⟨g, hg, by simp [hm]⟩
  | [], _, _, _, _, hi => by simp at hi
  | _ :: _, [], _, _, h, _ => h.elim
theorem holds.nth2 {w : World} : ∀ {C : List Ass} {fps : List (List Nat)} (i j : Nat) {A B : Ass}, holds w C fps → fps.flatten.Nodup → C[i]? = some A → C[j]? = some B → i ≠ j → ∃ f g, A.φ w f ∧ B.φ w g ∧ ∀ x ∈ f, x ∉ g
  | A :: C, f :: fps, 0, 0, _, _, _, _, _, _, hne => absurd rfl hne
  | A :: C, f :: fps, 0, j + 1, _, B, h, hn, hi, hj, _ => by
    simp at hi; subst hi
    have hn' := List.nodup_append.1 (by simpa using hn : (f ++ fps.flatten).Nodup)
    obtain ⟨g, hg, hs⟩ : ∃ g, B.φ w g ∧ g ∈ fps := holds.mem j h.2 (by simpa using hj)
    exact ⟨f, g, h.1, hg, fun x hx hxg => hn'.2.2 x hx x (List.mem_flatten.2 ⟨g, hs, hxg⟩) rfl⟩
  | A :: C, f :: fps, i + 1, 0, _, B, h, hn, hi, hj, _ => by
    simp at hj; subst hj
    have hn' := List.nodup_append.1 (by simpa using hn : (f ++ fps.flatten).Nodup)
    obtain ⟨g, hg, hs⟩ := holds.mem i h.2 (by simpa using hi)
    exact ⟨g, f, hg, h.1, fun x hx hxf => hn'.2.2 x hxf x (List.mem_flatten.2 ⟨g, hs, hx⟩) rfl⟩
  | A :: C, f :: fps, i + 1, j + 1, _, _, h, hn, hi, hj, hne => by
    have hn' := List.nodup_append.1 (by simpa using hn : (f ++ fps.flatten).Nodup)
    exact holds.nth2 i j h.2 hn'.2.1 (by simpa using hi) (by simpa using hj) (by omega)
  | [], _, _, _, _, _, _, _, hi, _, _ => by simp at hi
  | _ :: _, [], _, _, _, _, h, _, _, _, _ => h.elim
theorem RdP.own {e : TypeId} {n c : Nat} {d : Cd} (hw : At W S0 C w) (i j : Nat) (hi : C[i]? = some (slA e L (.slice a n c) xs)) (hj : C[j]? = some (curA d p)) (hij : i ≠ j) : RdP w p L a xs := by
  obtain ⟨fps, hh, hn, _⟩ := hw.ch
  obtain ⟨f, g, hf, hg, hd⟩ := holds.nth2 i j hh hn hi hj hij
  obtain ⟨a', c', f', hv, hsub, hr⟩ := SlO.rd hf
  injection hv with e1 e2 e3
  subst e1
  obtain ⟨b, _, _, h1, _, _, h4, _⟩ := hg
  refine ⟨f', hr, fun b' hb' hm => ?_⟩
  rw [h1] at hb'
  injection hb' with hb'
  injection hb' with hb'
  injection hb' with hb'
  subst hb'
  exact hd _ (hsub _ hm) (by rw [h4]; simp)
end

section rules
variable {P : Program} {N : Nat} {W : World} {S0 : List Nat} {Q : Exit → Act → World → Prop} {T : Tm} {L : Bx} {C : List Ass} {ops : Array Oper} {K : Act → World → Prop}

/-- the entry of a function that takes a cursor -/
theorem ENTERC {f : FuncId} {fn : Func} {c : Code} {vs : List Value} {d : Cd} {p : Value} {r : Res} (hf : P.funcs[f]? = some fn) (hb : fn.body = some c) (hn : fn.ntmps = N) (hl : vs.length ≤ N)
    (k : ∀ S0, (∀ x ∈ S0, d.lo ≤ x) → (∀ x ∈ S0, p = .pointer (some ⟨x, 0, none⟩)) → CODE P N W S0 c (bodyPost P fn (RetM S0 r W)) (argsT 0 vs) [] [curA d p]) : Spec P W [curA d p] f vs.toArray r := by
  intro fps hh hnd
  have hS : ∀ x ∈ fps.flatten, d.lo ≤ x := by
    match fps, hh with
    | [fp], ⟨⟨b, i, h, h1, h2, h3, h4, h5⟩, _⟩ =>
      subst h4
      intro x hx
      simp at hx; subst hx; exact h3
  have hP : ∀ x ∈ fps.flatten, p = .pointer (some ⟨x, 0, none⟩) := by
    match fps, hh with
    | [fp], ⟨⟨b, i, h, h1, h2, h3, h4, h5⟩, _⟩ =>
      subst h4
      intro x hx
      simp at hx; subst hx; exact h1
  refine calls_of_wp hf hb (k _ hS hP _ _ ⟨[], fps, ⟨rfl, ?_, fun i x hx => ?_⟩, bounded_argsT _ _ _, ⟨Fr.refl _ _, trivial, hh, by simpa using hnd, fun b hbm _ => by simpa using hbm⟩⟩)
  · simp [hn]; omega
  · obtain ⟨_, v, hv, rfl⟩ := lk_argsT vs 0 i x hx
    have hlt : i < vs.length := (List.getElem?_eq_some_iff.1 hv).1
    simp only [Nat.sub_zero] at hv
    show _ = some v
    rw [← hv]
    simp [Array.getElem?_append, hlt]

/-- what a cursor holds -/
theorem OPENCUR {d : Cd} {p : Value} (j : Nat) (R : List Ass) (hp : pulls [j] C = some ([curA d p], R)) (k : ∀ b i h, p = .pointer (some ⟨b, 0, none⟩) → 0 ≤ i → d.lo ≤ b → G N W S0 K T L (R ++ [ptC b d.t [.slice d.a d.n d.c, vi i, vi h]])) : G N W S0 K T L C := by
  rintro a w ⟨bs, fps, ht, hb, hm⟩
  obtain ⟨xps, hx, hnx, hex⟩ := hm.exch hp
  match xps, hx with
  | [fp], ⟨⟨b, i, h, h1, h2, h3, h4⟩, _⟩ =>
    obtain ⟨fps', hmem⟩ := hex w [ptC b d.t [.slice d.a d.n d.c, vi i, vi h]] [fp] ⟨h4, trivial⟩ hnx (fun b hb _ => hb) (Fr.refl _ _)
    exact k b i h h1 h2 h3 a w ⟨bs, fps', ht, hb, hmem⟩
theorem CLOSECUR {d : Cd} {b : Nat} {i h : Int} (j : Nat) (R : List Ass) (hp : pulls [j] C = some ([ptC b d.t [.slice d.a d.n d.c, vi i, vi h]], R)) (hi : 0 ≤ i) (hlo : d.lo ≤ b) (k : G N W S0 K T L (R ++ [curA d (.pointer (some ⟨b, 0, none⟩))])) : G N W S0 K T L C := by
  rintro a w ⟨bs, fps, ht, hb, hm⟩
  obtain ⟨xps, hx, hnx, hex⟩ := hm.exch hp
  match xps, hx with
  | [fp], ⟨h4, _⟩ =>
    obtain ⟨fps', hmem⟩ := hex w [curA d (.pointer (some ⟨b, 0, none⟩))] [fp] ⟨⟨b, i, h, rfl, hi, hlo, h4⟩, trivial⟩ hnx (fun b hb _ => hb) (Fr.refl _ _)
    exact k a w ⟨bs, fps', ht, hb, hmem⟩
/-- a pointer into a block, seen as one into a row -/
theorem ASE {d b : Nat} (hd : lk T d = some (.v (.pointer (some ⟨b, 0, none⟩)))) (k : G N W S0 K ((d, .e (some ⟨b, 0, none⟩) 0 0) :: T) L C) : G N W S0 K T L C := by
  rintro a w ⟨bs, fps, ht, hb, hm⟩
  refine k a w ⟨bs, fps, ⟨ht.1, ht.2.1, fun i x hx => ?_⟩, hb, hm⟩
  simp only [lk] at hx
  by_cases hk : d = i
  · subst hk
    simp at hx; subst hx
    have := ht.2.2 d _ hd
    rw [this]
    simp [den, addrOf, add_lit]
  · have : (d == i) = false := by simpa using hk
    simp only [this, Bool.false_eq_true, if_false] at hx
    exact ht.2.2 i x hx
theorem ptC_elem {b : Nat} {t : TypeId} {cells : List Value} {w : World} (h : ∃ f, (ptC b t cells).φ w f) : ElemAt w (some ⟨b, 0, none⟩) 0 cells := by
  obtain ⟨f, _, hh⟩ := h
  intro j hj
  have e : (addrOf (some ⟨b, 0, none⟩)).add (0 + j) = ⟨b, j, none⟩ := by simp [addrOf, add_lit]
  rw [e]
  simp only [World.cell?, hh]
  simp
/-- a store into the block -/
theorem STOREC {i : Nat} (t : TypeId) (x y : Operand) (ty : TypeId) (ho : opAt ops T i = some (.store t x y, none, ty)) (j : Nat) (R : List Ass) (b off : Nat) (tb : TypeId) (cells cells' : List Value) (hp : pulls [j] C = some ([ptC b tb cells], R))
    (v : Value) (hx : evo T x = some (.e (some ⟨b, 0, none⟩) 0 off)) (hy : evv T y = some v) (hst : storeOf P t cells off v = some cells') (k' : G N W S0 K T L (R ++ [ptC b tb cells'])) : OP P N W S0 ops Q i K T L C := by
  refine STEPM (js := [j]) (ι := Unit) (val := fun _ => undef) (own := fun _ => [ptC b tb cells']) _ none _ ho (by rintro _ ⟨⟩) hp ?_ (fun _ => k')
  intro ac o bs w fps hev hop hty hat hown hnd
  match fps, hown with
  | [fp], ⟨⟨hfp, hh⟩, _⟩ =>
    obtain ⟨w', hrun, hn, hs, h1, h2, h3, h4⟩ := storeOf_run (P := P) hh hst
    have e1 : ac.eval x = .pointer (some ⟨b, off, none⟩) := by rw [hev x _ hx]; simp [den, addrOf, add_lit]
    have e2 : ac.eval y = v := hev y _ (evo_of_evv hy)
    refine ⟨(), w', .skip, [[b]], ?_, .inr ⟨rfl, rfl⟩, ⟨⟨rfl, hn⟩, trivial⟩, by simp, ?_, ?_⟩
    · simp only [execOp, hop, e1, e2, Instr.storeAt, Instr.sureAddr, Sem.run_bind, Sem.run_pure, Result.andThen_ok, hrun]
    · intro c hc _; rw [hfp]; simpa using hc
    · refine ⟨h1, h2, h3, by omega, fun c hc hne => h4 c (fun e => hne (by rw [hfp]; simp [e]))⟩
/-- the one box becomes a block whose number is new -/
theorem BOXOUT {t : TypeId} {cs : List Value} (d : Nat) (hd : lk T d = some (.p 0 0)) (k : ∀ b, W.heap.size ≤ b → G N W [] K [(d, .v (.pointer (some ⟨b, 0, none⟩)))] [] (C ++ [ptC b t cs])) : G N W [] K T [(t, cs)] C := by
  rintro a w ⟨bs, fps, ht, hb, hm⟩
  match bs, hm.bx with
  | [b], ⟨hb1, _⟩ =>
    have hnew : W.heap.size ≤ b := by
      rcases Nat.lt_or_ge b W.heap.size with h | h
      · have := hm.new b (by simp) h; cases this
      · exact h
    refine k b hnew a w ⟨[], fps ++ [[b]], ⟨ht.1, ht.2.1, fun i x hx => ?_⟩, ?_, ⟨hm.fr, trivial, hm.ch.append ⟨⟨rfl, hb1⟩, trivial⟩, ?_, ?_⟩⟩
    · simp only [lk] at hx
      by_cases hk : d = i
      · subst hk
        simp at hx; subst hx
        rw [ht.2.2 d _ hd]
        simp [den]
      · have : (d == i) = false := by simpa using hk
        simp [this] at hx
    · simp [bounded]
    · have := hm.nd
      simp only [List.singleton_append, List.nodup_cons, List.nil_append, List.flatten_append, List.flatten_cons, List.flatten_nil, List.append_nil] at this ⊢
      exact List.nodup_append.2 ⟨this.2, by simp, fun x hx y hy e => by simp at hy; subst hy; subst e; exact this.1 hx⟩
    · intro x hx hlt
      simp only [List.nil_append, List.flatten_append, List.flatten_cons, List.flatten_nil, List.append_nil, List.mem_append, List.mem_singleton] at hx
      refine hm.new x ?_ hlt
      rcases hx with h | h
      · simp [h]
      · simp [h]
end rules
theorem and255 (a : Int) : 0 ≤ wr (((BitVec.ofInt 64 a &&& BitVec.ofInt 64 255).toNat : Nat) : Int) ∧ wr (((BitVec.ofInt 64 a &&& BitVec.ofInt 64 255).toNat : Nat) : Int) < 256 := by
  have h : (BitVec.ofInt 64 a &&& BitVec.ofInt 64 255).toNat ≤ 255 := by
    rw [BitVec.toNat_and]
    exact Nat.le_trans Nat.and_le_right (by decide)
  rw [wr_of (by omega) (by omega)]
  omega
end SX
end Go.Proofs.YtcbpmjfjdjpalaaGreat
