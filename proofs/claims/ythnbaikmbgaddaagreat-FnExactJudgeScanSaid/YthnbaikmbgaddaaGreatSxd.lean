/- Runs that name what is new alone. It imports no program. -/
import Derived.Test.YthnbaikmbgaddaaGreatSxo
namespace Go.Proofs.YthnbaikmbgaddaaGreat
namespace SX
set_option linter.unusedVariables false
set_option linter.unusedSimpArgs false
open Go Go.RowKit
theorem put_app {N : Nat} {T T' : Tm} {d : Option Nat} {x : SV} (h : put N T d x = some T') : ∃ A, T' = A ++ T := by
  rcases lk_put h with ⟨_, rfl⟩ | ⟨k, _, _, rfl⟩
  · exact ⟨[], rfl⟩
  · exact ⟨[(k, x)], rfl⟩
theorem map_app {N : Nat} {T T' : Tm} {d : Option Nat} {x : SV} {L L' : Bx} (h : (put N T d x).map (·, L) = some (T', L')) : ∃ A, T' = A ++ T := by
  obtain ⟨T1, h1, h2⟩ := Option.map_eq_some_iff.1 h
  injection h2 with h2 _
  subst h2
  exact put_app h1
theorem go1_app {P : Program} {N : Nat} {T T' : Tm} {L L' : Bx} {o : Oper} (h : go1 P N T L o = some (T', L')) : ∃ A, T' = A ++ T := by
  unfold go1 at h
  split at h
  · obtain ⟨s, _, h1⟩ := Option.bind_eq_some_iff.1 h; exact map_app h1
  · obtain ⟨s, _, h1⟩ := Option.bind_eq_some_iff.1 h; exact map_app h1
  · split at h
    · exact map_app h
    · exact map_app h
    · cases h
  · split at h
    · exact map_app h
    · exact map_app h
    · cases h
  · split at h
    · split at h
      · obtain ⟨v, _, h1⟩ := Option.bind_eq_some_iff.1 h; exact map_app h1
      · cases h
    · cases h
  · split at h
    · split at h
      · obtain ⟨v, _, h1⟩ := Option.bind_eq_some_iff.1 h; exact map_app h1
      · cases h
    · cases h
  · split at h
    · exact map_app h
    · cases h
  · split at h
    · exact map_app h
    · cases h
  · split at h
    · split at h
      · split at h
        · exact map_app h
        · cases h
      · cases h
    · cases h
theorem step1_app {P : Program} {N : Nat} {ops : Array Oper} {T T' : Tm} {L L' : Bx} {o : Oper} (h : step1 P N ops T L o = some (T', L')) : ∃ A, T' = A ++ T := by
  unfold step1 at h
  split at h
  · exact go1_app h
  · exact map_app h
  · cases h
theorem runP_app {P : Program} {N : Nat} {ops : Array Oper} : ∀ (n : Nat) (is : List Nat) {T T' : Tm} {L L' : Bx}, runP P N ops n is T L = some (T', L') → ∃ A, T' = A ++ T
  | 0, _, T, T', L, L', h => by simp [runP] at h; exact ⟨[], by simp [h.1]⟩
  | n + 1, [], _, _, _, _, h => by simp [runP] at h
  | n + 1, i :: is, T, T', L, L', h => by
    simp only [runP] at h
    split at h
    · split at h
      · rename_i T1 L1 h1
        obtain ⟨A, rfl⟩ := step1_app h1
        obtain ⟨B, rfl⟩ := runP_app n is h
        exact ⟨B ++ A, by simp⟩
      · cases h
    · cases h
theorem runQ_app {P : Program} {N : Nat} {ops : Array Oper} {L : Bx} : ∀ (n i : Nat) {T T' : Tm}, runQ P N ops L n i T = some T' → ∃ A, T' = A ++ T
  | 0, i, T, T', h => by simp [runQ] at h; exact ⟨[], by simp [h]⟩
  | n + 1, i, T, T', h => by
    simp only [runQ] at h
    split at h
    · split at h
      · split at h
        · split at h
          · rename_i h1
            obtain ⟨A, rfl⟩ := go1_app h1
            obtain ⟨B, rfl⟩ := runQ_app n (i + 1) h
            exact ⟨B ++ A, by simp⟩
          · cases h
        · cases h
      · split at h
        · rename_i h1
          obtain ⟨A, rfl⟩ := put_app h1
          obtain ⟨B, rfl⟩ := runQ_app n (i + 1) h
          exact ⟨B ++ A, by simp⟩
        · cases h
      · cases h
    · cases h
/-- what is new in T1, against T: the named slots; what is not named must not have stood in T -/
def newOf (T : Tm) (ks : List Nat) (T1 : Tm) : Option Tm :=
  if (T1.take (T1.length - T.length)).all (fun p => ks.contains p.1 || (lk T p.1).isNone) then keep (T1.take (T1.length - T.length)) ks else none
theorem lk_app : ∀ (A T : Tm) (i : Nat), lk (A ++ T) i = match lk A i with | some x => some x | none => lk T i
  | [], T, i => rfl
  | (k, x) :: A, T, i => by
    simp only [List.cons_append, lk]
    split
    · rfl
    · exact lk_app A T i
theorem lk_mem : ∀ {A : Tm} {i : Nat} {x : SV}, lk A i = some x → (i, x) ∈ A
  | (k, y) :: A, i, x, h => by
    simp only [lk] at h
    split at h
    · rename_i hk
      have : k = i := by simpa using hk
      subst this
      injection h with h
      subst h; simp
    · exact List.mem_cons_of_mem _ (lk_mem h)
theorem keep_has : ∀ {A : Tm} {ks : List Nat} {U : Tm}, keep A ks = some U → ∀ i ∈ ks, (lk U i).isSome = true
  | A, [], U, h, i, hi => by cases hi
  | A, k :: ks, U, h, i, hi => by
    simp only [keep] at h
    split at h
    · rename_i x T' h1 h2
      injection h with h
      subst h
      simp only [lk]
      by_cases hk : k = i
      · simp [hk]
      · have hf : (k == i) = false := by simpa using hk
        simp only [hf, Bool.false_eq_true, if_false]
        rcases List.mem_cons.1 hi with rfl | hi
        · exact absurd rfl hk
        · exact keep_has h2 i hi
    · cases h
theorem newOf_ok {T T1 U : Tm} {ks : List Nat} (h : newOf T ks T1 = some U) (ha : ∃ A, T1 = A ++ T) : ∀ i x, lk (U ++ T) i = some x → lk T1 i = some x := by
  obtain ⟨A, rfl⟩ := ha
  unfold newOf at h
  have hA : (A ++ T).take ((A ++ T).length - T.length) = A := by rw [List.length_append, Nat.add_sub_cancel, List.take_left']; rfl
  rw [hA] at h
  split at h
  · rename_i hall
    intro i x hx
    rw [lk_app] at hx ⊢
    split at hx
    · rename_i y hy
      injection hx with hx
      subst hx
      rw [keep_ok h i y hy]
    · rename_i hU
      split
      · rename_i z hz
        have := List.all_eq_true.1 hall _ (lk_mem hz)
        simp only [Bool.or_eq_true] at this
        rcases this with h1 | h1
        · have h2 := keep_has h i (by simpa using h1)
          rw [hU] at h2; cases h2
        · rw [hx] at h1; cases h1
      · exact hx
  · cases h
theorem bounded_app {n : Nat} : ∀ {A T : Tm}, bounded n (A ++ T) ↔ bounded n A ∧ bounded n T
  | [], T => by simp [bounded]
  | (k, .p i off) :: A, T => by
    simp only [List.cons_append, bounded, bounded_app (A := A) (T := T), and_assoc]
  | (k, .v _) :: A, T => by simp only [List.cons_append, bounded]; exact bounded_app (A := A) (T := T)
  | (k, .e _ _ _) :: A, T => by simp only [List.cons_append, bounded]; exact bounded_app (A := A) (T := T)
theorem newOf_bounded {n : Nat} {T T1 U : Tm} {ks : List Nat} (h : newOf T ks T1 = some U) (ha : ∃ A, T1 = A ++ T) (hb : bounded n T1) : bounded n (U ++ T) := by
  obtain ⟨A, rfl⟩ := ha
  unfold newOf at h
  have hA : (A ++ T).take ((A ++ T).length - T.length) = A := by rw [List.length_append, Nat.add_sub_cancel, List.take_left']; rfl
  rw [hA] at h
  obtain ⟨h1, h2⟩ := bounded_app.1 hb
  split at h
  · exact bounded_app.2 ⟨keep_bounded h1 h, h2⟩
  · cases h
theorem Sat.sub {N : Nat} {W : World} {S0 : List Nat} {T T1 : Tm} {L : Bx} {C : List Ass} {a : Act} {w : World} (h : Sat N W S0 T1 L C a w) (hs : ∀ i x, lk T i = some x → lk T1 i = some x) (hb : bounded L.length T1 → bounded L.length T) : Sat N W S0 T L C a w := by
  obtain ⟨bs, fps, ht, hb1, hm⟩ := h
  exact ⟨bs, fps, ⟨ht.1, ht.2.1, fun i x hx => ht.2.2 i x (hs i x hx)⟩, hb hb1, hm⟩
def runD (P : Program) (N : Nat) (ops : Array Oper) (n : Nat) (is : List Nat) (T : Tm) (L : Bx) (ks : List Nat) : Option (Tm × Bx) :=
  match runP P N ops n is T L with
  | some (T', L') => (newOf T ks T').map (·, L')
  | none => none
theorem runD_ok {P : Program} {N : Nat} {ops : Array Oper} {n : Nat} {is : List Nat} {T U : Tm} {L L' : Bx} {ks : List Nat} (h : runD P N ops n is T L ks = some (U, L')) : ∃ T1, runP P N ops n is T L = some (T1, L') ∧ newOf T ks T1 = some U := by
  unfold runD at h
  split at h
  · rename_i T1 L1 h1
    obtain ⟨U1, h2, h3⟩ := Option.map_eq_some_iff.1 h
    injection h3 with h3 h4
    subst h3; subst h4
    exact ⟨T1, h1, h2⟩
  · cases h
section rules
variable {P : Program} {N : Nat} {W : World} {S0 : List Nat} {Q : Exit → Act → World → Prop} {T : Tm} {L : Bx} {C : List Ass} {ops : Array Oper}
theorem RUL (n : Nat) {is : List Nat} (js : List Nat) (U : Tm) (L' : Bx) (h : runD P N ops n is T L (U.map (·.1)) = some (U, L')) (hj : is.drop n = js) (k : OPS P N W S0 ops Q js (U ++ T) L' C) : OPS P N W S0 ops Q is T L C := by
  obtain ⟨T1, h1, h2⟩ := runD_ok h
  subst hj
  have ha := runP_app n is h1
  exact runP_ok n is h1 fun a w hs => k a w (hs.sub (newOf_ok h2 ha) (newOf_bounded h2 ha))
theorem RU (n : Nat) {is : List Nat} (js : List Nat) (U : Tm) (h : runD P N ops n is T L (U.map (·.1)) = some (U, L)) (hj : is.drop n = js) (k : OPS P N W S0 ops Q js (U ++ T) L C) : OPS P N W S0 ops Q is T L C := RUL n js U L h hj k
theorem QRU (n i j : Nat) (U : Tm) (h : (runQ P N ops L n i T).bind (fun T1 => newOf T (U.map (·.1)) T1) = some U) (hj : i + n = j) (k : QO P N W S0 ops Q j (U ++ T) L C) : QO P N W S0 ops Q i T L C := by
  obtain ⟨T1, h1, h2⟩ := Option.bind_eq_some_iff.1 h
  subst hj
  have ha := runQ_app n i h1
  refine runQ_ok n i h1 fun bs a ht hb hl => k bs a ⟨ht.1, ht.2.1, fun i x hx => ht.2.2 i x (newOf_ok h2 ha i x hx)⟩ (newOf_bounded h2 ha hb) hl
end rules
def takeD (P : Program) (N : Nat) (ops : Array Oper) (T : Tm) (L : Bx) (i : Nat) (ks : List Nat) : Option Tm :=
  match ops[i]? with
  | some o => match wants ops T o with
    | some true => if stillOp o.op then (match go1 P N T L o with | some (T', _) => newOf T ks T' | none => none) else none
    | _ => none
  | none => none
theorem HPU {P : Program} {N : Nat} {W : World} {S0 : List Nat} {Q : Exit → Act → World → Prop} {T : Tm} {L : Bx} {C C0 : List Ass} {ops : Array Oper} {fuel : Nat} {listed : Array Bool} (i : Nat) (U : Tm) (h : takeD P N ops T L i (U.map (·.1)) = some U) (hk : (Region.noSelect ops && Region.free .any ops listed i && (Region.ready .any ops listed).contains i) = true) {js : List Nat} (hC : (pulls js C).map (·.1) = some C0)
    (k : H P N W S0 ops Q C0 fuel (listed.setIfInBounds i true) (U ++ T) L C) : H P N W S0 ops Q C0 (fuel + 1) listed T L C := by
  rintro a w ⟨bs, fps, ht, hb, hm⟩
  unfold takeD at h
  split at h
  · rename_i o hi
    split at h
    · rename_i hw
      split at h
      · rename_i hq
        split at h
        · rename_i T1 L1 h1
          have ha := go1_app h1
          obtain ⟨v, hr, ht', hb'⟩ := go1h hq h1 ht hb
          simp only [Bool.and_eq_true] at hk
          refine wpAnyH_take (v := v) hi hk.1.1 hk.1.2 hk.2 (fun c a w h => h.elim) (.inl ⟨wants_ok hw ht, fun w' _ => hr w'⟩) (at_take hm.at_ hC) ?_
          exact k _ _ ⟨bs, fps, ⟨ht'.1, ht'.2.1, fun i x hx => ht'.2.2 i x (newOf_ok h ha i x hx)⟩, newOf_bounded h ha hb', hm⟩
        · cases h
      · cases h
    · cases h
  · cases h
section short
variable {P : Program} {N : Nat} {W : World} {S0 : List Nat} {Q : Exit → Act → World → Prop} {T : Tm} {L : Bx} {C : List Ass} {ops : Array Oper}
theorem UU (n : Nat) {is : List Nat} (U : Tm) (k : OPS P N W S0 ops Q (is.drop n) (U ++ T) L C) (h : runD P N ops n is T L (U.map (·.1)) = some (U, L) := by kernel_rfl) : OPS P N W S0 ops Q is T L C := RUL n _ U L h rfl k
theorem UL (n : Nat) {is : List Nat} (U : Tm) (L' : Bx) (k : OPS P N W S0 ops Q (is.drop n) (U ++ T) L' C) (h : runD P N ops n is T L (U.map (·.1)) = some (U, L') := by kernel_rfl) : OPS P N W S0 ops Q is T L C := RUL n _ U L' h rfl k
theorem QU {i : Nat} (n : Nat) (U : Tm) (k : QO P N W S0 ops Q (i + n) (U ++ T) L C) (h : (runQ P N ops L n i T).bind (fun T1 => newOf T (U.map (·.1)) T1) = some U := by kernel_rfl) : QO P N W S0 ops Q i T L C := QRU n i _ U h rfl k
theorem HP {C0 : List Ass} {fuel : Nat} {listed : Array Bool} (js : List Nat) (i : Nat) (U : Tm) (k : H P N W S0 ops Q C0 fuel (listed.setIfInBounds i true) (U ++ T) L C) (h : takeD P N ops T L i (U.map (·.1)) = some U := by kernel_rfl)
    (hk : (Region.noSelect ops && Region.free .any ops listed i && (Region.ready .any ops listed).contains i) = true := by kernel_rfl) (hC : (pulls js C).map (·.1) = some C0 := by rfl) : H P N W S0 ops Q C0 (fuel + 1) listed T L C := HPU i U h hk hC k
theorem RG {id : Nat} (k : OPS P N W S0 ops Q (List.range ops.size) T L C) : CODE P N W S0 (.region id ops false) Q T L C := REGION _ rfl k
/-- the region's end, the next region -/
theorem NR {id : Nat} {ops2 : Array Oper} {y : Code} {Q' : Exit → Act → World → Prop} {is : List Nat} (k : OPS P N W S0 ops2 (Exit.then (y.wp P Q) Q) (List.range ops2.size) T L C) (h : is = [] := by rfl) : OPS P N W S0 ops (Exit.then ((Code.seq (.region id ops2 false) y).wp P Q) Q') is T L C := by
  subst h; exact ENDOPS (NEXT (SEQ (RG k)))
theorem NI {x : Operand} {c d : Code} {Q' : Exit → Act → World → Prop} {is : List Nat} (b : Bool) (k1 : b = true → CODE P N W S0 c Q T L C) (k2 : b = false → CODE P N W S0 d Q T L C) (hx : evv T x = some (.bool b) := by kernel_rfl) (h : is = [] := by rfl) :
    OPS P N W S0 ops (Exit.then ((Code.cond x c d).wp P Q) Q') is T L C := by
  subst h; exact ENDOPS (NEXT (IF b hx k1 k2))
theorem IFK {x : Operand} {c d : Code} (b : Bool) (k1 : b = true → CODE P N W S0 c Q T L C) (k2 : b = false → CODE P N W S0 d Q T L C) (hx : evv T x = some (.bool b) := by kernel_rfl) : CODE P N W S0 (.cond x c d) Q T L C := IF b hx k1 k2
theorem SP {K : Act → World → Prop} (d : Nat) (b : Bool) (k1 : b = true → G N W S0 K ((d, .v (.bool true)) :: T) L C) (k2 : b = false → G N W S0 K ((d, .v (.bool false)) :: T) L C) (hd : lk T d = some (.v (.bool b)) := by kernel_rfl) : G N W S0 K T L C := SPLIT b hd k1 k2
theorem QSP {i : Nat} (d : Nat) (b : Bool) (k1 : b = true → QO P N W S0 ops Q i ((d, .v (.bool true)) :: T) L C) (k2 : b = false → QO P N W S0 ops Q i ((d, .v (.bool false)) :: T) L C) (hd : lk T d = some (.v (.bool b)) := by kernel_rfl) : QO P N W S0 ops Q i T L C := QSPLIT b hd k1 k2
theorem CS {K : Act → World → Prop} (d : Nat) (v v' : Value) (he : v = v') (k : G N W S0 K ((d, .v v') :: T) L C) (hd : lk T d = some (.v v) := by kernel_rfl) : G N W S0 K T L C := CAST v v' hd he k
theorem IX {i : Nat} {K : Act → World → Prop} (t : TypeId) (x ix : Operand) (d : Nat) (ty : TypeId) (a : Option Addr) (n cap : Nat) (kd : IntKind) (z : Int) (e : TypeId) (sz : Nat) (ha : a.isSome = true) (h0 : 0 ≤ z) (hn : z < n)
    (k : G N W S0 K ((d, .e a (z.toNat * sz) 0) :: T) L C) (ho : opAt ops T i = some (.indexAddr t x ix, some d, ty) := by kernel_rfl) (hd : d < N := by exact NL rfl) (hx : evv T x = some (.slice a n cap) := by kernel_rfl) (hix : evv T ix = some (.int kd z) := by kernel_rfl)
    (hu : P.underlying t = some (.slice e) := by kernel_rfl) (hsz : (P.info? e).map (·.size) = some sz := by kernel_rfl) : OP P N W S0 ops Q i K T L C := INDEX t x ix d ty ho hd a n cap kd z e sz hx hix hu hsz ha h0 hn k
theorem QIX {i : Nat} (t : TypeId) (x ix : Operand) (d : Nat) (ty : TypeId) (a : Option Addr) (n cap : Nat) (kd : IntKind) (z : Int) (e : TypeId) (sz : Nat) (ha : a.isSome = true) (h0 : 0 ≤ z) (hn : z < n)
    (k : QO P N W S0 ops Q (i + 1) ((d, .e a (z.toNat * sz) 0) :: T) L C) (ho : opAt ops T i = some (.indexAddr t x ix, some d, ty) := by kernel_rfl) (hd : d < N := by exact NL rfl) (hx : evv T x = some (.slice a n cap) := by kernel_rfl) (hix : evv T ix = some (.int kd z) := by kernel_rfl)
    (hu : P.underlying t = some (.slice e) := by kernel_rfl) (hsz : (P.info? e).map (·.size) = some sz := by kernel_rfl) : QO P N W S0 ops Q i T L C := QINDEX t x ix d ty ho hd a n cap kd z e sz hx hix hu hsz ha h0 hn k
theorem LE {i : Nat} {K : Act → World → Prop} (t : TypeId) (x : Operand) (d : Nat) (ty : TypeId) (a : Option Addr) (c off : Nat) (cs : List Value) (v : Value) (he : ∀ w, At W S0 C w → ElemAt w a c cs)
    (k : G N W S0 K ((d, .v v) :: T) L C) (ho : opAt ops T i = some (.load t x, some d, ty) := by kernel_rfl) (hd : d < N := by exact NL rfl) (hx : evo T x = some (.e a c off) := by kernel_rfl) (hv : loadOf P t cs off = some v := by kernel_rfl) : OP P N W S0 ops Q i K T L C := LOADE t x d ty ho hd a c off cs v hx he hv k
theorem QLE {i : Nat} (t : TypeId) (x : Operand) (d : Nat) (ty : TypeId) (a : Option Addr) (c off : Nat) (cs : List Value) (v : Value) (he : ∀ w, At W S0 C w → ElemAt w a c cs)
    (k : QO P N W S0 ops Q (i + 1) ((d, .v v) :: T) L C) (ho : opAt ops T i = some (.load t x, some d, ty) := by kernel_rfl) (hd : d < N := by exact NL rfl) (hx : evo T x = some (.e a c off) := by kernel_rfl) (hv : loadOf P t cs off = some v := by kernel_rfl) : QO P N W S0 ops Q i T L C := QLOADE t x d ty ho hd a c off cs v hx he hv k
theorem CA {i : Nat} {K : Act → World → Prop} (f : FuncId) (vs : Array Value) (d : Option Nat) (r : Res) (hcon : ∀ w, At W S0 C w → Spec P w [] f vs r) (k : ∀ x : r.ι, G N W S0 K (putd d (.v (r.val x)) T) L (C ++ r.own x))
    (hc : callOf P ops T i = some (f, vs, d) := by kernel_rfl) (hd : ∀ k, d = some k → k < N := by exact NO rfl) : OP P N W S0 ops Q i K T L C := CALL f vs d hc [] [] C rfl r hcon hd k
theorem QCA {i : Nat} (f : FuncId) (vs : Array Value) (d : Option Nat) (v : Value) (hcon : ∀ w, At W S0 C w → Spec P w [] f vs (RV v)) (k : QO P N W S0 ops Q (i + 1) (putd d (.v v) T) L C)
    (hc : callOf P ops T i = some (f, vs, d) := by kernel_rfl) (hd : ∀ k, d = some k → k < N := by exact NO rfl) : QO P N W S0 ops Q i T L C := QCALL f vs d hc v hcon hd k
theorem RF {fn : Func} {r : Res} (hq : Q .ret = bodyPost P fn (RetM S0 r W) .ret) (v : Value) (x : r.ι) (js : List Nat) (hx : v = r.val x) (hp : (pulls js C).map (·.1) = some (r.own x)) (hv : resOf fn P T L = some v := by kernel_rfl) : CODE P N W S0 .ret Q T L C := by
  refine RET ?_
  have h := FIN (N := N) (W := W) (S0 := S0) (T := T) (L := L) (C := C) (fn := fn) v hv x hx js hp
  intro a w hs
  rw [hq]
  exact h a w hs
theorem BK {ι : Type} {Tf : ι → Tm} {Lf : ι → Bx} {Cf : ι → List Ass} {Inv : ι → Prop} {m : ι → Nat} {j : ι} (j' : ι) (ks : List Nat) (n : Nat) (js : List Nat) (h0 : Inv j') (hm : m j' < m j) (hT : keep T ks = some (Tf j') := by kernel_rfl)
    (hn : boundedB n (Tf j') = true := by rfl) (hL : L.take n = Lf j' := by rfl) (hC : (pulls js C).map (·.1) = some (Cf j') := by rfl) :
    DONE N W S0 (Exit.then (fun a w => ∃ j', Inv j' ∧ m j' < m j ∧ Sat N W S0 (Tf j') (Lf j') (Cf j') a w) Q) .normal T L C := by
  obtain ⟨⟨X, R⟩, hp, hX⟩ := Option.map_eq_some_iff.1 hC
  simp only at hX
  subst hX
  exact BACK j' ks n js R h0 hm hT hn hL hp
/-- the length of a slice said otherwise; what the slots bear is said anew -/
theorem RELENK {K : Act → World → Prop} {n m : Nat} (Tf : Nat → Tm) (Lf : Nat → Bx) (Cf : Nat → List Ass) (h : n = m) (k : G N W S0 K (Tf m) (Lf m) (Cf m)) (hT : keep T ((Tf n).map (·.1)) = some (Tf n) := by kernel_rfl) : G N W S0 K T (Lf n) (Cf n) := by
  subst h; exact fun a w hs => k a w (hs.keep hT)
end short
end SX
end Go.Proofs.YthnbaikmbgaddaaGreat
