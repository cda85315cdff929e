/- Strings and bytes: steps on strings, conversions, appends of bytes and of what is only read. It imports no program. -/
import Derived.Test.YtcbpmjfjdjpalaaGreatSxa
import Derived.Laws.IdiomStrings
import Derived.Laws.Strings3
import Derived.Laws.Slices
import Derived.Laws.Concat
import Derived.Laws.OwnMore
import Derived.Lib.AppendStr
namespace Go.Proofs.YtcbpmjfjdjpalaaGreat
namespace SX
set_option linter.unusedVariables false
set_option linter.unusedSimpArgs false
open Go Go.RowKit

theorem bs_size (s : List UInt8) : (bs s).size = s.length := rfl
theorem bs_append (a b : List UInt8) : bs a ++ bs b = bs (a ++ b) := ByteArray.mk_append_mk a b
theorem bs_get (s : List UInt8) (k : Nat) (h : k < (bs s).size) : (bs s)[k] = s[k]'h := rfl

/-! ### Numbers that are natural; bytes -/
def byteOf (z : Int) : UInt8 := UInt8.ofNat (z % 256).toNat
theorem v8 (z : Int) : Value.int .u8 (IntKind.wrap .u8 z) = .int .u8 ((byteOf z).toNat : Int) := by
  congr 1
  have h : IntKind.wrap .u8 z = z % 256 := by simp [IntKind.wrap, IntKind.bits, IntKind.signed]
  rw [h, byteOf, UInt8.toNat_ofNat']
  omega
theorem vi_u8 (y : UInt8) : Value.int .i64 (IntKind.wrap .i64 (y.toNat : Int)) = vi (y.toNat : Int) := by
  have := y.toNat_lt
  exact vi_wr (by omega) (by omega)
theorem vi_quo (x k : Nat) (hk : 0 < k) (hx : x ≤ 9223372036854775807) : vi (wr (Int.tdiv (x : Int) (k : Int))) = vi ((x / k : Nat) : Int) := by
  have h : Int.tdiv (x : Int) (k : Int) = ((x / k : Nat) : Int) := by rw [Int.tdiv_eq_ediv_of_nonneg (by omega)]; simp
  rw [h]
  have : x / k ≤ x := Nat.div_le_self x k
  generalize x / k = y at *
  exact vi_wr (by omega) (by omega)
theorem vi_rem (x k : Nat) : vi (Int.tmod (x : Int) (k : Int)) = vi ((x % k : Nat) : Int) := by
  rw [Int.tmod_eq_emod_of_nonneg (by omega)]; simp
theorem vi_shr (x k : Nat) : vi (Int.fdiv (x : Int) (2 ^ k)) = vi ((x / 2 ^ k : Nat) : Int) := by
  have : Int.fdiv (x : Int) (2 ^ k) = ((x / 2 ^ k : Nat) : Int) := by
    rw [Int.fdiv_eq_ediv_of_nonneg _ (by exact Int.le_of_lt (Int.pow_pos (by decide)))]; push_cast; rfl
  rw [this]
theorem ofInt_nat (x : Nat) : BitVec.ofInt 64 (x : Int) = BitVec.ofNat 64 x := by
  apply BitVec.eq_of_toNat_eq; simp [BitVec.toNat_ofInt]
theorem vi_xor (x y : Nat) (hx : x < 9223372036854775808) (hy : y < 9223372036854775808) : vi (wr (((BitVec.ofInt 64 (x : Int) ^^^ BitVec.ofInt 64 (y : Int)).toNat : Nat) : Int)) = vi ((x ^^^ y : Nat) : Int) := by
  have h : (BitVec.ofInt 64 (x : Int) ^^^ BitVec.ofInt 64 (y : Int)).toNat = x ^^^ y := by
    rw [ofInt_nat, ofInt_nat, BitVec.toNat_xor, BitVec.toNat_ofNat, BitVec.toNat_ofNat, Nat.mod_eq_of_lt (by omega), Nat.mod_eq_of_lt (by omega)]
  have h2 : x ^^^ y < 2 ^ 63 := Nat.xor_lt_two_pow (by omega) (by omega)
  rw [h]
  exact vi_wr (by omega) (by omega)
theorem vi_and1 (x : Nat) (hx : x < 9223372036854775808) : vi (wr (((BitVec.ofInt 64 (x : Int) &&& BitVec.ofInt 64 1).toNat : Nat) : Int)) = vi ((x % 2 : Nat) : Int) := by
  have h : (BitVec.ofInt 64 (x : Int) &&& BitVec.ofInt 64 1).toNat = x % 2 := by
    rw [ofInt_nat, show (1 : Int) = ((1 : Nat) : Int) from rfl, ofInt_nat, BitVec.toNat_and, BitVec.toNat_ofNat, BitVec.toNat_ofNat, Nat.mod_eq_of_lt (by omega), Nat.mod_eq_of_lt (by omega), Nat.and_one_is_mod]
  rw [h]
  exact vi_wr (by omega) (by omega)
section rules
variable {P : Program} {N : Nat} {W : World} {S0 : List Nat} {Q : Exit → Act → World → Prop} {T : Tm} {L : Bx} {C : List Ass} {ops : Array Oper}

theorem runs_scat {t t2 ty : TypeId} {x y : Operand} {a b : List UInt8} (hx : evv T x = some (.string (bs a))) (hy : evv T y = some (.string (bs b))) (hl : a.length + b.length ≤ 9223372036854775807) : Runs P W S0 T C (.binOp .add t x y t2) ty (.string (bs (a ++ b))) := by
  have h := runs_cat (P := P) (W := W) (S0 := S0) (C := C) (t := t) (t2 := t2) (ty := ty) hx hy (by simpa [bs_size] using hl)
  rwa [bs_append] at h
/-- s[k] -/
theorem runs_sidx {t ty : TypeId} {x ix : Operand} {s : List UInt8} {kd : IntKind} {z : Int} {k : Nat} {y : UInt8} (hu : P.underlying t = some .string) (hx : evv T x = some (.string (bs s))) (hix : evv T ix = some (.int kd z)) (h0 : 0 ≤ z) (hk : z.toNat = k) (hy : s[k]? = some y) :
    Runs P W S0 T C (.index t x ix) ty (.int .u8 y.toNat) := by
  intro ac o fr w hev hop _ _
  have h1 : ac.eval x = .string (bs s) := hev x _ (evo_of_evv hx)
  have h2 : ac.eval ix = .int kd z := hev ix _ (evo_of_evv hix)
  obtain ⟨hlt, he⟩ := List.getElem?_eq_some_iff.1 hy
  have hc : 0 ≤ z ∧ z < (bs s).size := ⟨h0, by rw [bs_size]; omega⟩
  have hg : (bs s)[z.toNat]'(by omega) = y := by
    subst hk
    exact (bs_get s _ _).trans he
  simp only [execOp, hop, h1, h2, Sem.run_bind, run_index_string w t (bs s) kd z hu, dif_pos hc, hg, Result.andThen_ok, Sem.run_pure]
theorem Rd.byteCells {w : World} {a : Option Addr} {xs : List UInt8} (h : Rd byteL w a xs) : ∀ j (hj : j < xs.length), w.cell? ((addrOf a).add j) = Option.some (.int .u8 (xs[j].toNat : Int)) := by
  intro j hj
  have := Rd.flat h (List.getElem?_eq_getElem hj) 0 (by simp)
  simpa using this
/-- string(b) -/
theorem runs_bstr {src dst e ty : TypeId} {x : Operand} {a : Option Addr} {n c : Nat} {xs : List UInt8} (hs : P.underlying src = some (.slice e)) (he : P.underlying e = some (.int .u8)) (hd : P.underlying dst = some .string) (hx : evv T x = some (.slice a n c)) (hn : xs.length = n)
    (hr : ∀ w, At W S0 C w → Rd byteL w a xs) : Runs P W S0 T C (.convert src dst x) ty (.string (bs xs)) := by
  intro ac o fr w hev hop _ hat
  have e1 : ac.eval x = .slice a n c := hev x _ (evo_of_evv hx)
  have hrd := hr w hat
  subst hn
  have key : (convert src dst (.slice a xs.length c)).run P w = .ok (.string (bs xs)) w := by
    cases a with
    | some ad => exact run_convert_bytes_back w src dst e ad c xs hs he hd (fun j hj => Rd.byteCells hrd j hj)
    | none =>
      have h0 : xs = [] := by
        rcases Nat.eq_zero_or_pos xs.length with h | h
        · exact List.eq_nil_of_length_eq_zero h
        · have := Rd.some hrd h; cases this
      subst h0
      rw [run_convert_bytes_string w src dst e none _ c hs he hd]
      rfl
  simp only [execOp, hop, e1, Sem.run_bind, key, Result.andThen_ok, Sem.run_pure]

theorem QCAST {i d : Nat} (v v' : Value) (hd : lk T d = some (.v v)) (he : v = v') (k : QO P N W S0 ops Q i ((d, .v v') :: T) L C) : QO P N W S0 ops Q i T L C := by
  subst he
  intro bs a ht hb hl
  refine k bs a ⟨ht.1, ht.2.1, fun i x hx => ?_⟩ ?_ hl
  · simp only [lk] at hx
    by_cases hk : d = i
    · subst hk; simp at hx; subst hx; exact ht.2.2 d _ hd
    · have : (d == i) = false := by simpa using hk
      simp only [this, Bool.false_eq_true, if_false] at hx
      exact ht.2.2 i x hx
  · exact hb

/-! ### What is only read, and is new -/
theorem Rd.of {α : Type} {La : Lay α} {w : World} {a : Option Addr} {xs : List α} (h : ∃ f, SlR La w a xs f) : Rd La w a xs := h
/-- CONVB: []byte(s) -/
theorem CONVB {i : Nat} {K : Act → World → Prop} (src dst : TypeId) (x : Operand) (d : Nat) (ty : TypeId) (ho : opAt ops T i = some (.convert src dst x, some d, ty)) (hd : d < N) (s : List UInt8) (hx : evv T x = some (.string (bs s))) (e : TypeId)
    (hs : P.underlying src = some .string) (hd' : P.underlying dst = some (.slice e)) (he : P.underlying e = some (.int .u8)) (hl : s.length ≤ 9223372036854775807)
    (k : ∀ (a : Option Addr) (c : Nat), a.isSome = true → G N W S0 K ((d, .v (.slice a s.length c)) :: T) L (C ++ [slA e byteL (.slice a s.length c) s])) : OP P N W S0 ops Q i K T L C := by
  refine STEPM (js := []) (pre := []) (R := C) (ι := {p : Option Addr × Nat // p.1.isSome = true}) (val := fun p => .slice p.1.1 s.length p.1.2) (own := fun p => [slA e byteL (.slice p.1.1 s.length p.1.2) s]) _ (some d) _ ho (by rintro _ ⟨⟩; exact hd) rfl ?_ (fun p => k p.1.1 p.1.2 p.2)
  intro ac o fr w fps hev hop hty hat hown hnd
  have e1 : ac.eval x = .string (bs s) := hev x _ (evo_of_evv hx)
  have hr := run_bytes_of_string (P := P) w src dst e (bs s) hs hd' he
  have hold : ∀ (o : Obj) b, b < w.heap.size → (w.drew.alloc o).heap[b]? = w.heap[b]? := fun o b hb => Below.heap_alloc w.drew o b hb
  have hge := grownCap_ge w (bs s).size 0 e
  have hcm : grownCap w (bs s).size 0 e ≤ maxLen := grownCap_le_maxLen w (bs s).size 0 e (by rw [bs_size]; simp only [maxLen]; omega)
  rw [bs_size] at hge
  have hsz : (bytesRow (bs s) (grownCap w (bs s).size 0 e)).size = grownCap w (bs s).size 0 e := by
    unfold bytesRow
    rw [Array.size_append, Array.size_map, Array.size_replicate]
    have : (bs s).data.size = s.length := rfl
    rw [bs_size, this]
    omega
  have hfl : (s.flatMap (fun z : UInt8 => [Value.int .u8 (z.toNat : Int)])) = s.map (fun z => Value.int .u8 (z.toNat : Int)) := List.map_eq_flatMap.symm
  refine ⟨⟨(some ⟨w.heap.size, 0, none⟩, grownCap w (bs s).size 0 e), rfl⟩, w.drew.alloc (.cells (bytesRow (bs s) (grownCap w (bs s).size 0 e)) e ((bytesRow (bs s) (grownCap w (bs s).size 0 e)).size, (bytesRow (bs s) (grownCap w (bs s).size 0 e)).size + 1)), _, [[w.heap.size]], ?_, .inl rfl, ⟨⟨s.flatMap (fun z : UInt8 => [Value.int .u8 (z.toNat : Int)]), [], ?_, by simp [Value.ownBlock], (cellsRep_flat s : cellsRep byteL true _ _ s []), by simpa [maxLen] using hl⟩, trivial⟩, by simp, ?_, ?_⟩
  · simp only [execOp, hop, e1, Sem.run_bind, hr, Result.andThen_ok, Sem.run_pure]
    rfl
  · refine ⟨by rw [hfl]; simp [byteL, flat], .inr ⟨w.heap.size, _, _, _, rfl, heap_alloc_new w.drew _, .inr (Nat.le_refl _), hge, hcm, by rw [hsz]; simp [byteL, flat], ?_⟩⟩
    rw [hfl]
    unfold bytesRow
    rw [Array.toList_append, List.take_append_of_le_length (by simp [byteL, flat, bs])]
    have : ((bs s).data.map (fun b => Value.int .u8 (b.toNat : Int))).toList = s.map (fun z => Value.int .u8 (z.toNat : Int)) := by simp [bs]
    rw [this]
    exact List.take_of_length_le (by simp [byteL, flat])
  · intro b hb hlt; simp at hb; omega
  · exact ⟨rfl, rfl, rfl, by simp, fun b hb _ => hold _ b hb⟩

/-! ### Appends -/
/-- an append onto what is owned: what it leaves, of what the run shows -/
theorem append_post {α : Type} {La : Lay α} {e : TypeId} {w w' : World} {v v' : Value} {xs ys : List α} {f1 : List Nat} {cells1 g1 cells2 g2} (hrow1 : ownsR w e La.sz v xs.length cells1) (hf1 : f1 = v.ownBlock.toList ++ g1) (hrep1 : cellsRep La true w cells1 xs g1)
    (hrep2 : cellsRep La true w' cells2 ys g2) (hg2 : g2 = []) (hnd : f1.Nodup) (hlt : ∀ b ∈ f1, b < w.heap.size) (hlen' : xs.length + ys.length ≤ maxLen)
    (hown' : ownsR w' e La.sz v' (xs.length + ys.length) (cells1 ++ cells2)) (hg : w.grownBy w' v.ownBlock) (hblk : v'.ownBlock = v.ownBlock ∨ v'.ownBlock = some w.heap.size) :
    ∃ (a : Option Addr) (c : Nat) (nps : List Nat), v' = .slice a (xs.length + ys.length) c ∧ (a = none → xs.length + ys.length = 0) ∧ SlO e La w' v' (xs ++ ys) nps ∧ nps.Nodup ∧ (∀ b ∈ nps, b < w.heap.size → b ∈ f1) ∧ Fr f1 w w' := by
  subst hg2
  have hform : ∃ a c, v' = .slice a (xs.length + ys.length) c ∧ (a = none → xs.length + ys.length = 0) := by
    rcases hown'.2 with ⟨rfl, h0⟩ | ⟨b, cap', cur, fz, rfl, _⟩
    · exact ⟨none, 0, by rw [h0], fun _ => h0⟩
    · exact ⟨_, _, rfl, by intro h; cases h⟩
  obtain ⟨a', c', hv', hnone⟩ := hform
  have hd := hnd
  rw [hf1] at hd
  have hd := List.nodup_append.1 hd
  have hkeep : ∀ b ∈ g1, w'.heap[b]? = w.heap[b]? := by
    intro b hb
    refine hg.block b (hlt b (by rw [hf1]; exact List.mem_append.2 (.inr hb))) ?_
    intro hbv
    exact hd.2.2 b (by simp [← hbv]) b hb rfl
  have hnew : ∀ b, v'.ownBlock = some b → b ∈ v.ownBlock.toList ∨ b = w.heap.size := by
    intro b hb
    rcases hblk with h | h
    · left; rw [← h, hb]; simp
    · right; rw [hb] at h; injection h
  refine ⟨a', c', v'.ownBlock.toList ++ (g1 ++ []), hv', hnone, ⟨cells1 ++ cells2, g1 ++ [], ?_, rfl, (hrep1.st hkeep).append hrep2, by simpa using hlen'⟩, ?_, ?_, ⟨hg.os, hg.tape, hg.output, hg.size, fun b hb hn => hg.block b hb ?_⟩⟩
  · simpa using hown'
  · rw [List.append_nil]
    refine List.nodup_append.2 ⟨by cases v'.ownBlock <;> simp, hd.2.1, ?_⟩
    rintro p hp q hq rfl
    rcases hnew p (by simpa using hp) with h | h
    · exact hd.2.2 p h p hq rfl
    · have := hlt p (by rw [hf1]; exact List.mem_append.2 (.inr hq)); omega
  · intro b hb hlt'
    rw [List.append_nil] at hb
    rw [hf1]
    rcases List.mem_append.1 hb with h | h
    · rcases hnew b (by simpa using h) with h | h
      · exact List.mem_append.2 (.inl h)
      · omega
    · exact List.mem_append.2 (.inr h)
  · intro hbv
    exact hn (by rw [hf1]; simp [← hbv])

theorem flat_cells {α : Type} {sz : Nat} {enc : α → List Value} {hh : ∀ x, (enc x).length = sz ∧ ∀ u ∈ enc x, isCell u = true} {m : Bool} {w : World} : ∀ {xs : List α} {cells g}, cellsRep (flat sz enc hh) m w cells xs g → cells = xs.flatMap enc ∧ g = []
  | [], cells, g, h => by simpa [cellsRep] using h
  | z :: zs, cells, g, ⟨cs, rest, f1, f2, h1, h2, ⟨h3, h4⟩, h5⟩ => by
    obtain ⟨h6, h7⟩ := flat_cells h5
    subst h1; subst h2; subst h3; subst h4; subst h6; subst h7
    simp

/-- APPENDR: append(s, x...), s owned, x only read, the elements without addresses -/
theorem APPENDR {i : Nat} {K : Act → World → Prop} (t : TypeId) (s x : Operand) (d : Nat) (ty : TypeId) (ho : opAt ops T i = some (.call { callee := .builtin .append, args := #[s, x], argTypes := #[t, t] }, some d, ty)) (hd : d < N)
    {α : Type} {sz : Nat} {enc : α → List Value} {hh : ∀ x, (enc x).length = sz ∧ ∀ u ∈ enc x, isCell u = true}
    (v : Value) (a2 : Option Addr) (n2 c2 : Nat) (hs : evv T s = some v) (hx : evv T x = some (.slice a2 n2 c2)) (e : TypeId) (hu : P.underlying t = some (.slice e)) (z : Value) (bytes : Nat)
    (hi : (P.info? e).map (fun i => (i.zero, i.size, i.bytes)) = some (some z, sz, bytes)) (hz : z.cells.size = sz) (hsz : 0 < sz) (j1 : Nat) (xs ys : List α) (R : List Ass) (hp : pulls [j1] C = some ([slA e (flat sz enc hh) v xs], R))
    (hn2 : ys.length = n2) (hrd : ∀ w, At W S0 C w → Rd (flat sz enc hh) w a2 ys) (hlen : (xs.length + n2) * bytes ≤ 140737488355328) (hlen' : xs.length + n2 ≤ maxLen)
    (k : ∀ (a : Option Addr) (c : Nat), (a = none → (xs ++ ys).length = 0) → G N W S0 K ((d, .v (.slice a (xs ++ ys).length c)) :: T) L (R ++ [slA e (flat sz enc hh) (.slice a (xs ++ ys).length c) (xs ++ ys)])) : OP P N W S0 ops Q i K T L C := by
  have hxy : (xs ++ ys).length = xs.length + n2 := by rw [List.length_append, hn2]
  rw [hxy] at k
  obtain ⟨inf, h1, h2, h3, h4⟩ := info_at hi
  refine STEPM (js := [j1]) (ι := {p : Option Addr × Nat // p.1 = none → xs.length + n2 = 0}) (val := fun p => .slice p.1.1 (xs.length + n2) p.1.2) (own := fun p => [slA e (flat sz enc hh) (.slice p.1.1 (xs.length + n2) p.1.2) (xs ++ ys)]) _ (some d) _ ho (by rintro _ ⟨⟩; exact hd) hp ?_ (fun p => k p.1.1 p.1.2 p.2)
  intro ac o fr w fps hev hop hty hat hown hnd
  match fps, hown with
  | [f1], ⟨⟨cells1, g1, hrow1, hf1, hrep1, hl1⟩, _⟩ =>
    subst hn2
    have hf1lt : ∀ b ∈ f1, b < w.heap.size := (slA e (flat sz enc hh) v xs).lt w f1 ⟨cells1, g1, hrow1, hf1, hrep1, hl1⟩
    obtain ⟨fr2, hl2, hsl⟩ := hrd w hat
    have e1 : ac.eval s = v := hev s _ (evo_of_evv hs)
    have e2 : ac.eval x = .slice a2 ys.length c2 := hev x _ (evo_of_evv hx)
    have hflen : (ys.flatMap enc).length = ys.length * sz := (cellsRep_flat (h := hh) (m := true) (w := w) ys).len
    have hmem : ∀ u ∈ ys.flatMap enc, isCell u = true := fun u hu => (cellsRep_flat (h := hh) (m := true) (w := w) ys).one u hu
    have hsrc : Src P sz t (.slice a2 ys.length c2) ys.length (ys.flatMap enc) w := by
      cases a2 with
      | some ad =>
        refine Src.ofSlice w hu ad ys.length c2 (ys.flatMap enc) hflen ?_ (fun u hu => isCell_one (hmem u hu))
        intro j u hj
        rcases hsl with ⟨h0, _⟩ | ⟨b, off, g, cells, h1, h2, h3, h4, h5⟩
        · subst h0; simp at hj
        · injection h1 with h1
          subst h1
          obtain ⟨rfl, _⟩ := flat_cells h4
          rw [add_lit, h5 j (List.getElem?_eq_some_iff.1 hj).1, hj]
      | none =>
        have h0 : ys = [] := by
          rcases hsl with ⟨h0, _⟩ | ⟨b, off, g, cells, h1, _⟩
          · exact h0
          · cases h1
        subst h0
        exact Src.ofNil w hu c2
    obtain ⟨v', w', hr, hown', hg, hblk⟩ := run_append_R (P := P) (ty := o.type) hu h1 h2 h3 h4 hz hrow1 hsrc hmem hlen' hlen
    obtain ⟨a, c, nps, rfl, hnone, ho', hnd', hnew, hfr⟩ := append_post (La := flat sz enc hh) hrow1 hf1 hrep1 (cellsRep_flat (w := w') ys) rfl (by simpa using hnd) hf1lt hlen' hown' hg hblk
    refine ⟨⟨(a, c), hnone⟩, w', _, [nps], ?_, .inl rfl, ⟨ho', trivial⟩, by simpa using hnd', by simpa using hnew, by simpa using hfr⟩
    simp [execOp, hop, resolve, invoke, builtin, e1, e2, hr, Result.andThen]
end rules
end SX
end Go.Proofs.YtcbpmjfjdjpalaaGreat
