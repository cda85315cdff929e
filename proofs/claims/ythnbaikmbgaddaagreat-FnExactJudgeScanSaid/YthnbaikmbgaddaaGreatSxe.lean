/- Texts of this claim, put together by program. -/
import Derived.Test.YthnbaikmbgaddaaGreatSxc
/- Data within data: layouts of pairs; elements that hold slices: read out of arguments, built, stored, pinned. It imports no program. -/
namespace Go.Proofs.YthnbaikmbgaddaaGreat
namespace SX
set_option linter.unusedVariables false
set_option linter.unusedSimpArgs false
open Go Go.RowKit

/-- one behind the other -/
def prodL {α β : Type} (A : Lay α) (B : Lay β) : Lay (α × β) where
  sz := A.sz + B.sz
  rep := fun m w cs x f => ∃ c1 c2 f1 f2, cs = c1 ++ c2 ∧ f = f1 ++ f2 ∧ A.rep m w c1 x.1 f1 ∧ B.rep m w c2 x.2 f2
  len := by rintro m w cs x f ⟨c1, c2, f1, f2, rfl, rfl, h1, h2⟩; rw [List.length_append, A.len h1, B.len h2]
  one := by
    rintro m w cs x f ⟨c1, c2, f1, f2, rfl, rfl, h1, h2⟩ u hu
    rcases List.mem_append.1 hu with h | h
    · exact A.one h1 u h
    · exact B.one h2 u h
  st := by
    rintro m w w' cs x f ⟨c1, c2, f1, f2, rfl, rfl, h1, h2⟩ hb
    exact ⟨c1, c2, f1, f2, rfl, rfl, A.st h1 fun b hm => hb b (List.mem_append.2 (.inl hm)), B.st h2 fun b hm => hb b (List.mem_append.2 (.inr hm))⟩
  lt := by
    rintro m w cs x f ⟨c1, c2, f1, f2, rfl, rfl, h1, h2⟩ b hb
    rcases List.mem_append.1 hb with h | h
    · exact A.lt h1 b h
    · exact B.lt h2 b h
  rd := by
    rintro w cs x f ⟨c1, c2, f1, f2, rfl, rfl, h1, h2⟩
    obtain ⟨g1, hg1, k1⟩ := A.rd h1
    obtain ⟨g2, hg2, k2⟩ := B.rd h2
    refine ⟨g1 ++ g2, fun b hb => ?_, c1, c2, g1, g2, rfl, rfl, k1, k2⟩
    rcases List.mem_append.1 hb with h | h
    · exact List.mem_append.2 (.inl (hg1 b h))
    · exact List.mem_append.2 (.inr (hg2 b h))
def viaL {α β : Type} (L : Lay β) (g : α → β) : Lay α where
  sz := L.sz
  rep := fun m w cs x f => L.rep m w cs (g x) f
  len := L.len
  one := L.one
  st := L.st
  lt := L.lt
  rd := L.rd

/-! ### Elements of arguments -/
theorem ElemAt.fr {W w : World} {a : Option Addr} {c : Nat} {cs : List Value} (h : ElemAt W a c cs) (hf : Fr [] W w) : ElemAt w a c cs := by
  intro j hj
  have h1 := h j hj
  rw [List.getElem?_eq_getElem hj] at h1 ⊢
  have hlt := World.block_lt_of_cell? _ _ h1
  rw [World.cell?_of_block (hf.block _ hlt (by simp))]
  exact h1
theorem sl_view {α : Type} {e : TypeId} {L : Lay α} {W : World} {a : Option Addr} {xss : List (List α)} (h : Rd (sl e L) W a xss) {k : Nat} {x : List α} (hk : xss[k]? = some x) :
    ∃ (a1 : Option Addr) (c1 : Nat), ElemAt W a (k * 1) [.slice a1 x.length c1] ∧ Rd L W a1 x ∧ x.length ≤ c1 := by
  obtain ⟨cs, g, ⟨a1, c1, rfl, h1⟩, h2⟩ := h.elem hk
  simp only [Bool.false_eq_true, if_false] at h1
  exact ⟨a1, c1, h2, ⟨g, h1.2⟩, h1.1⟩

/-! ### Objects whose cells are named -/
def slX {α : Type} (e : TypeId) (L : Lay α) (v : Value) (xs : List α) (cells : List Value) : Ass :=
  ⟨fun w f => ∃ g, ownsR w e L.sz v xs.length cells ∧ f = v.ownBlock.toList ++ g ∧ cellsRep L true w cells xs g ∧ xs.length ≤ maxLen,
    fun w w' f h hb => by
      obtain ⟨g, h1, rfl, h3, h4⟩ := h
      exact ⟨g, h1.st (fun b hm => hb b (List.mem_append.2 (.inl (by simpa using hm)))), rfl, h3.st fun b hm => hb b (List.mem_append.2 (.inr hm)), h4⟩,
    fun w f h => by
      obtain ⟨g, h1, rfl, h3, h4⟩ := h
      exact SlO.lt ⟨cells, g, h1, rfl, h3, h4⟩⟩
section rules
variable {P : Program} {N : Nat} {W : World} {S0 : List Nat} {Q : Exit → Act → World → Prop} {T : Tm} {L : Bx} {C : List Ass} {ops : Array Oper} {K : Act → World → Prop} {α : Type}
end rules
section
variable {α : Type} {e : TypeId} {L : Lay α} {w : World} {a : Option Addr} {n c : Nat} {cells : List Value}
theorem take_one {cells : List Value} {k : Nat} {v : Value} (h : cells[k]? = [v][0]?) : (cells.drop k).take 1 = [v] := by
  simp at h
  obtain ⟨hk, rfl⟩ := List.getElem?_eq_some_iff.1 h
  rw [List.drop_eq_getElem_cons hk]
  rfl
theorem slX.elem {xs : List α} (h : ∃ f, (slX e L (.slice a n c) xs cells).φ w f) {k : Nat} {x : α} (hk : xs[k]? = some x) : ElemAt w a (k * L.sz) ((cells.drop (k * L.sz)).take L.sz) := by
  obtain ⟨f, g, h1, _, h3, _⟩ := h
  have hkl : k < xs.length := (List.getElem?_eq_some_iff.1 hk).1
  rcases h1.2 with ⟨hv, h0⟩ | ⟨b, cap, cur, fz, hv, _⟩
  · omega
  · injection hv with e1 e2 e3
    subst e1; subst e2; subst e3
    have hl := h3.len
    intro j hj
    rw [List.length_take, List.length_drop] at hj
    have hlt : k * L.sz + j < cells.length := by omega
    have := h1.cells (g := b) rfl (k * L.sz + j) cells[k * L.sz + j] (List.getElem?_eq_getElem hlt)
    have ea : (addrOf (some ⟨b, 0, none⟩)).add (k * L.sz + j) = (⟨b, 0, none⟩ : Addr).add (k * L.sz + j) := rfl
    rw [ea, this, List.getElem?_take, if_pos (by omega), List.getElem?_drop, List.getElem?_eq_getElem hlt]
theorem slX.rd {e' : TypeId} {xss : List (List α)} (h : ∃ f, (slX e (sl e' L) (.slice a n c) xss cells).φ w f) {k : Nat} {x : List α} (hk : xss[k]? = some x) {a1 : Option Addr} {c1 : Nat} (hc1 : (cells.drop (k * 1)).take 1 = [.slice a1 x.length c1]) : Rd L w a1 x := by
  obtain ⟨f, g, h1, _, h3, _⟩ := h
  obtain ⟨cs, g', ⟨a2, c2, rfl, hr⟩, _, hc⟩ := h3.at_ k hk
  have h0 := hc 0 (show 0 < 1 by decide)
  have hz : (sl e' L).sz = 1 := rfl
  rw [hz, Nat.add_zero] at h0
  rw [take_one h0] at hc1
  injection hc1 with hc1 _
  injection hc1 with e1 e2 e3
  subst e1
  obtain ⟨_, _, f'', hv, _, hr'⟩ := SlO.rd (by simpa using hr)
  injection hv with e4 e5 e6
  subst e4
  exact ⟨f'', hr'⟩
end

/-! ### Stores of whole elements -/
theorem cellsRep.set {α : Type} {L : Lay α} {w : World} {z : α} {cs : List Value} {fz : List Nat} (hz : L.rep true w cs z fz) : ∀ {xs : List α} {cells g} (k : Nat), k < xs.length → cellsRep L true w cells xs g →
    ∃ g', cellsRep L true w (setCells cells (k * L.sz) cs) (xs.set k z) g' ∧ ∃ r, r.Sublist g ∧ g'.Perm (r ++ fz)
  | [], cells, g, k, hk, _ => by simp at hk
  | x :: xs, cells, g, 0, _, ⟨c1, rest, f1, f2, h1, h2, h3, h4⟩ => by
    subst h1; subst h2
    have hl1 := L.len h3
    have hl2 := L.len hz
    have hset : setCells (c1 ++ rest) (0 * L.sz) cs = cs ++ rest := by
      rw [Nat.zero_mul, setCells_left _ _ _ _ (by omega)]
      congr 1
      have := setCells_take cs c1 0 (by omega)
      rw [Nat.zero_add, List.take_of_length_le (by rw [setCells_length]; omega)] at this
      simpa using this
    rw [hset]
    exact ⟨fz ++ f2, ⟨cs, rest, fz, f2, rfl, rfl, hz, h4⟩, f2, List.sublist_append_right _ _, List.perm_append_comm⟩
  | x :: xs, cells, g, k + 1, hk, ⟨c1, rest, f1, f2, h1, h2, h3, h4⟩ => by
    subst h1; subst h2
    obtain ⟨g', hg', r, hr, hp⟩ := cellsRep.set hz k (by simpa using hk) h4
    have hl1 := L.len h3
    have hset : setCells (c1 ++ rest) ((k + 1) * L.sz) cs = c1 ++ setCells rest (k * L.sz) cs := by
      rw [show (k + 1) * L.sz = c1.length + k * L.sz by rw [hl1, Nat.add_mul]; omega]
      exact setCells_append c1 rest cs (k * L.sz)
    rw [hset]
    exact ⟨f1 ++ g', ⟨c1, _, f1, g', rfl, rfl, h3, hg'⟩, f1 ++ r, List.Sublist.append_left hr f1, by rw [List.append_assoc]; exact hp.append_left f1⟩
section rules
variable {P : Program} {N : Nat} {W : World} {S0 : List Nat} {Q : Exit → Act → World → Prop} {T : Tm} {L : Bx} {C : List Ass} {ops : Array Oper} {K : Act → World → Prop} {α : Type}
theorem STOREN {i : Nat} (t : TypeId) (x y : Operand) (ty : TypeId) (ho : opAt ops T i = some (.store t x y, none, ty)) (e : TypeId) (La : Lay α) (a : Option Addr) (n cap k : Nat) (xs : List α) (js : List Nat) (pre R : List Ass) (hp : pulls js C = some (slA e La (.slice a n cap) xs :: pre, R))
    (z : α) (hk : k < xs.length) (v : Value) (hx : evo T x = some (.e a (k * La.sz) 0)) (hy : evv T y = some v) (hi : (P.info? t).map (·.size) = some v.cells.size)
    (hrep : ∀ w fps, holds w pre fps → La.rep true w v.cells.toList z fps.flatten)
    (k' : G N W S0 K T L (R ++ [slA e La (.slice a n cap) (xs.set k z)])) : OP P N W S0 ops Q i K T L C := by
  refine STEPM (js := js) (ι := Unit) (val := fun _ => undef) (own := fun _ => [slA e La (.slice a n cap) (xs.set k z)]) _ none _ ho (by rintro _ ⟨⟩) hp ?_ (fun _ => k')
  intro ac o bs w fps hev hop hty hat hown hnd
  match fps, hown with
  | fp :: fps, ⟨⟨cells, g, hrow, hfp, hcr, hlen⟩, hpre⟩ =>
    have hz := hrep w fps hpre
    rcases hrow.2 with ⟨hv, h0⟩ | ⟨b, cap', cur, fz, hv, _, _⟩
    · omega
    · injection hv with e1 e2 e3
      subst e1; subst e2; subst e3
      obtain ⟨inf, hinf, hsz⟩ := Option.map_eq_some_iff.1 hi
      have hzl := La.len hz
      have hcl := hcr.len
      have hone : v.cells.toList.all isCell = true := List.all_eq_true.2 (La.one hz)
      have hkm : (k + 1) * La.sz ≤ xs.length * La.sz := Nat.mul_le_mul_right _ hk
      rw [Nat.add_mul] at hkm
      obtain ⟨w', hr, hrow', hg⟩ := run_storeCells_row (P := P) v.cells.toList w 0 (k * La.sz) _ hrow hone (by rw [Nat.add_zero, hzl]; omega)
      have hnd2 := List.nodup_append.1 (by simpa using hnd : (fp ++ fps.flatten).Nodup)
      have hndf := hnd2.1
      rw [hfp] at hndf
      have hb0 : (Value.slice (some ⟨b, 0, none⟩) xs.length cap).ownBlock.toList = [b] := by simp [Value.ownBlock]
      rw [hb0] at hndf hfp
      have hbg : b ∉ g := by simp only [List.singleton_append, List.nodup_cons] at hndf; exact hndf.1
      have hgn : g.Nodup := by simp only [List.singleton_append, List.nodup_cons] at hndf; exact hndf.2
      have hbf : ∀ q ∈ fps.flatten, q ≠ b := fun q hq he => hnd2.2.2 b (by rw [hfp]; simp) q hq he.symm
      have hltz : ∀ q ∈ fps.flatten, q < w.heap.size := La.lt hz
      have hz' : La.rep true w' v.cells.toList z fps.flatten := La.st hz fun q hq => hg.block q (hltz q hq) (fun he => hbf q hq (by injection he))
      have hcr' : cellsRep La true w' cells xs g := hcr.st fun q hq => hg.block q (hcr.lt q hq) (fun he => by injection he with he; subst he; exact hbg hq)
      obtain ⟨g', hg', r, hrs, hperm⟩ := cellsRep.set hz' k hk hcr'
      have hmem : ∀ q ∈ g', q ∈ g ∨ q ∈ fps.flatten := fun q hq => (List.mem_append.1 (hperm.subset hq)).imp (fun h => hrs.subset h) id
      refine ⟨(), w', .skip, [[b] ++ g'], ?_, .inr ⟨rfl, rfl⟩, ⟨⟨_, g', ?_, by rw [hb0], hg', by simpa using hlen⟩, trivial⟩, ?_, ?_, ?_⟩
      · have h1 : ac.eval x = .pointer (some ⟨b, k * La.sz, none⟩) := by rw [hev x _ hx]; simp [den, addrOf, add_lit]
        have h2 : ac.eval y = v := hev y _ (evo_of_evv hy)
        simp only [execOp, hop, h1, h2, Instr.storeAt, Instr.sureAddr, Sem.run_bind, Sem.run_pure, Result.andThen_ok, storeVar, run_sizeOf hinf, hsz]
        simp [hr, Sem.run_pure]
      · rw [List.length_set]
        simpa using hrow'
      · simp only [List.flatten_cons, List.flatten_nil, List.append_nil, List.singleton_append, List.nodup_cons]
        refine ⟨fun hq => ?_, hperm.nodup_iff.2 (List.nodup_append.2 ⟨hrs.nodup hgn, hnd2.2.1, fun p hp q hq he => ?_⟩)⟩
        · rcases hmem b hq with h | h
          · exact hbg h
          · exact hbf b h rfl
        · exact hnd2.2.2 p (by rw [hfp]; simp [hrs.subset hp]) q hq he
      · intro q hq _
        simp only [List.flatten_cons, List.flatten_nil, List.append_nil, List.mem_append, List.mem_singleton] at hq ⊢
        rw [hfp]
        rcases hq with h | h
        · simp [h]
        · rcases hmem q h with h | h
          · simp [h]
          · exact .inr h
      · refine ⟨hg.os, hg.tape, hg.output, hg.size, fun q hq hne => hg.block q hq (fun he => hne ?_)⟩
        injection he with he
        subst he
        simp [hfp]
end rules
theorem nestRep {α : Type} {e e' : TypeId} {L : Lay α} {a : Option Addr} {c : Nat} {x : List α} : ∀ w fps, holds w [slA e L (.slice a x.length c) x] fps → (sl e L).rep true w [.slice a x.length c] x fps.flatten := by
  intro w fps h
  match fps, h with
  | [f], ⟨h1, _⟩ => exact ⟨a, c, rfl, by simp only [if_true, List.flatten_cons, List.flatten_nil, List.append_nil]; exact h1⟩
theorem oneRep {α : Type} {L : Lay α} {pre : List Ass} {cells : List Value} {x : α} (h : ∀ w fps, holds w pre fps → L.rep true w cells x fps.flatten) : ∀ w fps, holds w pre fps → cellsRep L true w cells [x] fps.flatten :=
  fun w fps hf => ⟨cells, [], fps.flatten, [], by simp, by simp, h w fps hf, rfl, rfl⟩
end SX
end Go.Proofs.YthnbaikmbgaddaaGreat
/- Boxes that are made objects for the time of a region whose order is open, and taken back. It imports no program. -/
namespace Go.Proofs.YthnbaikmbgaddaaGreat
namespace SX
set_option linter.unusedVariables false
set_option linter.unusedSimpArgs false
open Go Go.RowKit
def expS (bs : List Nat) : SV → SV
  | .p i off => match bs[i]? with
    | some b => .e (some ⟨b, 0, none⟩) 0 off
    | none => .p (i - bs.length) off
  | s => s
def expT (bs : List Nat) : Tm → Tm
  | [] => []
  | (k, s) :: T => (k, expS bs s) :: expT bs T
def expC : List Nat → Bx → List Ass
  | b :: bs, (t, cs) :: L => ptC b t cs :: expC bs L
  | _, _ => []
theorem lk_expT {bs : List Nat} : ∀ {T : Tm} {i : Nat}, lk (expT bs T) i = (lk T i).map (expS bs)
  | [], i => rfl
  | (k, s) :: T, i => by
    simp only [expT, lk]
    split
    · rfl
    · exact lk_expT
theorem den_expS {bs bs1 : List Nat} {s : SV} : den bs1 (expS bs s) = den (bs ++ bs1) s := by
  cases s with
  | v x => rfl
  | e a c off => rfl
  | p i off =>
    simp only [expS]
    split
    · rename_i b hb
      have hlt : i < bs.length := (List.getElem?_eq_some_iff.1 hb).1
      simp only [den, addrOf, Nat.zero_add, List.getD_eq_getElem?_getD, List.getElem?_append_left hlt, hb]
      simp [add_lit]
    · rename_i hb
      have hge : bs.length ≤ i := by
        rcases Nat.lt_or_ge i bs.length with h | h
        · rw [List.getElem?_eq_getElem h] at hb; cases hb
        · exact h
      simp only [den, List.getD_eq_getElem?_getD, List.getElem?_append_right hge]
theorem expC_holds {w : World} : ∀ {L : Bx} {bs : List Nat}, boxes w L bs → holds w (expC bs L) (bs.map fun b => [b])
  | [], [], _ => trivial
  | (t, cs) :: L, b :: bs, h => ⟨⟨rfl, h.1⟩, expC_holds h.2⟩
  | [], _ :: _, h => h.elim
  | _ :: _, [], h => h.elim
theorem holds_expC {w : World} : ∀ {L : Bx} {bs : List Nat} {fps : List (List Nat)}, bs.length = L.length → holds w (expC bs L) fps → boxes w L bs ∧ fps = bs.map fun b => [b]
  | [], [], [], _, _ => ⟨trivial, rfl⟩
  | (t, cs) :: L, b :: bs, f :: fps, hl, h => by
    obtain ⟨h1, h2⟩ := holds_expC (L := L) (bs := bs) (fps := fps) (by simpa using hl) h.2
    exact ⟨⟨h.1.2, h1⟩, by rw [h2, h.1.1]; rfl⟩
  | [], [], _ :: _, _, h => h.elim
  | (_, _) :: _, _ :: _, [], _, h => h.elim
theorem map_one_flatten : ∀ (bs : List Nat), (bs.map fun b => [b]).flatten = bs
  | [] => rfl
  | b :: bs => by simp [map_one_flatten bs]
theorem bounded_expT {bs : List Nat} : ∀ {T : Tm}, bounded bs.length T → bounded 0 (expT bs T)
  | [], _ => trivial
  | (k, .p i off) :: T, h => by
    simp only [expT, expS, List.getElem?_eq_getElem h.1]
    exact bounded_expT h.2
  | (k, .v _) :: T, h => bounded_expT (T := T) h
  | (k, .e _ _ _) :: T, h => bounded_expT (T := T) h
theorem boxes_append {w : World} : ∀ {L M : Bx} {bs cs : List Nat}, boxes w L bs → boxes w M cs → boxes w (L ++ M) (bs ++ cs)
  | [], M, [], cs, _, k => k
  | (t, c) :: L, M, b :: bs, cs, h, k => ⟨h.1, boxes_append h.2 k⟩
  | [], _, _ :: _, _, h, _ => h.elim
  | _ :: _, _, [], _, h, _ => h.elim
section rules
variable {N : Nat} {W : World} {S0 : List Nat} {T : Tm} {L : Bx} {C : List Ass} {K : Act → World → Prop}
theorem EXPORT (k : ∀ bs : List Nat, bs.length = L.length → G N W S0 K (expT bs T) [] (expC bs L ++ C)) : G N W S0 K T L C := by
  rintro a w ⟨bs, fps, ht, hb, hm⟩
  have hl := boxes_len hm.bx
  refine k bs hl a w ⟨[], (bs.map fun b => [b]) ++ fps, ⟨ht.1, ht.2.1, fun i x hx => ?_⟩, bounded_expT (by rw [hl]; exact hb), ⟨hm.fr, trivial, (expC_holds hm.bx).append hm.ch, ?_, ?_⟩⟩
  · rw [lk_expT] at hx
    obtain ⟨s, hs, rfl⟩ := Option.map_eq_some_iff.1 hx
    rw [den_expS, List.append_nil]
    exact ht.2.2 i s hs
  · simp only [List.nil_append, List.flatten_append, map_one_flatten]
    exact hm.nd
  · simp only [List.nil_append, List.flatten_append, map_one_flatten]
    exact hm.new
/-- L0: what the boxes hold now, L1: the boxes that are new -/
theorem IMPORT {L0 L1 : Bx} (bs : List Nat) (hl : bs.length = L0.length) (js : List Nat) (R : List Ass) (hp : pulls js C = some (expC bs L0, R)) (T' : Tm) (hT : keep T (T'.map (·.1)) = some (expT bs T')) (hbd : boundedB (L0.length + L1.length) T' = true)
    (k : G N W S0 K T' (L0 ++ L1) R) : G N W S0 K T L1 C := by
  rintro a w ⟨bs1, fps, ht, hb, hm⟩
  obtain ⟨xps, rps, hx, hr, hperm⟩ := holds.pulls js hm.ch hp
  obtain ⟨hbx, rfl⟩ := holds_expC hl hx
  have hfl : (bs ++ rps.flatten).Perm fps.flatten := by
    have := flat_perm hperm
    simpa [map_one_flatten] using this
  have hall : ((bs ++ bs1) ++ rps.flatten).Perm (bs1 ++ fps.flatten) := by
    refine List.Perm.trans ?_ (hfl.append_left bs1)
    rw [← List.append_assoc]
    exact List.perm_append_comm.append_right _
  refine k a w ⟨bs ++ bs1, rps, ⟨ht.1, ht.2.1, fun i x hx => ?_⟩, by rw [List.length_append]; exact boundedB_ok hbd, ⟨hm.fr, boxes_append hbx hm.bx, hr, hall.nodup_iff.2 hm.nd, fun b hb => hm.new b (hall.subset hb)⟩⟩
  have h1 : lk (expT bs T') i = some (expS bs x) := by rw [lk_expT, hx]; rfl
  have h2 := ht.2.2 i _ (keep_ok hT i _ h1)
  rw [h2, den_expS]
end rules
theorem len1 {bs : List Nat} (h : bs.length = 1) : ∃ a0, bs = [a0] := by
  match bs, h with
  | [a0], _ => exact ⟨a0, rfl⟩
theorem len2 {bs : List Nat} (h : bs.length = 2) : ∃ a0 a1, bs = [a0, a1] := by
  match bs, h with
  | [a0, a1], _ => exact ⟨a0, a1, rfl⟩
theorem len3 {bs : List Nat} (h : bs.length = 3) : ∃ a0 a1 a2, bs = [a0, a1, a2] := by
  match bs, h with
  | [a0, a1, a2], _ => exact ⟨a0, a1, a2, rfl⟩
theorem len4 {bs : List Nat} (h : bs.length = 4) : ∃ a0 a1 a2 a3, bs = [a0, a1, a2, a3] := by
  match bs, h with
  | [a0, a1, a2, a3], _ => exact ⟨a0, a1, a2, a3, rfl⟩
theorem len5 {bs : List Nat} (h : bs.length = 5) : ∃ a0 a1 a2 a3 a4, bs = [a0, a1, a2, a3, a4] := by
  match bs, h with
  | [a0, a1, a2, a3, a4], _ => exact ⟨a0, a1, a2, a3, a4, rfl⟩
theorem len6 {bs : List Nat} (h : bs.length = 6) : ∃ a0 a1 a2 a3 a4 a5, bs = [a0, a1, a2, a3, a4, a5] := by
  match bs, h with
  | [a0, a1, a2, a3, a4, a5], _ => exact ⟨a0, a1, a2, a3, a4, a5, rfl⟩
theorem At.rdO {α : Type} {W w : World} {S0 : List Nat} {C : List Ass} (hw : At W S0 C w) (j : Nat) {e : TypeId} {La : Lay α} {a : Option Addr} {n c : Nat} {xs : List α} (h : C[j]? = some (slA e La (.slice a n c) xs)) : Rd La w a xs :=
  Rd.own (hw.own j h)
section join
variable {P : Program} {N : Nat} {W : World} {S0 : List Nat} {Q : Exit → Act → World → Prop} {T : Tm} {L : Bx} {C : List Ass}
end join
theorem NL {n m : Nat} (h : Nat.ble n m = true) : n ≤ m := Nat.le_of_ble_eq_true h
theorem NO {n N : Nat} (h : Nat.ble (n + 1) N = true) : ∀ k, some n = some k → k < N := by
  rintro _ ⟨⟩; exact Nat.le_of_ble_eq_true h
end SX
end Go.Proofs.YthnbaikmbgaddaaGreat
