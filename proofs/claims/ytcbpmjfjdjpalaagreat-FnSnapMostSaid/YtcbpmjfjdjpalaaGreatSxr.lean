/- Texts of this claim, put together by program. -/
import Derived.Test.YtcbpmjfjdjpalaaGreatSxd
import Derived.Test.YtcbpmjfjdjpalaaGreatSxs
import Derived.WalkSpells
/- Rules for owned rows that are cut from the top. -/
namespace Go.Proofs.YtcbpmjfjdjpalaaGreat
namespace SX
set_option linter.unusedVariables false
set_option linter.unusedSimpArgs false
open Go Go.RowKit
theorem cellsRep.takeF {α : Type} {L : Lay α} {m : Bool} {w : World} : ∀ {xs : List α} {cells f} (k : Nat), cellsRep L m w cells xs f → ∃ f1 f2, f = f1 ++ f2 ∧ cellsRep L m w (cells.take (k * L.sz)) (xs.take k) f1
  | [], cells, f, k, h => by simp [cellsRep] at h; exact ⟨[], f, rfl, by simp [h.1, cellsRep]⟩
  | x :: xs, cells, f, 0, h => ⟨[], f, rfl, by simp [cellsRep]⟩
  | x :: xs, cells, f, k + 1, ⟨cs, rest, f1, f2, h1, h2, h3, h4⟩ => by
    subst h1; subst h2
    obtain ⟨g1, g2, e, h5⟩ := h4.takeF k
    refine ⟨f1 ++ g1, g2, by rw [e, List.append_assoc], cs, rest.take (k * L.sz), f1, g1, ?_, rfl, h3, h5⟩
    have hl := L.len h3
    rw [List.take_append, hl, List.take_of_length_le (by rw [hl, Nat.add_mul]; omega)]
    congr 2
    rw [Nat.add_mul]; omega
section
variable {P : Program} {N : Nat} {W : World} {S0 : List Nat} {ops : Array Oper} {Q : Exit → Act → World → Prop} {T : Tm} {L : Bx} {C : List Ass} {α : Type}
theorem SHRINK {K : Act → World → Prop} {e : TypeId} {La : Lay α} {a : Option Addr} {n c : Nat} {xs : List α} (k j : Nat) (R : List Ass) (hp : pulls [j] C = some ([slA e La (.slice a n c) xs], R)) (hk : k ≤ xs.length) (kk : G N W S0 K T L (R ++ [slA e La (.slice a k c) (xs.take k)])) : G N W S0 K T L C := by
  rintro ac w ⟨bs, fps, ht, hb, hm⟩
  obtain ⟨xps, hx, hnx, hex⟩ := hm.exch hp
  match xps, hx with
  | [fp], ⟨⟨cells, g, h1, h2, h3, h4⟩, _⟩ =>
    obtain ⟨f1, f2, rfl, h5⟩ := h3.takeF k
    have hl : (xs.take k).length = k := by rw [List.length_take]; omega
    have ho : ownsR w e La.sz (.slice a k c) (xs.take k).length (cells.take (k * La.sz)) := by
      rw [hl]
      rcases h1.2 with ⟨hv, h0⟩ | ⟨b, cap, cur, fz, hv, hg, hfz, hnc, hcm, hcs, htake⟩
      · simp only [Value.slice.injEq] at hv
        obtain ⟨rfl, rfl, rfl⟩ := hv
        have hk0 : k = 0 := by omega
        subst hk0
        simpa using ownsR_nil w e La.sz
      · simp only [Value.slice.injEq] at hv
        obtain ⟨rfl, rfl, rfl⟩ := hv
        refine ⟨?_, .inr ⟨b, c, cur, fz, rfl, hg, hfz, by omega, hcm, hcs, ?_⟩⟩
        · rw [List.length_take, h1.1]
          have := Nat.mul_le_mul_right La.sz hk
          omega
        · rw [← htake, List.take_take]
          congr 1
          have := Nat.mul_le_mul_right La.sz hk
          omega
    have hob : (Value.slice a k c).ownBlock = (Value.slice a n c).ownBlock := by cases a <;> rfl
    obtain ⟨fps', hmem⟩ := hex w [slA e La (.slice a k c) (xs.take k)] [(Value.slice a n c).ownBlock.toList ++ f1] ⟨⟨_, f1, ho, by rw [hob], h5, by rw [hl]; omega⟩, trivial⟩
      (by
        simp only [List.flatten_cons, List.flatten_nil, List.append_nil]
        have h9 : ((Value.slice a n c).ownBlock.toList ++ (f1 ++ f2)).Nodup := by rw [← h2]; simpa using hnx
        rw [← List.append_assoc] at h9
        exact (List.nodup_append.1 h9).1)
      (fun b hb _ => by
        simp only [List.flatten_cons, List.flatten_nil, List.append_nil] at hb ⊢
        rw [h2]
        rcases List.mem_append.1 hb with h | h
        · exact List.mem_append.2 (.inl h)
        · exact List.mem_append.2 (.inr (List.mem_append.2 (.inl h)))) (Fr.refl _ _)
    exact kk ac w ⟨bs, fps', ht, hb, hmem⟩
/-- s[:hi], where nobody has a further use for s -/
theorem CUTO {i : Nat} {K : Act → World → Prop} (t : TypeId) (x hi : Operand) (d : Nat) (ty : TypeId) (ho : opAt ops T i = some (.slice t x none (some hi) none, some d, ty)) (hd : d < N) (a : Option Addr) (n cap : Nat) (kl : IntKind) (l : Int)
    (hx : evv T x = some (.slice a n cap)) (hl : evv T hi = some (.int kl l)) (e : TypeId) (La : Lay α) (xs : List α) (hu : P.underlying t = some (.slice e)) (hs : (P.info? e).map (·.size) = some La.sz) (h0 : 0 ≤ l) (h1 : l ≤ n) (hn : n = xs.length) (hcap : n ≤ cap)
    (j : Nat) (R : List Ass) (hp : pulls [j] C = some ([slA e La (.slice a n cap) xs], R))
    (k : G N W S0 K ((d, .v (.slice a l.toNat cap)) :: T) L (R ++ [slA e La (.slice a l.toNat cap) (xs.take l.toNat)])) : OP P N W S0 ops Q i K T L C := by
  have hz : a.map (·.add (0 * La.sz)) = a := by
    cases a with
    | none => rfl
    | some ad => simp only [Option.map_some, Nat.zero_mul]; congr 1
  refine STEP _ _ _ ho (by rintro _ ⟨⟩; exact hd) (.v (.slice a l.toNat cap)) (by intro j off he; cases he) ?_ (SHRINK l.toNat j R hp (by omega) k)
  intro ac o bs w hev hop _ _
  obtain ⟨inf, hi, hsz⟩ := Option.map_eq_some_iff.1 hs
  have hel : P.elem t = e := by unfold Program.elem; rw [hu]
  have hu' : P.underlying t = some (.slice (P.elem t)) := by rw [hel]; exact hu
  have e1 : ac.eval x = .slice a n cap := hev x _ (evo_of_evv hx)
  have e2 := hev _ _ (evo_of_evv hl)
  simp only [den] at e2
  simp only [execOp, hop, e1, e2, Option.map_some, Option.map_none, Sem.run_bind, run_sliceAt_slice w t _ _ _ _ hu', run_slice_h w t a n cap hu' kl l h0 (by omega), hel, run_sizeOf hi, Result.andThen_ok, Sem.run_pure, hsz, sliced, hz, ite_self, Nat.sub_zero, den]
end
end SX
end Go.Proofs.YtcbpmjfjdjpalaaGreat
/- A slice held against nil. It imports no program. -/
namespace Go.Proofs.YtcbpmjfjdjpalaaGreat
namespace SX
open Go Go.RowKit
section
variable {P : Program} {W : World} {S0 : List Nat} {T : Tm} {C : List Ass}
theorem runs_snil {t t2 ty e : TypeId} {x y : Operand} {a : Option Addr} {n c : Nat} (hu : P.underlying t = some (.slice e)) (hx : evv T x = some (.slice a n c)) (hy : evv T y = some (.slice none 0 0)) : Runs P W S0 T C (.binOp .eql t x y t2) ty (.bool a.isNone) := by
  intro ac o fr w hev hop _ _
  have h1 : ac.eval x = .slice a n c := hev x _ (evo_of_evv hx)
  have h2 : ac.eval y = .slice none 0 0 := hev y _ (evo_of_evv hy)
  have h3 := Lib.run_eql_slice_nil w t e a n c 0 0 hu
  simp only [execOp, hop, h1, h2, eqGuard, Sem.run_bind, Sem.run_pure, Result.andThen_ok]
  simp [h3, Result.andThen_ok]
end
end SX
end Go.Proofs.YtcbpmjfjdjpalaaGreat
