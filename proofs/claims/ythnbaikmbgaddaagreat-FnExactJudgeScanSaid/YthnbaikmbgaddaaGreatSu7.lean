/- Parts of rows that are read. It imports no program. -/
import Derived.Test.YthnbaikmbgaddaaGreatSu6
import Derived.Test.YthnbaikmbgaddaaGreatSxy
namespace Go.Proofs.YthnbaikmbgaddaaGreat
namespace SX
set_option linter.unusedVariables false
set_option linter.unusedSimpArgs false
open Go Go.RowKit
section rules
variable {X : List Nat} {P : Program} {N : Nat} {W : World} {S0 : List Nat} {Q : Exit → Go.Act → World → Prop} {T : Tm} {L : Bx} {C : List Ass} {ops : Array Oper} {Kn : List (Nat × Nat)} {i : Nat} {bs : List Nat} {L0 : Bx} {Ks : Keys} {T0 : Tm} {f : Nat} {Ls : List Nat} {la : Array Bool} {R : List Ass}
variable {t : TypeId} {x lo : Operand} {d : Nat} {ty : TypeId} {a : Option Addr} {n cap : Nat} {kl : IntKind} {z e sz : Nat} {α : Type} {La : Lay α} {xs : List α}
theorem aCH [TB P] (hl : evv T lo = some (.int kl (z : Int)) := by conv => lhs; whnf) (hx : evv T x = some (.slice a n cap) := by conv => lhs; whnf) (he : lkn (TB.D P).row t = some (e, sz) := by conv => lhs; whnf) (hr : Rd La W a xs) (hn : n = xs.length := by rfl) (hc : n ≤ cap) (hz : z ≤ n)
    (k : ∀ a' : Option Addr, Rd La W a' (xs.take z) → (xs.take z).length ≤ cap → OPL X P N W S0 ops Q Kn (i + 1) ((d, .v (.slice a' (xs.take z).length cap)) :: T) L C) (hi : Nat.blt i ops.size = true := by rfl)
    (ho : opAt ops T i = some (.slice t x none (some lo) none, some d, ty) := by kernel_rfl) (hd : d < N := by exact NL rfl) (hu : P.underlying t = some (.slice e) := by kernel_rfl) (hs : (P.info? e).map (·.size) = some La.sz := by kernel_rfl) :
    AT (.op (.slice t x none (some lo) none) (some d) ty) X P N W S0 ops Q Kn i T L C := by
  subst hn
  refine opsOne (lt_of_blt hi) (CUTH t x lo d ty ho hd a _ cap kl z hx hl e La xs hu hs (by omega) (by omega) rfl hc fun a' h => ?_)
  have e1 : (xs.take z).length = z := by rw [List.length_take]; omega
  have := k a' (h W hr) (by omega)
  rw [e1] at this
  exact this
theorem aCL [TB P] (hl : evv T lo = some (.int kl (z : Int)) := by conv => lhs; whnf) (hx : evv T x = some (.slice a n cap) := by conv => lhs; whnf) (he : lkn (TB.D P).row t = some (e, sz) := by conv => lhs; whnf) (hr : Rd La W a xs) (hn : n = xs.length := by rfl) (hc : n ≤ cap) (hz : z ≤ n)
    (k : ∀ a' : Option Addr, Rd La W a' (xs.drop z) → (xs.drop z).length ≤ cap - z → OPL X P N W S0 ops Q Kn (i + 1) ((d, .v (.slice a' (xs.drop z).length (cap - z))) :: T) L C) (hi : Nat.blt i ops.size = true := by rfl)
    (ho : opAt ops T i = some (.slice t x (some lo) none none, some d, ty) := by kernel_rfl) (hd : d < N := by exact NL rfl) (hu : P.underlying t = some (.slice e) := by kernel_rfl) (hs : (P.info? e).map (·.size) = some La.sz := by kernel_rfl) :
    AT (.op (.slice t x (some lo) none none) (some d) ty) X P N W S0 ops Q Kn i T L C := by
  subst hn
  refine opsOne (lt_of_blt hi) (CUTL t x lo d ty ho hd a _ cap kl z hx hl e La xs hu hs (by omega) (by omega) rfl hc fun a' h => ?_)
  have e1 : (xs.drop z).length = xs.length - z := by rw [List.length_drop]
  have := k a' (h W hr) (by omega)
  rw [e1] at this
  exact this
theorem hCH [TB P] (hl : evv T lo = some (.int kl (z : Int)) := by conv => lhs; whnf) (hx : evv T x = some (.slice a n cap) := by conv => lhs; whnf) (he : lkn (TB.D P).row t = some (e, sz) := by conv => lhs; whnf) (hr : Rd La W a xs) (hn : n = xs.length := by rfl) (hc : n ≤ cap) (hz : z ≤ n)
    (k : ∀ a' : Option Addr, Rd La W a' (xs.take z) → (xs.take z).length ≤ cap → HL X P N W S0 ops Q bs L0 Ks T0 f (i :: Ls) (la.setIfInBounds i true) Kn ((d, .v (.slice a' (xs.take z).length cap)) :: T) L C) (hC : KP (frz bs L0) Ks Ls la C := by exact KP.mk)
    (hk : takeB ops la Ks i = true := by kernel_rfl)
    (ho : opAt ops T i = some (.slice t x none (some lo) none, some d, ty) := by kernel_rfl) (hd : d < N := by exact NL rfl) (hu : P.underlying t = some (.slice e) := by kernel_rfl) (hs : (P.info? e).map (·.size) = some La.sz := by kernel_rfl) :
    HT (.op i (.slice t x none (some lo) none) (some d) ty) X P N W S0 ops Q bs L0 Ks T0 (f + 1) Ls la Kn T L C := by
  subst hn
  obtain ⟨js9, h9⟩ := hC.pulls
  refine HDCUTH t x lo d ty ho hd a _ cap kl z hx hl e La xs hu hs (by omega) (by omega) rfl hc hk h9 fun a' h => ?_
  have e1 : (xs.take z).length = z := by rw [List.length_take]; omega
  have := k a' (h W hr) (by omega)
  rw [e1] at this
  exact this
theorem hCL [TB P] (hl : evv T lo = some (.int kl (z : Int)) := by conv => lhs; whnf) (hx : evv T x = some (.slice a n cap) := by conv => lhs; whnf) (he : lkn (TB.D P).row t = some (e, sz) := by conv => lhs; whnf) (hr : Rd La W a xs) (hn : n = xs.length := by rfl) (hc : n ≤ cap) (hz : z ≤ n)
    (k : ∀ a' : Option Addr, Rd La W a' (xs.drop z) → (xs.drop z).length ≤ cap - z → HL X P N W S0 ops Q bs L0 Ks T0 f (i :: Ls) (la.setIfInBounds i true) Kn ((d, .v (.slice a' (xs.drop z).length (cap - z))) :: T) L C) (hC : KP (frz bs L0) Ks Ls la C := by exact KP.mk)
    (hk : takeB ops la Ks i = true := by kernel_rfl)
    (ho : opAt ops T i = some (.slice t x (some lo) none none, some d, ty) := by kernel_rfl) (hd : d < N := by exact NL rfl) (hu : P.underlying t = some (.slice e) := by kernel_rfl) (hs : (P.info? e).map (·.size) = some La.sz := by kernel_rfl) :
    HT (.op i (.slice t x (some lo) none none) (some d) ty) X P N W S0 ops Q bs L0 Ks T0 (f + 1) Ls la Kn T L C := by
  subst hn
  obtain ⟨js9, h9⟩ := hC.pulls
  refine HDCUTL t x lo d ty ho hd a _ cap kl z hx hl e La xs hu hs (by omega) (by omega) rfl hc hk h9 fun a' h => ?_
  have e1 : (xs.drop z).length = xs.length - z := by rw [List.length_drop]
  have := k a' (h W hr) (by omega)
  rw [e1] at this
  exact this
end rules
end SX
end Go.Proofs.YthnbaikmbgaddaaGreat
