/- Texts of this claim, put together by program. -/
import Derived.Test.YtapbooddmdkgjaaGreatJB1
import Derived.Test.YtapbooddmdkgjaaGreatSut
import Derived.Test.YtapbooddmdkgjaaGreatFN
import Derived.Test.YtapbooddmdkgjaaGreatAZ
/- Draws in the engine: the bytes behind the first one; a result of three parts. It imports no program. -/
namespace Go.Proofs.YtapbooddmdkgjaaGreat
namespace SX
set_option linter.unusedVariables false
set_option linter.unusedSimpArgs false
open Go Go.RowKit
theorem SlR_tail {W : World} {a : Option Addr} {xs : List UInt8} {f : List Nat} {cap : Nat} (h : SlR byteL W a xs f) (h0 : 0 < xs.length) (hc : xs.length ≤ cap) : SlR byteL W (if cap = 1 then a else a.map (·.add (1 * byteL.sz))) (xs.drop 1) f := by
  obtain ⟨hm, h⟩ := h
  rcases h with ⟨rfl, _⟩ | ⟨b, o, g, cells, rfl, h2, rfl, h4, h5⟩
  · simp at h0
  · have hg : g = [] := cellsRep_fl h4
    have hl : (xs.drop 1).length ≤ maxLen := by rw [List.length_drop]; omega
    by_cases he : cap = 1
    · rw [if_pos he]
      have e : xs.drop 1 = [] := List.drop_eq_nil_of_le (by omega)
      rw [e] at hl ⊢
      exact ⟨hl, .inr ⟨b, o, g, [], rfl, h2, rfl, ⟨rfl, hg⟩, by simp⟩⟩
    · rw [if_neg he]
      obtain ⟨g', hg'⟩ := h4.drop 1
      have e : g' = g := by rw [hg, cellsRep_fl hg']
      subst e
      refine ⟨hl, .inr ⟨b, o + 1 * byteL.sz, g', _, by simp [add_lit], h2, rfl, hg', fun j hj => ?_⟩⟩
      rw [List.length_drop] at hj
      rw [Nat.add_assoc, h5 _ (by omega), List.getElem?_drop]
def W3v {α β γ ι κ : Type} (vA : α → ι → Value) (vB : β → Value) (vC : γ → κ → Value) : α × β × γ → ι × κ → Value := fun z q => .tuple #[vA z.1 q.1, vB z.2.1, vC z.2.2 q.2]
def W3o {α β γ ι κ : Type} (oA : α → ι → List Ass) (oC : γ → κ → List Ass) : α × β × γ → ι × κ → List Ass := fun z q => oA z.1 q.1 ++ oC z.2.2 q.2
section rules
variable {X : List Nat} {P : Program} {N : Nat} {W : World} {S0 : List Nat} {Q : Exit → Go.Act → World → Prop} {T : Tm} {L : Bx} {C : List Ass} {ops : Array Oper} {Kn : List (Nat × Nat)} {i : Nat}
/-- the same bytes, seen otherwise -/
theorem gKT {K : Go.Act → World → Prop} {d d2 : Kd} {j : Nat} {R : List Ass} (hp : pull j C = some (keepA d, R)) (h1 : d2.W = d.W) (h2 : d2.f = d.f) (h3 : d2.ok) (k : G N W S0 K T L (R ++ [keepA d2])) : G N W S0 K T L C := by
  rintro a w ⟨bs, fps, ht, hb, hm⟩
  obtain ⟨xps, hx, hnx, hex⟩ := hm.exch (js := [j]) (pre := [keepA d]) (R := R) (by simp [pulls, hp])
  match xps, hx with
  | [fp], ⟨⟨g1, g2⟩, _⟩ =>
    subst g1
    obtain ⟨fps', hmem⟩ := hex w [keepA d2] [d.f] ⟨⟨h2.symm, h3, fun b hb => by rw [h1]; exact g2.2 b (by rw [← h2]; exact hb)⟩, trivial⟩ hnx (fun x hx _ => hx) (Fr.refl _ _)
    exact k a w ⟨bs, fps', ht, hb, hmem⟩
theorem cKT {c : Code} {d d2 : Kd} {j : Nat} {R : List Ass} (hp : pull j C = some (keepA d, R) := by exact PU) (h1 : d2.W = d.W) (h2 : d2.f = d.f) (h3 : d2.ok) (k : CD X P N W S0 c Q T L (R ++ [keepA d2])) : CD X P N W S0 c Q T L C := gKT (K := c.wp P Q) hp h1 h2 h3 k
/-- all but the first byte -/
theorem aCK [TB P] {t : TypeId} {x lo : Operand} {dd sz : Nat} {ty : TypeId} {kl : IntKind} {n cap j : Nat} {a : Option Addr} {e : TypeId} {xs : List UInt8} {d : Kd} {R : List Ass}
    (he : lkn (TB.D P).row t = some (e, sz) := by conv => lhs; whnf) (hl : evv T lo = some (.int kl 1) := by conv => lhs; whnf) (hx : evv T x = some (.slice a n cap) := by conv => lhs; whnf) (hp : pull j C = some (keepA d, R) := by exact PU) (hs9 : SlR byteL d.W a xs d.f) (hn : n = xs.length := by rfl) (h0 : 0 < xs.length) (hc : xs.length ≤ cap)
    (k : ∀ a', SlR byteL d.W a' (xs.drop 1) d.f → OPL X P N W S0 ops Q Kn (i + 1) ((dd, .v (.slice a' (xs.drop 1).length (cap - 1))) :: T) L (R ++ [keepA ⟨d.W, d.f, .slice a' (xs.drop 1).length (cap - 1)⟩])) (hi : Nat.blt i ops.size = true := by rfl)
    (ho : opAt ops T i = some (.slice t x (some lo) none none, some dd, ty) := by kernel_rfl) (hd : dd < N := by exact NL rfl) (hu : P.underlying t = some (.slice e) := by kernel_rfl) (hs : (P.info? e).map (·.size) = some byteL.sz := by kernel_rfl) :
    AT (.op (.slice t x (some lo) none none) (some dd) ty) X P N W S0 ops Q Kn i T L C := by
  subst hn
  refine opsOne (lt_of_blt hi) ?_
  refine STEP (ops := ops) _ _ _ ho (by rintro _ ⟨⟩; exact hd) (.v (.slice (if cap = 1 then a else a.map (·.add (1 * byteL.sz))) (xs.drop 1).length (cap - 1))) (by intro j off he; cases he) ?_ ?_
  · intro ac o bs w hev hop _ _
    obtain ⟨inf, hi2, hsz⟩ := Option.map_eq_some_iff.1 hs
    have hel : P.elem t = e := by unfold Program.elem; rw [hu]
    have hu' : P.underlying t = some (.slice (P.elem t)) := by rw [hel]; exact hu
    have e1 : ac.eval x = .slice a xs.length cap := hev x _ (evo_of_evv hx)
    have e2 : ac.eval lo = .int kl 1 := hev lo _ (evo_of_evv hl)
    simp only [execOp, hop, e1, e2, Option.map_some, Option.map_none, Sem.run_bind, run_sliceAt_slice w t _ _ _ _ hu', run_slice_l w t a xs.length cap hu' kl 1 (by omega) (by omega), hel, run_sizeOf hi2, Result.andThen_ok, Sem.run_pure, hsz, sliced, den, List.length_drop]
    rfl
  · have h9 := SlR_tail hs9 h0 hc
    have h8 : (xs.drop 1).length ≤ cap - 1 := by rw [List.length_drop]; omega
    exact gKT (d2 := ⟨d.W, d.f, .slice (if cap = 1 then a else a.map (·.add (1 * byteL.sz))) (xs.drop 1).length (cap - 1)⟩) hp rfl rfl ⟨_, _, _, rfl, h8, h9⟩ (k _ h9)
theorem rW3 {v1 v2 v3 : Value} {α β γ ι κ : Type} {Pp : α × β × γ → Prop} {vA : α → ι → Value} {oA : α → ι → List Ass} {vB : β → Value} {vC : γ → κ → Value} {oC : γ → κ → List Ass} {O R R2 R3 : List Ass} {js : List Nat} {x : α} {y : β} {z : γ}
    (h1 : RP v1 ⟨ι, vA x, oA x⟩ C R) (h3 : RP v3 ⟨κ, vC z, oC z⟩ R R2) (hO : pulls js R2 = some (O, R3)) (hP : Pp (x, y, z)) (hv : v2 = vB y := by rfl) : RETG (.tuple ⟨[v1, v2, v3]⟩) (RWk Pp (W3v vA vB vC) (W3o oA oC) O) C := by
  obtain ⟨q, ks, e1, e2⟩ := h1
  obtain ⟨q3, ls, e3, e4⟩ := h3
  subst hv
  exact ⟨(⟨(x, y, z), hP⟩, (q, q3)), (ks ++ ls) ++ js, by rw [show v1 = vA x q from e1, show v3 = vC z q3 from e3]; rfl, by rw [pulls_app (pulls_app e2 e4) hO]; rfl⟩
end rules
end SX
end Go.Proofs.YtapbooddmdkgjaaGreat
/- Draws of the law of the judge. -/
namespace Go.Proofs.YtapbooddmdkgjaaGreat
namespace SX
open Go Go.RowKit
set_option linter.unusedVariables false
set_option linter.unusedSimpArgs false
set_option maxRecDepth 10000
set_option maxHeartbeats 1000000
attribute [local irreducible] CD DN OPL AT QL QT CND RETG BKP HL HT HO slA slHo slP ptC pull pulls
attribute [local irreducible] curO keepA RWk IsCur IsKd
abbrev wli (xs : List Int) (p : HH) : Value := .slice p.1 xs.length p.2
abbrev oli (xs : List Int) (p : HH) : List Ass := [slA 3 intL (.slice p.1 xs.length p.2) xs]
instance s7Skip_c : HC 96 (∀ (W : World) (d : Kd) (p : Value), IsCur p d →Sp W [cuA d p] 96 #[p] (RWk (α := List Int) (ι := HH) (fun xs => xs.length ≤ 3) wli oli [cuA d p])) := by
 refine ⟨fun W d p _ => ?_⟩
 refine gENTO (vs := [_]) Tryz.func96 (fun S0 => ?_)
 repeat' first | refine STD ?_ | refine ST ?_ | refine ST2 ?_ | refine ST3 ?_ | intro _ | apply And.intro
 refine gFORG 5 3 (fun q : HH × List Int => [(3, .v (.slice q.1.1 q.2.length q.1.2))]) [] (fun q => [cuA d p, slA 3 intL (.slice q.1.1 q.2.length q.1.2) q.2]) (fun k q => q.2.length = k) ((_, 0), []) (hp := (by first | exact plS PU (plS PU (pl0)) | exact plS PU (plS PU (plS PU (pl0))) | exact plS PU (plS PU (plS PU (plS PU (pl0)))) | exact plS PU (pl0) | exact plS PU (plS PU (plS PU (plS PU (plS PU (plS PU (pl0)))))) | exact plS PU (plS PU (plS PU (plS PU (plS PU (plS PU (plS PU (pl0))))))) | exact plS PU (plS PU (plS PU (plS PU (plS PU (plS PU (plS PU (plS PU (pl0)))))))) | exact plS PU (plS PU (plS PU (plS PU (plS PU (plS PU (plS PU (plS PU (plS PU (pl0))))))))))) (h0 := by rfl) (body := fun k q hk hi => ?_)
 obtain ⟨⟨e, f⟩, xs⟩ := q
 have i1 : xs.length = k := hi
 repeat' first | refine STD ?_ | refine ST ?_ | refine ST2 ?_ | refine ST3 ?_ | intro _ | apply And.intro
 · refine gGBACK ((_, _), _) (by omega) (hp := (by first | exact plS PU (plS PU (pl0)) | exact plS PU (plS PU (plS PU (pl0))) | exact plS PU (plS PU (plS PU (plS PU (pl0)))) | exact plS PU (pl0) | exact plS PU (plS PU (plS PU (plS PU (plS PU (plS PU (pl0)))))) | exact plS PU (plS PU (plS PU (plS PU (plS PU (plS PU (plS PU (pl0))))))) | exact plS PU (plS PU (plS PU (plS PU (plS PU (plS PU (plS PU (plS PU (pl0)))))))) | exact plS PU (plS PU (plS PU (plS PU (plS PU (plS PU (plS PU (plS PU (plS PU (pl0))))))))))) (h := ?_)
   simp [i1]
 all_goals dsimp only
 all_goals omega
instance s15Args_c : HC 91 (∀ (W : World) (d : Kd) (v : Value), IsKd v d →Sp W [keepA d] 91 #[v] (RW2 (α := House) (β := Int) (ι := H5) (fun x => HouseSz x.1) hV hO9 (fun z => vi z) [keepA d])) := by
 refine ⟨fun W d v _ => ?_⟩
 refine gENTO (vs := [_]) Tryz.func91 (fun S0 => ?_)
 repeat' first | exact ‹HouseSz _› | (refine idRN ?_; refine cCK (k := ?_)) | refine STD ?_ | refine ST ?_ | refine ST2 ?_ | intro _ | apply And.intro
 all_goals first | assumption | trace_state
instance s25Tail_c : HC 93 (∀ (W : World) (d : Kd) (v : Value), IsKd v d →Sp W [keepA d] 93 #[v] (RWk (α := {d2 : Kd // d2.W = d.W ∧ d2.f = d.f}) (ι := Unit) (fun x => IsKd x.1.v x.1) (fun x _ => x.1.v) (fun x _ => [keepA x.1]) [])) := by
 refine ⟨fun W d v hv => ?_⟩
 refine gENTO (vs := [_]) Tryz.func93 (fun S0 => cKV (d := d) (k := fun hok => ?_))
 obtain ⟨a, c, xs, e, hc, hs⟩ := hok
 have e2 : v = .slice a xs.length c := (show d.v = v from by unfold IsKd at hv; exact hv).symm.trans e
 subst e2
 have hln := hs.1
 simp only [maxLen] at hln
 repeat' first | (refine idAT ?_; refine gtC ?_; refine aCK (d := d) (hs9 := hs) (h0 := by omega) (hc := hc) (k := ?_)) | refine STD ?_ | refine ST ?_ | refine ST2 ?_ | intro _ | apply And.intro
 · exact rWN (⟨d, rfl, rfl⟩ : {d2 : Kd // d2.W = d.W ∧ d2.f = d.f}) () (by unfold IsKd; rfl) (plS PU pl0) (by rw [e])
 · rename_i a9 h9
   refine rWN (⟨⟨d.W, d.f, .slice a9 (xs.drop 1).length (c - 1)⟩, rfl, rfl⟩ : {d2 : Kd // d2.W = d.W ∧ d2.f = d.f}) () ?_ (js := [0]) (R2 := []) ?_ ?_
   · unfold IsKd; rfl
   · exact plS PU pl0
   · rfl
theorem scanGo_len : ∀ (n : Nat) (x : House) (k : Int), (scanGo n x k).2.length ≤ n
  | 0, x, k => by simp [scanGo]
  | n + 1, x, k => by
    unfold scanGo
    split
    · simp
    · have := scanGo_len n (offeredM x k) k
      simp only [List.length_cons]; omega
theorem scan_len40 (h : House) (k : Int) : (scan h k).2.length ≤ 40 := by
  unfold scan
  split
  · rename_i hb
    have h1 := (expire_hp hb).1.len
    have h2 := waits_le (expireM h k).parties
    exact Nat.le_trans (scanGo_len _ _ _) (by omega)
  · simp
end SX
end Go.Proofs.YtapbooddmdkgjaaGreat
/- The draw of the law of the judge. -/
namespace Go.Proofs.YtapbooddmdkgjaaGreat
namespace SX
open Go Go.RowKit
set_option linter.unusedVariables false
set_option linter.unusedSimpArgs false
set_option maxRecDepth 10000
set_option maxHeartbeats 1000000
attribute [local irreducible] CD DN OPL AT QL QT CND RETG BKP HL HT HO slA slHo slP ptC pull pulls
attribute [local irreducible] curO keepA RWk IsCur IsKd
instance sDrawJudgeScan_c : HC 33 (∀ (W : World) (d : Kd) (v : Value), IsKd v d →Sp W [keepA d] 33 #[v] (RWk (α := House × Int × List Int) (ι := H5 × HH) (fun x => HouseSz x.1) (W3v hV (fun z : Int => vi z) wli) (W3o hO9 oli) [keepA d])) := by
 refine ⟨fun W d v hv => ?_⟩
 refine gENTO (vs := [_]) Tryz.func33 (fun S0 => cKV (d := d) (k := fun hok => ?_))
 have hsl : ∀ (x : House × Int), (scan x.1 x.2).2.length ≤ 40 := fun x => scan_len40 x.1 x.2
 have hwl : ∀ (x : House × Int), wr (((scan x.1 x.2).2.length : Int) + 1) = ((scan x.1 x.2).2.length : Int) + 1 := fun x => wr_of (by have := hsl x; omega) (by have := hsl x; omega)
 repeat' first | exact ‹HouseSz _› | (refine idRN ?_; refine cCK (k := ?_)) | (refine idRN ?_; refine cKT (d := (‹{d2 : Kd // d2.W = d.W ∧ d2.f = d.f}› : {d2 : Kd // d2.W = d.W ∧ d2.f = d.f}).1) (d2 := d) (h1 := by have h9 := (‹{d2 : Kd // d2.W = d.W ∧ d2.f = d.f}› : {d2 : Kd // d2.W = d.W ∧ d2.f = d.f}).2; exact h9.1.symm) (h2 := by have h9 := (‹{d2 : Kd // d2.W = d.W ∧ d2.f = d.f}› : {d2 : Kd // d2.W = d.W ∧ d2.f = d.f}).2; exact h9.2.symm) (h3 := hok) (k := ?_)) | (refine idRET ?_; refine rW3 (h1 := RPW) (h3 := RPW) (hO := plS PU pl0) (hP := ?_)) | (refine idAT ?_; refine gtC ?_; have h77 := hwl ‹House × Int›; refine aCHO (h0 := by omega) (hz := by omega) (k := ?_)) | (refine idAT ?_; refine gtP ?_; have h78 := hsl ‹House × Int›; refine aAPO (k := ?_)) | refine STD ?_ | refine ST ?_ | refine ST2 ?_ | refine ST3 ?_ | intro _ | apply And.intro
 all_goals trace_state
end SX
end Go.Proofs.YtapbooddmdkgjaaGreat
