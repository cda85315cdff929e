/- The law FnChain holds for every input: freed seats affect only the cabins of the chain. -/
import Derived.Test.YtejojcoaohlfbaaGreatLF
import Derived.Test.YtejojcoaohlfbaaGreatSx9
import Derived.Test.YtejojcoaohlfbaaGreatRows
import Derived.ShutString
import Derived.ChangeOld
import Derived.Carry
import Derived.Test.YtejojcoaohlfbaaGreatMdc2
namespace Go.Proofs.YtejojcoaohlfbaaGreat
namespace SX
open Go Go.RowKit Go.ChangeShapes Go.WideShapes Go.ChangeAt
open Go.ChangeMaps (open_string shut_string)
set_option linter.unusedVariables false
theorem fnChain_k_own : ownKnob Tryz.prog.godebug = none := by kernel_rfl
theorem fnChain_k_laid : laidOutB Tryz.prog = true := by kernel_rfl
set_option maxRecDepth 100000 in
theorem fnChain_k_lifted (os : Os) (started : os.Started) (H : Type) (enc : TypeId × Value → H) :
 ReturnsInHanded {} Tryz.checked os 10 .any (Rows.fnChainSpec.pre6 enc Tryz.prog Tryz.f10 Rows.fnChainRow.domain false) (Rows.fnChainSpec.post enc Tryz.prog Tryz.f10 false true false false) := by
 refine returnsInHanded_of_change (C := Tryz.checked) fnChain_k_own started (by kernel_rfl) Tryz.func10
  (ChangeSpec.witness6 (enc := enc) (C := Tryz.checked) false ⟨#[], #[.slice none 0 0], []⟩ 8 (by kernel_rfl) (by kernel_rfl) (by kernel_rfl) (by kernel_rfl)) ?_
 intro W base args ds gs before hval0 hW hcnd _
 have hval : ∀ (j : Nat) t v, Tryz.f10.params[j]? = some t → args[j]? = some v → Value.okWide Tryz.prog W .any base t v := hval0
 have hW' := hW
 obtain ⟨p, q, hA0, hV, rfl, hfz, hnd⟩ := hW
 have hA : DataW.TrodAll enc Tryz.prog W 0 (fun _ => true) true Tryz.f10.params.toList args.toList ds p := hA0
 rw [Tryz.params10] at hA hval
 obtain ⟨v0, vs0, d0, ds0, p0, q0, hargs, rfl, rfl, h0, r0⟩ := trodAll_cons hA
 obtain ⟨rfl, rfl, rfl⟩ := trodAll_nil r0
 obtain rfl : args = #[v0] := by cases args; simp_all
 obtain ⟨rfl, rfl⟩ := trodVars_none hV
 have k0 := h0
 have lt0 : ∀ x ∈ p0, x.block < W.heap.size := by obtain ⟨m, hm⟩ := k0; exact DataW.trod_lt m _ _ _ hm
 obtain ⟨ha0, len0, hk0, rfl⟩ := okWide_slice Tryz.underlying55 (hval 0 55 v0 rfl rfl)
 obtain ⟨fuel0, hf0⟩ := h0
 obtain ⟨a0, f0, ⟨b0, c0, e0, hr0⟩, _⟩ := (open_sl 5 (zbX Tryz.underlying5) Tryz.underlying55 (by kernel_rfl) (by decide)) _ _ _ _ _ _ _ _ _ hf0
 simp only [Value.cells, List.cons.injEq, and_true, Value.slice.injEq] at e0
 obtain ⟨rfl, rfl, rfl⟩ := e0
 simp only [Bool.false_eq_true, if_false] at hr0
 clear hA0 hval0
 refine (fnChain_k W a0 ha0 hk0 ⟨f0, hr0.2⟩ hr0.1).mono fun e W' ⟨he, bel⟩ => ?_
 subst he
 exact ⟨_, rfl, _, _, _, [], _, [], hW', trodAll_mk1 (shut_bool Tryz.underlying4 _), (trodAll_cons_mk (Below.trod fnChain_k_laid (by kernel_rfl) (of_decide_eq_true (by kernel_rfl)) k0 bel lt0) trodAll_mk0), rfl, bel.frame _, fun h => by cases h⟩
theorem and_mk9 {a b : Bool} (h1 : a = true) (h2 : b = true) : (a && b) = true := by rw [h1, h2]; rfl
theorem fnChain_k_named : Tryz.pinned.checked.prog.funcNamed Rows.fnChainRow.func = some 10 := by kernel_rfl
set_option maxHeartbeats 0 in
set_option maxRecDepth 100000 in
theorem fnChain_k_joined : joinedFacts Tryz.pinned.checked.prog 10 Tryz.f10 Rows.fnChainSpec Rows.fnChainRow = true := by
 unfold joinedFacts
 repeat' (with_reducible refine and_mk9 ?_ ?_)
 all_goals (as_aux_lemma => kernel_rfl)
theorem fnChain_k_over : Rows.fnChainRow.holds Tryz.pinned (OpenSpec.ofChange Rows.fnChainSpec) :=
 OpenClaim.holds_of_wide 10 Tryz.f10 rfl rfl rfl rfl rfl rfl rfl ⟨rfl, rfl, rfl, rfl, rfl⟩ rfl rfl rfl rfl rfl fnChain_k_named Tryz.func10 fnChain_k_joined
  (of_decide_eq_true (by kernel_rfl)) (by unfold Func.isWrapper; first | (rw [if_pos (by decide +kernel)]; kernel_rfl) | (rw [if_neg (by decide +kernel)]; exact ⟨rfl, rfl⟩))
  (fun os started H enc _ => fnChain_k_lifted os started H enc)
end SX
theorem fnChain_k_holds : Rows.FnChainSaid := SX.fnChain_k_over
#print axioms fnChain_k_holds
end Go.Proofs.YtejojcoaohlfbaaGreat
