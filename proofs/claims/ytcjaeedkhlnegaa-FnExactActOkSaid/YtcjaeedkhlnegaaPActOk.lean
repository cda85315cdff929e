/- The law FnExactActOk. -/
import Derived.Test.YtcjaeedkhlnegaaW5
import Derived.Test.YtcjaeedkhlnegaaSx9
import Derived.Test.YtcjaeedkhlnegaaRows
import Derived.ShutString
import Derived.ChangeOld
import Derived.Carry
namespace Go.Proofs.Ytcjaeedkhlnegaa
namespace SX
open Go Go.RowKit Go.ChangeShapes Go.WideShapes Go.ChangeAt
open Go.ChangeMaps (open_string shut_string)
set_option linter.unusedVariables false
theorem openS_36 {H : Type} {enc : TypeId × Value → H} {w : World} {base : Nat} {spare : Nat → Bool} {held : Bool} {fuel : Nat} {cs : List Value} {x : DataW H × List MemPlace} (h : DataW.trod enc Try.prog w base spare held fuel 36 cs = some x) :
    ∃ (r : Req), cs = [vi r.kind, vi r.id, vi r.cabin, vi r.from', vi r.size, vi r.tier] := by
  have hl := struct_len Try.underlying36 h (n := 6) (by kernel_rfl)
  match cs, hl with
  | [c0, c1, c2, c3, c4, c5], _ =>
    obtain ⟨_, _, g0⟩ := field_at Try.underlying36 h 0 3 0 1 (by kernel_rfl) (by kernel_rfl)
    obtain ⟨x0, _, ⟨e0, _⟩, _⟩ := open_int' Try.underlying3 _ _ _ _ _ _ _ _ _ g0
    obtain rfl : c0 = vi x0 := by simpa using e0
    obtain ⟨_, _, g1⟩ := field_at Try.underlying36 h 1 3 1 1 (by kernel_rfl) (by kernel_rfl)
    obtain ⟨x1, _, ⟨e1, _⟩, _⟩ := open_int' Try.underlying3 _ _ _ _ _ _ _ _ _ g1
    obtain rfl : c1 = vi x1 := by simpa using e1
    obtain ⟨_, _, g2⟩ := field_at Try.underlying36 h 2 3 2 1 (by kernel_rfl) (by kernel_rfl)
    obtain ⟨x2, _, ⟨e2, _⟩, _⟩ := open_int' Try.underlying3 _ _ _ _ _ _ _ _ _ g2
    obtain rfl : c2 = vi x2 := by simpa using e2
    obtain ⟨_, _, g3⟩ := field_at Try.underlying36 h 3 3 3 1 (by kernel_rfl) (by kernel_rfl)
    obtain ⟨x3, _, ⟨e3, _⟩, _⟩ := open_int' Try.underlying3 _ _ _ _ _ _ _ _ _ g3
    obtain rfl : c3 = vi x3 := by simpa using e3
    obtain ⟨_, _, g4⟩ := field_at Try.underlying36 h 4 3 4 1 (by kernel_rfl) (by kernel_rfl)
    obtain ⟨x4, _, ⟨e4, _⟩, _⟩ := open_int' Try.underlying3 _ _ _ _ _ _ _ _ _ g4
    obtain rfl : c4 = vi x4 := by simpa using e4
    obtain ⟨_, _, g5⟩ := field_at Try.underlying36 h 5 3 5 1 (by kernel_rfl) (by kernel_rfl)
    obtain ⟨x5, _, ⟨e5, _⟩, _⟩ := open_int' Try.underlying3 _ _ _ _ _ _ _ _ _ g5
    obtain rfl : c5 = vi x5 := by simpa using e5
    exact ⟨⟨x0, x1, x2, x3, x4, x5⟩, rfl⟩

theorem openS_38 {H : Type} {enc : TypeId × Value → H} {w : World} {base : Nat} {spare : Nat → Bool} {held : Bool} {fuel : Nat} {cs : List Value} {x : DataW H × List MemPlace} (h : DataW.trod enc Try.prog w base spare held fuel 38 cs = some x) :
    ∃ (r : Act) (r_keep_a : Option Addr) (r_keep_c : Nat), cs = [vi r.kind, vi r.req.kind, vi r.req.id, vi r.req.cabin, vi r.req.from', vi r.req.size, vi r.req.tier, vi r.n, .slice r_keep_a r.keep.length r_keep_c] ∧ Rd intL w r_keep_a r.keep := by
  have hl := struct_len Try.underlying38 h (n := 9) (by kernel_rfl)
  match cs, hl with
  | [c0, c1, c2, c3, c4, c5, c6, c7, c8], _ =>
    obtain ⟨_, _, g0⟩ := field_at Try.underlying38 h 0 3 0 1 (by kernel_rfl) (by kernel_rfl)
    obtain ⟨x0, _, ⟨e0, _⟩, _⟩ := open_int' Try.underlying3 _ _ _ _ _ _ _ _ _ g0
    obtain rfl : c0 = vi x0 := by simpa using e0
    obtain ⟨_, _, g1⟩ := field_at Try.underlying38 h 1 36 1 6 (by kernel_rfl) (by kernel_rfl)
    obtain ⟨x1, e1⟩ := openS_36 g1
    simp only [List.drop, List.take, List.cons.injEq, and_true] at e1
    obtain ⟨rfl, rfl, rfl, rfl, rfl, rfl⟩ := e1
    obtain ⟨_, _, g2⟩ := field_at Try.underlying38 h 2 3 7 1 (by kernel_rfl) (by kernel_rfl)
    obtain ⟨x2, _, ⟨e2, _⟩, _⟩ := open_int' Try.underlying3 _ _ _ _ _ _ _ _ _ g2
    obtain rfl : c7 = vi x2 := by simpa using e2
    obtain ⟨_, _, g3⟩ := field_at Try.underlying38 h 3 24 8 1 (by kernel_rfl) (by kernel_rfl)
    obtain ⟨x3, f3, ⟨a3, k3, e3, hr3⟩, _⟩ := (open_sl 3 (open_int' Try.underlying3) Try.underlying24 (by kernel_rfl) (by decide)) _ _ _ _ _ _ _ _ _ g3
    obtain rfl : c8 = .slice a3 x3.length k3 := by simpa using e3
    exact ⟨⟨x0, x1, x2, x3⟩, a3, k3, rfl, ⟨f3, by simpa using hr3⟩⟩

theorem exActOk_c_own : ownKnob Try.prog.godebug = none := by kernel_rfl
theorem exActOk_c_laid : laidOutB Try.prog = true := by kernel_rfl
set_option maxRecDepth 100000 in
theorem exActOk_c_lifted (os : Os) (started : os.Started) (H : Type) (enc : TypeId × Value → H) :
    ReturnsInHanded {} Try.checked os 6 .any (Rows.fnExactActOkSpec.pre6 enc Try.prog Try.f6 Rows.fnExactActOkRow.domain false) (Rows.fnExactActOkSpec.post enc Try.prog Try.f6 false true false false) := by
  refine returnsInHanded_of_change (C := Try.checked) exActOk_c_own started (by kernel_rfl) Try.func6
    (ChangeSpec.witness6 (enc := enc) (C := Try.checked) false ⟨#[], #[.agg #[.int .i64 0, .int .i64 0, .int .i64 0, .int .i64 0, .int .i64 0, .int .i64 0, .int .i64 0, .int .i64 0, .slice none 0 0]], []⟩ 8 (by kernel_rfl) (by kernel_rfl) (by kernel_rfl) (by kernel_rfl)) ?_
  intro W base args ds gs before hval0 hW hcnd _
  have hval : ∀ (j : Nat) t v, Try.f6.params[j]? = some t → args[j]? = some v → Value.okWide Try.prog W .any base t v := hval0
  have hW' := hW
  obtain ⟨p, q, hA0, hV, rfl, hfz, hnd⟩ := hW
  have hA : DataW.TrodAll enc Try.prog W 0 (fun _ => true) true Try.f6.params.toList args.toList ds p := hA0
  rw [Try.params6] at hA hval
  obtain ⟨v0, vs0, d0, ds0, p0, q0, hargs, rfl, rfl, h0, r0⟩ := trodAll_cons hA
  obtain ⟨rfl, rfl, rfl⟩ := trodAll_nil r0
  obtain rfl : args = #[v0] := by cases args; simp_all
  obtain ⟨rfl, rfl⟩ := trodVars_none hV
  have k0 := h0
  have lt0 : ∀ x ∈ p0, x.block < W.heap.size := by obtain ⟨m, hm⟩ := k0; exact DataW.trod_lt m _ _ _ hm
  obtain ⟨⟨cs0⟩, rfl, _⟩ := okWide_struct Try.underlying38 (hval 0 38 v0 rfl rfl)
  obtain ⟨fuel0, hf0⟩ := h0
  obtain ⟨a0, ha0_0, hk0_0, rfl, hr0_0⟩ := openS_38 (cs := cs0) hf0
  clear hA0 hval0
  refine (Spec.law (exActOk_c W a0 ha0_0 hk0_0 hr0_0)).mono fun e W' ⟨he, bel⟩ => ?_
  subst he
  exact ⟨_, rfl, _, _, _, [], _, [], hW', trodAll_mk1 (shut_bool Try.underlying4 _), (trodAll_cons_mk (Below.trod exActOk_c_laid (by kernel_rfl) (of_decide_eq_true (by kernel_rfl)) k0 bel lt0) trodAll_mk0), rfl, bel.frame _, fun h => by cases h⟩

theorem exActOk_c_over : Rows.fnExactActOkRow.holds Try.pinned (OpenSpec.ofChange Rows.fnExactActOkSpec) :=
  OpenClaim.holds_of_wide 6 Try.f6 rfl rfl rfl rfl rfl rfl rfl ⟨rfl, rfl, rfl, rfl, rfl⟩ rfl rfl rfl rfl rfl (by kernel_rfl) Try.func6 (by kernel_rfl)
    (of_decide_eq_true (by kernel_rfl)) (by unfold Func.isWrapper; first | (rw [if_pos (by decide +kernel)]; kernel_rfl) | (rw [if_neg (by decide +kernel)]; exact ⟨rfl, rfl⟩))
    (fun os started H enc _ => exActOk_c_lifted os started H enc)
end SX
theorem exActOk_holds : Rows.FnExactActOkSaid := SX.exActOk_c_over
#print axioms exActOk_holds
end Go.Proofs.Ytcjaeedkhlnegaa
