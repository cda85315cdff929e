/- The law FnExactNoteLen. -/
import Derived.Test.YtcjaeedkhlnegaaW7
import Derived.Test.YtcjaeedkhlnegaaSx9
import Derived.Test.YtcjaeedkhlnegaaRows
import Derived.ShutString
import Derived.ChangeOld
import Derived.Carry
namespace Go.Proofs.Ytcjaeedkhlnegaa
namespace SX
open Go Go.RowKit Go.ChangeShapes Go.WideShapes Go.ChangeAt
open Go.ChangeMaps (open_string shut_string)
set_option linter.unusedVariables false
theorem openS_36 {H : Type} {enc : TypeId × Value → H} {w : World} {base : Nat} {spare : Nat → Bool} {held : Bool} {fuel : Nat} {cs : List Value} {x : DataW H × List MemPlace} (h : DataW.trod enc Try.prog w base spare held fuel 36 cs = some x) :
    ∃ (r : Req), cs = [vi r.kind, vi r.id, vi r.cabin, vi r.from', vi r.size, vi r.tier] := by
  have hl := struct_len Try.underlying36 h (n := 6) (by kernel_rfl)
  match cs, hl with
  | [c0, c1, c2, c3, c4, c5], _ =>
    obtain ⟨_, _, g0⟩ := field_at Try.underlying36 h 0 3 0 1 (by kernel_rfl) (by kernel_rfl)
    obtain ⟨x0, _, ⟨e0, _⟩, _⟩ := open_int' Try.underlying3 _ _ _ _ _ _ _ _ _ g0
    obtain rfl : c0 = vi x0 := by simpa using e0
    obtain ⟨_, _, g1⟩ := field_at Try.underlying36 h 1 3 1 1 (by kernel_rfl) (by kernel_rfl)
    obtain ⟨x1, _, ⟨e1, _⟩, _⟩ := open_int' Try.underlying3 _ _ _ _ _ _ _ _ _ g1
    obtain rfl : c1 = vi x1 := by simpa using e1
    obtain ⟨_, _, g2⟩ := field_at Try.underlying36 h 2 3 2 1 (by kernel_rfl) (by kernel_rfl)
    obtain ⟨x2, _, ⟨e2, _⟩, _⟩ := open_int' Try.underlying3 _ _ _ _ _ _ _ _ _ g2
    obtain rfl : c2 = vi x2 := by simpa using e2
    obtain ⟨_, _, g3⟩ := field_at Try.underlying36 h 3 3 3 1 (by kernel_rfl) (by kernel_rfl)
    obtain ⟨x3, _, ⟨e3, _⟩, _⟩ := open_int' Try.underlying3 _ _ _ _ _ _ _ _ _ g3
    obtain rfl : c3 = vi x3 := by simpa using e3
    obtain ⟨_, _, g4⟩ := field_at Try.underlying36 h 4 3 4 1 (by kernel_rfl) (by kernel_rfl)
    obtain ⟨x4, _, ⟨e4, _⟩, _⟩ := open_int' Try.underlying3 _ _ _ _ _ _ _ _ _ g4
    obtain rfl : c4 = vi x4 := by simpa using e4
    obtain ⟨_, _, g5⟩ := field_at Try.underlying36 h 5 3 5 1 (by kernel_rfl) (by kernel_rfl)
    obtain ⟨x5, _, ⟨e5, _⟩, _⟩ := open_int' Try.underlying3 _ _ _ _ _ _ _ _ _ g5
    obtain rfl : c5 = vi x5 := by simpa using e5
    exact ⟨⟨x0, x1, x2, x3, x4, x5⟩, rfl⟩

theorem exNoteLen_c_own : ownKnob Try.prog.godebug = none := by kernel_rfl
theorem exNoteLen_c_laid : laidOutB Try.prog = true := by kernel_rfl
set_option maxRecDepth 100000 in
theorem exNoteLen_c_lifted (os : Os) (started : os.Started) (H : Type) (enc : TypeId × Value → H) :
    ReturnsInHanded {} Try.checked os 7 .any (Rows.fnExactNoteLenSpec.pre6 enc Try.prog Try.f7 Rows.fnExactNoteLenRow.domain false) (Rows.fnExactNoteLenSpec.post enc Try.prog Try.f7 false true false false) := by
  refine returnsInHanded_of_change (C := Try.checked) exNoteLen_c_own started (by kernel_rfl) Try.func7
    (ChangeSpec.witness6 (enc := enc) (C := Try.checked) false ⟨#[], #[.agg #[.int .i64 0, .int .i64 0, .int .i64 0, .int .i64 0, .int .i64 0, .int .i64 0]], []⟩ 8 (by kernel_rfl) (by kernel_rfl) (by kernel_rfl) (by kernel_rfl)) ?_
  intro W base args ds gs before hval0 hW hcnd _
  have hval : ∀ (j : Nat) t v, Try.f7.params[j]? = some t → args[j]? = some v → Value.okWide Try.prog W .any base t v := hval0
  have hW' := hW
  obtain ⟨p, q, hA0, hV, rfl, hfz, hnd⟩ := hW
  have hA : DataW.TrodAll enc Try.prog W 0 (fun _ => true) true Try.f7.params.toList args.toList ds p := hA0
  rw [Try.params7] at hA hval
  obtain ⟨v0, vs0, d0, ds0, p0, q0, hargs, rfl, rfl, h0, r0⟩ := trodAll_cons hA
  obtain ⟨rfl, rfl, rfl⟩ := trodAll_nil r0
  obtain rfl : args = #[v0] := by cases args; simp_all
  obtain ⟨rfl, rfl⟩ := trodVars_none hV
  have k0 := h0
  have lt0 : ∀ x ∈ p0, x.block < W.heap.size := by obtain ⟨m, hm⟩ := k0; exact DataW.trod_lt m _ _ _ hm
  obtain ⟨⟨cs0⟩, rfl, _⟩ := okWide_struct Try.underlying36 (hval 0 36 v0 rfl rfl)
  obtain ⟨fuel0, hf0⟩ := h0
  obtain ⟨a0, rfl⟩ := openS_36 (cs := cs0) hf0
  clear hA0 hval0
  refine (Spec.law (exNoteLen_c W a0)).mono fun e W' ⟨he, bel⟩ => ?_
  subst he
  exact ⟨_, rfl, _, _, _, [], _, [], hW', trodAll_mk1 (shut_bool Try.underlying4 _), (trodAll_cons_mk (Below.trod exNoteLen_c_laid (by kernel_rfl) (of_decide_eq_true (by kernel_rfl)) k0 bel lt0) trodAll_mk0), rfl, bel.frame _, fun h => by cases h⟩

theorem exNoteLen_c_over : Rows.fnExactNoteLenRow.holds Try.pinned (OpenSpec.ofChange Rows.fnExactNoteLenSpec) :=
  OpenClaim.holds_of_wide 7 Try.f7 rfl rfl rfl rfl rfl rfl rfl ⟨rfl, rfl, rfl, rfl, rfl⟩ rfl rfl rfl rfl rfl (by kernel_rfl) Try.func7 (by kernel_rfl)
    (of_decide_eq_true (by kernel_rfl)) (by unfold Func.isWrapper; first | (rw [if_pos (by decide +kernel)]; kernel_rfl) | (rw [if_neg (by decide +kernel)]; exact ⟨rfl, rfl⟩))
    (fun os started H enc _ => exNoteLen_c_lifted os started H enc)
end SX
theorem exNoteLen_holds : Rows.FnExactNoteLenSaid := SX.exNoteLen_c_over
#print axioms exNoteLen_holds
end Go.Proofs.Ytcjaeedkhlnegaa
