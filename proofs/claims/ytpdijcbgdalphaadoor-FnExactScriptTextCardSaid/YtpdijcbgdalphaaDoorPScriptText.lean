/- The statement FnExactScriptText holds of the program: the reference and the program return the same line for every argument that the form allows, and the arguments stay as they were. -/
import Derived.Test.YtpdijcbgdalphaaDoorV3
import Derived.Test.YtpdijcbgdalphaaDoorSx9
import Derived.Test.YtpdijcbgdalphaaDoorRows
import Derived.Test.YtpdijcbgdalphaaDoorCards
import Derived.Test.YtpdijcbgdalphaaDoorTie
import Derived.LaidMore
import Derived.OpenShut
import Derived.Stop.Joined
import Derived.Stop.LaidErr
import Derived.SevenTiedAt
import Derived.ShutString
import Derived.ChangeOld
import Derived.Carry
namespace Go.Proofs.YtpdijcbgdalphaaDoor
namespace SX
open Go Go.RowKit Go.ChangeShapes Go.WideShapes Go.ChangeAt
open Go.ChangeMaps (open_string shut_string)
set_option linter.unusedVariables false
theorem openS_60 {H : Type} {enc : TypeId × Value → H} {w : World} {base : Nat} {spare : Nat → Bool} {held : Bool} {fuel : Nat} {cs : List Value} {x : DataW H × List MemPlace} (h : DataW.trod enc Tryd.prog w base spare held fuel 60 cs = some x) :
    ∃ (r : Req), cs = [vi r.kind, vi r.id, vi r.cabin, vi r.from', vi r.size, vi r.tier] ∧ i64R r.kind ∧ i64R r.id ∧ i64R r.cabin ∧ i64R r.from' ∧ i64R r.size ∧ i64R r.tier := by
  have hl := struct_len Tryd.underlying60 h (n := 6) (by kernel_rfl)
  match cs, hl with
  | [c0, c1, c2, c3, c4, c5], _ =>
    obtain ⟨_, _, g0⟩ := field_at Tryd.underlying60 h 0 3 0 1 (by kernel_rfl) (by kernel_rfl)
    obtain ⟨x0, _, ⟨e0, _⟩, w0⟩ := open_int' Tryd.underlying3 _ _ _ _ _ _ _ _ _ g0
    obtain rfl : c0 = vi x0 := by simpa using e0
    obtain ⟨_, _, g1⟩ := field_at Tryd.underlying60 h 1 3 1 1 (by kernel_rfl) (by kernel_rfl)
    obtain ⟨x1, _, ⟨e1, _⟩, w1⟩ := open_int' Tryd.underlying3 _ _ _ _ _ _ _ _ _ g1
    obtain rfl : c1 = vi x1 := by simpa using e1
    obtain ⟨_, _, g2⟩ := field_at Tryd.underlying60 h 2 3 2 1 (by kernel_rfl) (by kernel_rfl)
    obtain ⟨x2, _, ⟨e2, _⟩, w2⟩ := open_int' Tryd.underlying3 _ _ _ _ _ _ _ _ _ g2
    obtain rfl : c2 = vi x2 := by simpa using e2
    obtain ⟨_, _, g3⟩ := field_at Tryd.underlying60 h 3 3 3 1 (by kernel_rfl) (by kernel_rfl)
    obtain ⟨x3, _, ⟨e3, _⟩, w3⟩ := open_int' Tryd.underlying3 _ _ _ _ _ _ _ _ _ g3
    obtain rfl : c3 = vi x3 := by simpa using e3
    obtain ⟨_, _, g4⟩ := field_at Tryd.underlying60 h 4 3 4 1 (by kernel_rfl) (by kernel_rfl)
    obtain ⟨x4, _, ⟨e4, _⟩, w4⟩ := open_int' Tryd.underlying3 _ _ _ _ _ _ _ _ _ g4
    obtain rfl : c4 = vi x4 := by simpa using e4
    obtain ⟨_, _, g5⟩ := field_at Tryd.underlying60 h 5 3 5 1 (by kernel_rfl) (by kernel_rfl)
    obtain ⟨x5, _, ⟨e5, _⟩, w5⟩ := open_int' Tryd.underlying3 _ _ _ _ _ _ _ _ _ g5
    obtain rfl : c5 = vi x5 := by simpa using e5
    exact ⟨⟨x0, x1, x2, x3, x4, x5⟩, rfl, w0, w1, w2, w3, w4, w5⟩
theorem open_req : Opens Tryd.prog 60 reqL (fun r => i64R r.kind ∧ i64R r.id ∧ i64R r.cabin ∧ i64R r.from' ∧ i64R r.size ∧ i64R r.tier) := by
  intro H enc w base spare held fuel cs x h
  obtain ⟨r, e, w0, w1, w2, w3, w4, w5⟩ := openS_60 h
  exact ⟨r, [], ⟨e, rfl⟩, ⟨w0, w1, w2, w3, w4, w5⟩⟩

theorem exScriptText_c_own : ownKnob Tryd.prog.godebug = none := by kernel_rfl
theorem exScriptText_c_laid : laidOutB Tryd.prog = true := by kernel_rfl
theorem exScriptText_c_door (os : Os) (args : Array Value) : laidMetH Tryd.prog Rows.fnExactScriptTextRow.laid ((World.doorLaid Tryd.prog 400 os).forCall (fun _ _ => 0) ⟨#[], args, []⟩).memory :=
  laidMetH_of_parts3 (fuel := 8) (laidMet_of_run' 8 (by kernel_rfl) (by kernel_rfl)) (by kernel_rfl) (by kernel_rfl)
set_option maxRecDepth 100000 in
theorem exScriptText_c_lifted (os : Os) (started : os.Started) (H : Type) (enc : TypeId × Value → H) :
    ReturnsInHanded {} Tryd.checked os 4 .any (fun w args => (Rows.fnExactScriptTextSpec.pre enc Tryd.prog Tryd.f4 [] false w args ∧ laidMetH Tryd.prog Rows.fnExactScriptTextRow.laid w) ∧ sizedMet enc Tryd.prog Tryd.f4 (OpenSpec.ofChange Rows.fnExactScriptTextSpec) false w args) (Rows.fnExactScriptTextSpec.post enc Tryd.prog Tryd.f4 false true false false) := by
  refine returnsInHanded_of_change_and (C := Tryd.checked) (X := fun w _ => laidMetH Tryd.prog Rows.fnExactScriptTextRow.laid w) (fun _ _ _ hh h => h.of_heap hh) exScriptText_c_own started (by kernel_rfl) Tryd.func4
    (ChangeSpec.witness_shaped (enc := enc) (C := Tryd.checked) (os := os) (X := fun w _ => laidMetH Tryd.prog Rows.fnExactScriptTextRow.laid w) false (World.doorLaid Tryd.prog 400 os) #[.slice none 0 0] 8 rfl (World.shaped_of_RefB (by kernel_rfl) (by kernel_rfl)) (by kernel_rfl) (by kernel_rfl) (by kernel_rfl) (exScriptText_c_door os _)) ?_
  intro W base args ds gs before hval0 hW hcnd _ hL0 _
  have hL := hL0
  rw [MakeChecks.laidMetH_plain _ _ _ (by kernel_rfl)] at hL
  have htab : Tab Tryd.prog W := Lib.tabIs_of_head (k := .u64) (zs := Lib.pow10Tab) (g := 1) (t := 107) (e := 100) (n := 20) (by kernel_rfl) (by kernel_rfl) (by kernel_rfl) (by kernel_rfl) (by kernel_rfl) (by kernel_rfl) (laidMet.tail (laidMet.tail (hL)))
  have hval : ∀ (j : Nat) t v, Tryd.f4.params[j]? = some t → args[j]? = some v → Value.okWide Tryd.prog W .any base t v := hval0
  have hW' := hW
  obtain ⟨p, q, hA0, hV, rfl, hfz, hnd⟩ := hW
  have hA : DataW.TrodAll enc Tryd.prog W 0 (fun _ => true) true Tryd.f4.params.toList args.toList ds p := hA0
  rw [Tryd.params4] at hA hval
  obtain ⟨v0, vs0, d0, ds0, p0, q0, hargs, rfl, rfl, h0, r0⟩ := trodAll_cons hA
  obtain ⟨rfl, rfl, rfl⟩ := trodAll_nil r0
  obtain rfl : args = #[v0] := by cases args; simp_all
  obtain ⟨rfl, rfl⟩ := trodVars_none hV
  have k0 := h0
  have lt0 : ∀ x ∈ p0, x.block < W.heap.size := by obtain ⟨m, hm⟩ := k0; exact DataW.trod_lt m _ _ _ hm
  obtain ⟨ha0, len0, hk0, rfl⟩ := okWide_slice Tryd.underlying31 (hval 0 31 v0 rfl rfl)
  obtain ⟨fuel0, hf0⟩ := h0
  obtain ⟨a0, f0, ⟨b0, c0, e0, hr0⟩, _⟩ := (open_sl 60 open_req Tryd.underlying31 (by kernel_rfl) (by decide)) _ _ _ _ _ _ _ _ _ hf0
  simp only [Value.cells, List.cons.injEq, and_true, Value.slice.injEq] at e0
  obtain ⟨rfl, rfl, rfl⟩ := e0
  clear hA0 hval0
  refine (Spec.law (exScriptText_c W a0 ha0 hk0 ⟨f0, by simpa using hr0⟩ htab)).mono fun e W' ⟨he, bel⟩ => ?_
  subst he
  exact ⟨_, rfl, _, _, _, [], _, [], hW', trodAll_mk1 (shut_bool Tryd.underlying4 _), (trodAll_cons_mk (Below.trod exScriptText_c_laid (by kernel_rfl) (of_decide_eq_true (by kernel_rfl)) k0 bel lt0) trodAll_mk0), rfl, bel.frame _, fun h => by cases h⟩

theorem exScriptText_c_over : Rows.fnExactScriptTextRow.holds Tryd.pinned (OpenSpec.ofChange Rows.fnExactScriptTextSpec) :=
  OpenClaim.holds_of_wide 4 Tryd.f4 rfl rfl rfl rfl rfl rfl rfl ⟨rfl, rfl, rfl, rfl, rfl⟩ rfl rfl rfl rfl rfl (by kernel_rfl) Tryd.func4 (by kernel_rfl)
    (of_decide_eq_true (by kernel_rfl)) (by unfold Func.isWrapper; first | (rw [if_pos (by decide +kernel)]; kernel_rfl) | (rw [if_neg (by decide +kernel)]; exact ⟨rfl, rfl⟩))
    (fun os started H enc _ => exScriptText_c_lifted os started H enc)
end SX
theorem exScriptText_holds : Rows.FnExactScriptTextCardSaid :=
  Claim7.holds_tied_plain_at .later [] [.data, .data, .data] true (true, "e457d785c98077ded89951d9ccecf8a385f6e71891209c96905af7094baef333") false
    SX.exScriptText_c_over (fun _ h => by cases h) (by kernel_rfl) (fun _ h => by cases h) fnExactScriptText_row_tie rfl ⟨rfl, rfl⟩ (by kernel_rfl) rfl
    (fun f fn hf hfn => by
      obtain rfl : f = 4 := Option.some.inj ((show Tryd.prog.funcNamed "loop.example/g00494/laws.FnExactScriptText" = some 4 by kernel_rfl).symm.trans hf) |>.symm
      obtain rfl : fn = Tryd.f4 := (Option.some.inj (Tryd.func4.symm.trans hfn)).symm
      exact ⟨by kernel_rfl, fun j t ht => by
        rw [Tryd.params4] at ht
        have hm : t ∈ [31] := by simpa using Array.mem_of_getElem? ht
        have hall : ([31].all fun u => !Tryd.prog.wantsStandIn u) = true := by kernel_rfl
        exact (show Tryd.prog.wantsStandIn t = false by simpa using List.all_eq_true.1 hall t hm)⟩)
    (by kernel_rfl)
#print axioms exScriptText_holds
end Go.Proofs.YtpdijcbgdalphaaDoor
