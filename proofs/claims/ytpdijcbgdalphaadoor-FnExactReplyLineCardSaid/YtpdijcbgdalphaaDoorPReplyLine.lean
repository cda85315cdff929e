/- The statement FnExactReplyLine holds of the program: the reference and the program return the same line for every argument that the form allows, and the arguments stay as they were. -/
import Derived.Test.YtpdijcbgdalphaaDoorV3
import Derived.Test.YtpdijcbgdalphaaDoorSx9
import Derived.Test.YtpdijcbgdalphaaDoorRows
import Derived.Test.YtpdijcbgdalphaaDoorCards
import Derived.Test.YtpdijcbgdalphaaDoorTie
import Derived.LaidMore
import Derived.OpenShut
import Derived.Stop.Joined
import Derived.Stop.LaidErr
import Derived.SevenTiedAt
import Derived.ShutString
import Derived.ChangeOld
import Derived.Carry
namespace Go.Proofs.YtpdijcbgdalphaaDoor
namespace SX
open Go Go.RowKit Go.ChangeShapes Go.WideShapes Go.ChangeAt
open Go.ChangeMaps (open_string shut_string)
set_option linter.unusedVariables false
theorem openS_24 {H : Type} {enc : TypeId × Value → H} {w : World} {base : Nat} {spare : Nat → Bool} {held : Bool} {fuel : Nat} {cs : List Value} {x : DataW H × List MemPlace} (h : DataW.trod enc Tryd.prog w base spare held fuel 24 cs = some x) :
    ∃ (r : Reply) (r_ids_a : Option Addr) (r_ids_c : Nat), cs = [vi r.code, .slice r_ids_a r.ids.length r_ids_c] ∧ Rd intL w r_ids_a r.ids ∧ i64R r.code ∧ (∀ x ∈ r.ids, i64R x) := by
  have hl := struct_len Tryd.underlying24 h (n := 2) (by kernel_rfl)
  match cs, hl with
  | [c0, c1], _ =>
    obtain ⟨_, _, g0⟩ := field_at Tryd.underlying24 h 0 3 0 1 (by kernel_rfl) (by kernel_rfl)
    obtain ⟨x0, _, ⟨e0, _⟩, w0⟩ := open_int' Tryd.underlying3 _ _ _ _ _ _ _ _ _ g0
    obtain rfl : c0 = vi x0 := by simpa using e0
    obtain ⟨_, _, g1⟩ := field_at Tryd.underlying24 h 1 22 1 1 (by kernel_rfl) (by kernel_rfl)
    obtain ⟨x1, f1, ⟨a1, k1, e1, hr1⟩, w1⟩ := (open_sl 3 (open_int' Tryd.underlying3) Tryd.underlying22 (by kernel_rfl) (by decide)) _ _ _ _ _ _ _ _ _ g1
    obtain rfl : c1 = .slice a1 x1.length k1 := by simpa using e1
    exact ⟨⟨x0, x1⟩, a1, k1, rfl, ⟨f1, by simpa using hr1⟩, w0, w1⟩

theorem exReplyLine_c_own : ownKnob Tryd.prog.godebug = none := by kernel_rfl
theorem exReplyLine_c_laid : laidOutB Tryd.prog = true := by kernel_rfl
theorem exReplyLine_c_door (os : Os) (args : Array Value) : laidMetH Tryd.prog Rows.fnExactReplyLineRow.laid ((World.doorLaid Tryd.prog 400 os).forCall (fun _ _ => 0) ⟨#[], args, []⟩).memory :=
  laidMetH_of_parts3 (fuel := 8) (laidMet_of_run' 8 (by kernel_rfl) (by kernel_rfl)) (by kernel_rfl) (by kernel_rfl)
set_option maxRecDepth 100000 in
theorem exReplyLine_c_lifted (os : Os) (started : os.Started) (H : Type) (enc : TypeId × Value → H) :
    ReturnsInHanded {} Tryd.checked os 3 .any (fun w args => (Rows.fnExactReplyLineSpec.pre enc Tryd.prog Tryd.f3 [] false w args ∧ laidMetH Tryd.prog Rows.fnExactReplyLineRow.laid w) ∧ sizedMet enc Tryd.prog Tryd.f3 (OpenSpec.ofChange Rows.fnExactReplyLineSpec) false w args) (Rows.fnExactReplyLineSpec.post enc Tryd.prog Tryd.f3 false true false false) := by
  refine returnsInHanded_of_change_and (C := Tryd.checked) (X := fun w _ => laidMetH Tryd.prog Rows.fnExactReplyLineRow.laid w) (fun _ _ _ hh h => h.of_heap hh) exReplyLine_c_own started (by kernel_rfl) Tryd.func3
    (ChangeSpec.witness_shaped (enc := enc) (C := Tryd.checked) (os := os) (X := fun w _ => laidMetH Tryd.prog Rows.fnExactReplyLineRow.laid w) false (World.doorLaid Tryd.prog 400 os) #[.agg #[.int .i64 0, .slice none 0 0]] 8 rfl (World.shaped_of_RefB (by kernel_rfl) (by kernel_rfl)) (by kernel_rfl) (by kernel_rfl) (by kernel_rfl) (exReplyLine_c_door os _)) ?_
  intro W base args ds gs before hval0 hW hcnd _ hL0 _
  have hL := hL0
  rw [MakeChecks.laidMetH_plain _ _ _ (by kernel_rfl)] at hL
  have htab : Tab Tryd.prog W := Lib.tabIs_of_head (k := .u64) (zs := Lib.pow10Tab) (g := 1) (t := 107) (e := 100) (n := 20) (by kernel_rfl) (by kernel_rfl) (by kernel_rfl) (by kernel_rfl) (by kernel_rfl) (by kernel_rfl) (laidMet.tail (laidMet.tail (hL)))
  have hval : ∀ (j : Nat) t v, Tryd.f3.params[j]? = some t → args[j]? = some v → Value.okWide Tryd.prog W .any base t v := hval0
  have hW' := hW
  obtain ⟨p, q, hA0, hV, rfl, hfz, hnd⟩ := hW
  have hA : DataW.TrodAll enc Tryd.prog W 0 (fun _ => true) true Tryd.f3.params.toList args.toList ds p := hA0
  rw [Tryd.params3] at hA hval
  obtain ⟨v0, vs0, d0, ds0, p0, q0, hargs, rfl, rfl, h0, r0⟩ := trodAll_cons hA
  obtain ⟨rfl, rfl, rfl⟩ := trodAll_nil r0
  obtain rfl : args = #[v0] := by cases args; simp_all
  obtain ⟨rfl, rfl⟩ := trodVars_none hV
  have k0 := h0
  have lt0 : ∀ x ∈ p0, x.block < W.heap.size := by obtain ⟨m, hm⟩ := k0; exact DataW.trod_lt m _ _ _ hm
  obtain ⟨⟨cs0⟩, rfl, _⟩ := okWide_struct Tryd.underlying24 (hval 0 24 v0 rfl rfl)
  obtain ⟨fuel0, hf0⟩ := h0
  obtain ⟨a0, ha0_0, hk0_0, rfl, hr0_0, hw0_0, hw0_1⟩ := openS_24 (cs := cs0) hf0
  clear hA0 hval0
  refine (Spec.law (exReplyLine_c W a0 ha0_0 hk0_0 hr0_0 hw0_1 htab)).mono fun e W' ⟨he, bel⟩ => ?_
  subst he
  exact ⟨_, rfl, _, _, _, [], _, [], hW', trodAll_mk1 (shut_bool Tryd.underlying4 _), (trodAll_cons_mk (Below.trod exReplyLine_c_laid (by kernel_rfl) (of_decide_eq_true (by kernel_rfl)) k0 bel lt0) trodAll_mk0), rfl, bel.frame _, fun h => by cases h⟩

theorem exReplyLine_c_over : Rows.fnExactReplyLineRow.holds Tryd.pinned (OpenSpec.ofChange Rows.fnExactReplyLineSpec) :=
  OpenClaim.holds_of_wide 3 Tryd.f3 rfl rfl rfl rfl rfl rfl rfl ⟨rfl, rfl, rfl, rfl, rfl⟩ rfl rfl rfl rfl rfl (by kernel_rfl) Tryd.func3 (by kernel_rfl)
    (of_decide_eq_true (by kernel_rfl)) (by unfold Func.isWrapper; first | (rw [if_pos (by decide +kernel)]; kernel_rfl) | (rw [if_neg (by decide +kernel)]; exact ⟨rfl, rfl⟩))
    (fun os started H enc _ => exReplyLine_c_lifted os started H enc)
end SX
theorem exReplyLine_holds : Rows.FnExactReplyLineCardSaid :=
  Claim7.holds_tied_plain_at .later [] [.data, .data, .data] true (true, "e457d785c98077ded89951d9ccecf8a385f6e71891209c96905af7094baef333") false
    SX.exReplyLine_c_over (fun _ h => by cases h) (by kernel_rfl) (fun _ h => by cases h) fnExactReplyLine_row_tie rfl ⟨rfl, rfl⟩ (by kernel_rfl) rfl
    (fun f fn hf hfn => by
      obtain rfl : f = 3 := Option.some.inj ((show Tryd.prog.funcNamed "loop.example/g00494/laws.FnExactReplyLine" = some 3 by kernel_rfl).symm.trans hf) |>.symm
      obtain rfl : fn = Tryd.f3 := (Option.some.inj (Tryd.func3.symm.trans hfn)).symm
      exact ⟨by kernel_rfl, fun j t ht => by
        rw [Tryd.params3] at ht
        have hm : t ∈ [24] := by simpa using Array.mem_of_getElem? ht
        have hall : ([24].all fun u => !Tryd.prog.wantsStandIn u) = true := by kernel_rfl
        exact (show Tryd.prog.wantsStandIn t = false by simpa using List.all_eq_true.1 hall t hm)⟩)
    (by kernel_rfl)
#print axioms exReplyLine_holds
end Go.Proofs.YtpdijcbgdalphaaDoor
