/- strings.Join, strings.Split: from the library's contracts to the logic's. It imports no program. -/
import Derived.Test.YtcbpmjfjdjpalaaGreatDoorMdl6
import Derived.Lib.Join
namespace Go.Proofs.YtcbpmjfjdjpalaaGreatDoor
namespace SX
set_option linter.unusedVariables false
set_option linter.unusedSimpArgs false
open Go Go.RowKit
/-- internal/bytealg.MaxLen holds a number -/
def MaxL (P : Program) (w : World) : Prop := ∃ m, w.cell? ⟨0, 0, none⟩ = some (.int .i64 m)
theorem MaxL.fr {P : Program} {W w : World} (h : MaxL P W) (hf : Fr [] W w) : MaxL P w := by
  obtain ⟨m, hm⟩ := h
  refine ⟨m, ?_⟩
  rw [World.cell?_of_block (w := W) (a := ⟨0, 0, none⟩) (hf.block 0 (World.block_lt_of_cell? _ _ hm) (by simp))]
  exact hm
theorem Spec.below {P : Program} {W : World} {f : FuncId} {vs : Array Value} {v : Value} (hc : Calls P f vs W fun e w' => e = .returned v ∧ Below W.heap.size W w') : Spec P W [] f vs (RV v) := by
  intro fps hh hn
  refine hc.mono ?_
  rintro e w' ⟨rfl, hb⟩
  exact ⟨(), [], rfl, trivial, by simp, by simp, ⟨hb.os, hb.tape, hb.output, hb.size, fun b hlt _ => hb.block b hlt⟩⟩
theorem map_bs (xs : List (List UInt8)) : (xs.map bs).map (fun x : ByteArray => x.data.toList) = xs := by
  rw [List.map_map]
  exact (List.map_congr_left fun x _ => rfl).trans (List.map_id xs)
theorem Spec.joined {P : Program} {W : World} {f : FuncId} {xs : List (List UInt8)} {a : Option Addr} {c : Nat} {sep : List UInt8} (h : Rd strL W a xs) (hc : xs.length ≤ c) (hl : (Lib.join xs sep).length ≤ 140737488355328) (hm : xs.length ≤ 140737488355328)
    (J : ∀ (bk o c : Nat) (xs : List ByteArray) (sep : ByteArray) (hcells : ∀ (j : Nat) x, xs[j]? = some x → W.cell? ⟨bk, o + j, none⟩ = some (.string x)) (hbk : bk < W.heap.size) (hN : xs.length ≤ 140737488355328) (hcap : xs.length ≤ c)
      (hlen : (Lib.join (xs.map (·.data.toList)) sep.data.toList).length ≤ 140737488355328),
      Calls P f #[.slice (some ⟨bk, o, none⟩) xs.length c, .string sep] W fun e w' => e = .returned (.string ⟨(Lib.join (xs.map (·.data.toList)) sep.data.toList).toArray⟩) ∧ Below W.heap.size W w')
    (J0 : ∀ (a : Option Addr) (c : Nat) (sep : ByteArray), Calls P f #[.slice a 0 c, .string sep] W fun e w' => e = .returned (.string ⟨#[]⟩) ∧ w' = W) :
    Spec P W [] f #[.slice a xs.length c, .string (bs sep)] (RV (.string (bs (Lib.join xs sep)))) := by
  obtain ⟨fr, hm', h⟩ := h
  rcases h with ⟨rfl, _⟩ | ⟨b, o, g, cells, rfl, h2, rfl, h4, h5⟩
  · refine Spec.below ((J0 a c (bs sep)).mono ?_)
    rintro e w' ⟨rfl, rfl⟩
    exact ⟨rfl, Below.refl _ _⟩
  · have hs := J b o c (xs.map bs) (bs sep) (fun j x hx => ?_) h2 (by simpa using hm) (by simpa using hc) (by rw [map_bs]; exact hl)
    · rw [List.length_map, map_bs] at hs
      exact Spec.below hs
    · obtain ⟨rfl, _⟩ := flat_cells h4
      rw [List.getElem?_map] at hx
      obtain ⟨y, hy, rfl⟩ := Option.map_eq_some_iff.1 hx
      have hlt : j < xs.length := (List.getElem?_eq_some_iff.1 hy).1
      have he : xs.flatMap (fun z => [Value.string (bs z)]) = xs.map (fun z => Value.string (bs z)) := List.map_eq_flatMap.symm
      have := h5 j (by rw [he, List.length_map]; exact hlt)
      rw [this, he, List.getElem?_map, hy]
      rfl
theorem Spec.split {P : Program} {W : World} {f : FuncId} {s sep : List UInt8} {e : TypeId} (h1 : sep.length = 1) (hl : s.length ≤ 1048576) (hmx : MaxL P W)
    (J : ∀ (s sep : ByteArray) (m : Int) (hs : s.size < 4294967281) (hm : W.cell? ⟨0, 0, none⟩ = some (.int .i64 m)) (h1 : 1 ≤ sep.size), Calls P f #[.string s, .string sep] W fun e' w' =>
      e' = .returned (.slice (some ⟨W.heap.size, 0, none⟩) (Lib.countB s sep + 1) (Lib.countB s sep + 1)) ∧ w' = W.alloc (.cells ((Lib.splitB sep 0 (Lib.countB s sep) s).map Value.string).toArray e)) :
    Spec P W [] f #[.string (bs s), .string (bs sep)] ⟨HH, fun p => .slice p.1 (parts s (sep.headD 0)).length p.2, fun p => [slA e strL (.slice p.1 (parts s (sep.headD 0)).length p.2) (parts s (sep.headD 0))]⟩ := by
  obtain ⟨c, rfl⟩ : ∃ c, sep = [c] := by
    match sep, h1 with
    | [c], _ => exact ⟨c, rfl⟩
  obtain ⟨m, hm⟩ := hmx
  intro fps hh hn
  refine (J (bs s) (bs [c]) m (by rw [bs_size]; omega) hm (by rw [bs_size]; simp)).mono ?_
  have hcb : Lib.countB (bs s) (bs [c]) = s.count c := Lib.count_one c s
  have hp : (Lib.splitB (bs [c]) 0 (s.count c) (bs s)).map (·.data.toList) = parts s c := by
    rw [Lib.splitB_data]
    exact splitK_parts c _ s rfl
  have hpl : (Lib.splitB (bs [c]) 0 (s.count c) (bs s)).length = s.count c + 1 := Lib.splitB_all (bs [c]) (by rw [bs_size]; simp) 0 _ _ hcb
  have hlen : (parts s c).length = s.count c + 1 := by rw [← hp, List.length_map, hpl]
  have hcells : (Lib.splitB (bs [c]) 0 (s.count c) (bs s)).map Value.string = (parts s c).flatMap (fun z => [Value.string (bs z)]) := by
    rw [← hp, ← List.map_eq_flatMap, List.map_map]
    refine List.map_congr_left fun x _ => ?_
    rfl
  rintro e' w' ⟨rfl, rfl⟩
  rw [hcb, hcells]
  have hmax := (parts_len s c).2
  have hcl : ((parts s c).flatMap (fun z => [Value.string (bs z)])).length = (parts s c).length := by rw [← List.map_eq_flatMap, List.length_map]
  refine ⟨(some ⟨W.heap.size, 0, none⟩, s.count c + 1), [[W.heap.size]], ?_, ⟨⟨_, [], ?_, by simp [Value.ownBlock], cellsRep_flat _, by simp only [maxLen, List.headD_cons]; omega⟩, trivial⟩, by simp, ?_, ?_⟩
  · simp [hlen]
  · have := ownsR.of (World.ownsRow_lit (base := 0) (e := e) (size := 1) W ((parts s c).flatMap (fun z => [Value.string (bs z)])).toArray (parts s c).length (Nat.zero_le _) (by simp only [maxLen]; omega) (by simp [hcl]))
    rw [hlen] at this
    simpa [strL, flat, hlen] using this
  · intro b hb hlt; simp at hb; omega
  · exact ⟨rfl, rfl, rfl, by simp, fun b hb _ => Below.heap_alloc _ _ _ hb⟩
end SX
end Go.Proofs.YtcbpmjfjdjpalaaGreatDoor
