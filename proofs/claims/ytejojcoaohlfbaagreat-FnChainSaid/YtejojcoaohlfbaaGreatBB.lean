/- The program's side: a house is copied. -/
import Derived.Test.YtejojcoaohlfbaaGreatBF
import Derived.Test.YtejojcoaohlfbaaGreatAI
namespace Go.Proofs.YtejojcoaohlfbaaGreat
namespace SX
open Go Go.RowKit
set_option linter.unusedVariables false
set_option linter.unusedSimpArgs false
set_option maxRecDepth 10000
set_option maxHeartbeats 1000000
attribute [local irreducible] CD DN OPL AT QL QT CND RETG BKP HL HT HO slA slHo slP ptC pull pulls
instance iHouse_c : HC 89 (∀ (W : World) (cs : List Value) (h : House), HsR W cs h → HouseSz h →Sp W [] 89 #[.agg cs.toArray] (RHs h)) := by
 refine ⟨fun W cs h hh hsz => ?_⟩
 have hh1 := hh; obtain ⟨a1, c1, a2, c2, a3, c3, a4, c4, a5, c5, rfl, h1, h2, h3, h4, h5, h6, h7, h8, h9, h10⟩ := hh
 obtain ⟨z1, z2, z3, z4, z5, z6⟩ := hsz; have hl := h8.len
 refine gENT (vs := [_]) Tryz.func89 ?_
 repeat' ((fail_if_success (refine ghD ?_)); first | refine ST ?_ | intro _ | apply And.intro)
 refine hTL (hPAR [TS.at false [7, 8] [2] [(7, .v (.agg #[.slice a1 h.rules.seats.length c1, vi h.rules.tiers, vi h.rules.room, vi h.rules.size, vi h.rules.period, vi h.rules.window, vi h.rules.rest, vi h.rules.tries, vi h.rules.crew]))] _,
  TS.at false [14, 15] [9] [(14, .v (.slice a2 h.parties.length c2))] _, TS.at false [17, 18] [12] [(17, .v (.slice a4 h.todo.length c4))] _, TS.at false [20, 21] [15] [(20, .v (.slice a5 h.jobs.length c5))] _, TS.at true [3] [17] [] _] [16, 18] 2 [[[], [], [], [], []], [[], [], [], [], [17]]] (fun c => match c with | [_, _, _, _, []] => [0, 1, 2, 3, 4, 5, 6, 7, 8, 9, 10, 11, 12, 13, 14, 15, 17] | _ => [0, 1, 2, 3, 4, 5, 6, 7, 8, 9, 10, 11, 12, 13, 14, 15])
  ⟨thC (fn := 187) (vs := #[.agg #[.slice a1 h.rules.seats.length c1, vi h.rules.tiers, vi h.rules.room, vi h.rules.size, vi h.rules.period, vi h.rules.window, vi h.rules.rest, vi h.rules.tries, vi h.rules.crew]]) (d := 8) (hcon := by intro c Cr w hw; apply c <;> exact SIDE) (by simp [TS.at]) (by simp [TS.at]) (by intro Tr; kernel_rfl) (by exact NO rfl),
   thN (e := 91) (t := 35) (ty2 := 35) (s := .const (.slice none 0 0)) (x := .tmp 14) (c2 := c2) (d2 := 15) inferInstance h7 rfl (by omega) (by simp [TS.at]) (by simp [TS.at]) (by exact NL rfl) (by kernel_rfl) (by intro Tr; kernel_rfl) (by intro Tr; kernel_rfl) (by intro Tr; kernel_rfl),
   thC (fn := 188) (vs := #[.slice a4 h.todo.length c4]) (d := 18) (hcon := by intro c Cr w hw; apply c <;> exact SIDE) (by simp [TS.at]) (by simp [TS.at]) (by intro Tr; kernel_rfl) (by exact NO rfl),
   thC (fn := 188) (vs := #[.slice a5 h.jobs.length c5]) (d := 21) (hcon := by intro c Cr w hw; apply c <;> exact SIDE) (by simp [TS.at]) (by simp [TS.at]) (by intro Tr; kernel_rfl) (by exact NO rfl),
   thA (t := 38) (cs := hZ) (d := 3) (by simp [TS.at]) (by simp [TS.at]) (by intro Tr; kernel_rfl), trivial⟩ ⟨⟨by repeat' (first | exact trivial | exact Or.inl rfl | apply And.intro), ?_⟩, ⟨by repeat' (first | exact trivial | exact Or.inl rfl | exact Or.inr rfl | apply And.intro), ?_⟩, trivial⟩)
 all_goals
  rintro _ _ _ ⟨q1, rfl, rfl, rfl⟩ _ _ _ ⟨e2, f2, rfl, rfl, rfl⟩ _ _ _ ⟨q4, rfl, rfl, rfl⟩ _ _ _ ⟨q5, rfl, rfl, rfl⟩
  try rintro _ _ _ ⟨rfl, rfl, rfl⟩
  show HL _ _ _ _ _ _ _ _ _ _ _ _ _ _ _ _ _ _
  repeat' first | refine ST ?_ | intro _ | apply And.intro
  refine gNILN 70 (cabinLx 159 199 166) ?_
  refine gFORG 26 h.cabins.length (fun _ => []) [(2, fun q : HH × List Cabin => [.slice q1.fst h.rules.seats.length q1.snd, vi h.rules.tiers, vi h.rules.room, vi h.rules.size, vi h.rules.period, vi h.rules.window, vi h.rules.rest, vi h.rules.tries, vi h.rules.crew, vi h.now, vi h.turn, .slice e2 h.parties.length f2, .slice q.1.1 q.2.length q.1.2, .slice q4.fst h.todo.length q4.snd, .slice q5.fst h.jobs.length q5.snd])]
   (fun q => [slA 70 (cabinLx 159 199 166) (.slice q.1.1 q.2.length q.1.2) q.2]) (fun k q => q.2 = h.cabins.take k) ((none, 0), []) (h0 := rfl) (body := fun k q hk hv => ?_)
  have hql : q.2.length = k := by rw [hv, List.length_take]; omega
  by_cases hkl : k < h.cabins.length
  · have hcz := z6 _ (List.getElem_mem hkl)
    repeat' first | refine ST ?_ | intro _ | apply And.intro
    all_goals first | (exfalso; omega) | (refine gGBACK ((_, _), _) hkl (h := ?_); rw [hv, ← List.take_append_getElem hkl])
  · repeat' first | refine ST ?_ | intro _ | apply And.intro
    all_goals first | (exfalso; omega) | (rw [hv, List.take_of_length_le (by omega)])
end SX
end Go.Proofs.YtejojcoaohlfbaaGreat
