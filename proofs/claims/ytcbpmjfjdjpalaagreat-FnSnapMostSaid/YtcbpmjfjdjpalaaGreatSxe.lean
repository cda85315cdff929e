/- Boxes that are made objects for the time of a region whose order is open, and taken back. It imports no program. -/
import Derived.Test.YtcbpmjfjdjpalaaGreatSxn
namespace Go.Proofs.YtcbpmjfjdjpalaaGreat
namespace SX
set_option linter.unusedVariables false
set_option linter.unusedSimpArgs false
open Go Go.RowKit
def expS (bs : List Nat) : SV → SV
  | .p i off => match bs[i]? with
    | some b => .e (some ⟨b, 0, none⟩) 0 off
    | none => .p (i - bs.length) off
  | s => s
def expT (bs : List Nat) : Tm → Tm
  | [] => []
  | (k, s) :: T => (k, expS bs s) :: expT bs T
def expC : List Nat → Bx → List Ass
  | b :: bs, (t, cs) :: L => ptC b t cs :: expC bs L
  | _, _ => []
theorem lk_expT {bs : List Nat} : ∀ {T : Tm} {i : Nat}, lk (expT bs T) i = (lk T i).map (expS bs)
  | [], i => rfl
  | (k, s) :: T, i => by
    simp only [expT, lk]
    split
    · rfl
    · exact lk_expT
theorem den_expS {bs bs1 : List Nat} {s : SV} : den bs1 (expS bs s) = den (bs ++ bs1) s := by
  cases s with
  | v x => rfl
  | e a c off => rfl
  | p i off =>
    simp only [expS]
    split
    · rename_i b hb
      have hlt : i < bs.length := (List.getElem?_eq_some_iff.1 hb).1
      simp only [den, addrOf, Nat.zero_add, List.getD_eq_getElem?_getD, List.getElem?_append_left hlt, hb]
      simp [add_lit]
    · rename_i hb
      have hge : bs.length ≤ i := by
        rcases Nat.lt_or_ge i bs.length with h | h
        · rw [List.getElem?_eq_getElem h] at hb; cases hb
        · exact h
      simp only [den, List.getD_eq_getElem?_getD, List.getElem?_append_right hge]
theorem expC_holds {w : World} : ∀ {L : Bx} {bs : List Nat}, boxes w L bs → holds w (expC bs L) (bs.map fun b => [b])
  | [], [], _ => trivial
  | (t, cs) :: L, b :: bs, h => ⟨⟨rfl, h.1⟩, expC_holds h.2⟩
  | [], _ :: _, h => h.elim
  | _ :: _, [], h => h.elim
theorem holds_expC {w : World} : ∀ {L : Bx} {bs : List Nat} {fps : List (List Nat)}, bs.length = L.length → holds w (expC bs L) fps → boxes w L bs ∧ fps = bs.map fun b => [b]
  | [], [], [], _, _ => ⟨trivial, rfl⟩
  | (t, cs) :: L, b :: bs, f :: fps, hl, h => by
    obtain ⟨h1, h2⟩ := holds_expC (L := L) (bs := bs) (fps := fps) (by simpa using hl) h.2
    exact ⟨⟨h.1.2, h1⟩, by rw [h2, h.1.1]; rfl⟩
  | [], [], _ :: _, _, h => h.elim
  | (_, _) :: _, _ :: _, [], _, h => h.elim
theorem map_one_flatten : ∀ (bs : List Nat), (bs.map fun b => [b]).flatten = bs
  | [] => rfl
  | b :: bs => by simp [map_one_flatten bs]
theorem bounded_expT {bs : List Nat} : ∀ {T : Tm}, bounded bs.length T → bounded 0 (expT bs T)
  | [], _ => trivial
  | (k, .p i off) :: T, h => by
    simp only [expT, expS, List.getElem?_eq_getElem h.1]
    exact bounded_expT h.2
  | (k, .v _) :: T, h => bounded_expT (T := T) h
  | (k, .e _ _ _) :: T, h => bounded_expT (T := T) h
theorem boxes_append {w : World} : ∀ {L M : Bx} {bs cs : List Nat}, boxes w L bs → boxes w M cs → boxes w (L ++ M) (bs ++ cs)
  | [], M, [], cs, _, k => k
  | (t, c) :: L, M, b :: bs, cs, h, k => ⟨h.1, boxes_append h.2 k⟩
  | [], _, _ :: _, _, h, _ => h.elim
  | _ :: _, _, [], _, h, _ => h.elim
section rules
variable {N : Nat} {W : World} {S0 : List Nat} {T : Tm} {L : Bx} {C : List Ass} {K : Act → World → Prop}
theorem EXPORT (k : ∀ bs : List Nat, bs.length = L.length → G N W S0 K (expT bs T) [] (expC bs L ++ C)) : G N W S0 K T L C := by
  rintro a w ⟨bs, fps, ht, hb, hm⟩
  have hl := boxes_len hm.bx
  refine k bs hl a w ⟨[], (bs.map fun b => [b]) ++ fps, ⟨ht.1, ht.2.1, fun i x hx => ?_⟩, bounded_expT (by rw [hl]; exact hb), ⟨hm.fr, trivial, (expC_holds hm.bx).append hm.ch, ?_, ?_⟩⟩
  · rw [lk_expT] at hx
    obtain ⟨s, hs, rfl⟩ := Option.map_eq_some_iff.1 hx
    rw [den_expS, List.append_nil]
    exact ht.2.2 i s hs
  · simp only [List.nil_append, List.flatten_append, map_one_flatten]
    exact hm.nd
  · simp only [List.nil_append, List.flatten_append, map_one_flatten]
    exact hm.new
/-- L0: what the boxes hold now, L1: the boxes that are new -/
theorem IMPORT {L0 L1 : Bx} (bs : List Nat) (hl : bs.length = L0.length) (js : List Nat) (R : List Ass) (hp : pulls js C = some (expC bs L0, R)) (T' : Tm) (hT : keep T (T'.map (·.1)) = some (expT bs T')) (hbd : boundedB (L0.length + L1.length) T' = true)
    (k : G N W S0 K T' (L0 ++ L1) R) : G N W S0 K T L1 C := by
  rintro a w ⟨bs1, fps, ht, hb, hm⟩
  obtain ⟨xps, rps, hx, hr, hperm⟩ := holds.pulls js hm.ch hp
  obtain ⟨hbx, rfl⟩ := holds_expC hl hx
  have hfl : (bs ++ rps.flatten).Perm fps.flatten := by
    have := flat_perm hperm
    simpa [map_one_flatten] using this
  have hall : ((bs ++ bs1) ++ rps.flatten).Perm (bs1 ++ fps.flatten) := by
    refine List.Perm.trans ?_ (hfl.append_left bs1)
    rw [← List.append_assoc]
    exact List.perm_append_comm.append_right _
  refine k a w ⟨bs ++ bs1, rps, ⟨ht.1, ht.2.1, fun i x hx => ?_⟩, by rw [List.length_append]; exact boundedB_ok hbd, ⟨hm.fr, boxes_append hbx hm.bx, hr, hall.nodup_iff.2 hm.nd, fun b hb => hm.new b (hall.subset hb)⟩⟩
  have h1 : lk (expT bs T') i = some (expS bs x) := by rw [lk_expT, hx]; rfl
  have h2 := ht.2.2 i _ (keep_ok hT i _ h1)
  rw [h2, den_expS]
end rules
theorem len1 {bs : List Nat} (h : bs.length = 1) : ∃ a0, bs = [a0] := by
  match bs, h with
  | [a0], _ => exact ⟨a0, rfl⟩
theorem len2 {bs : List Nat} (h : bs.length = 2) : ∃ a0 a1, bs = [a0, a1] := by
  match bs, h with
  | [a0, a1], _ => exact ⟨a0, a1, rfl⟩
theorem len3 {bs : List Nat} (h : bs.length = 3) : ∃ a0 a1 a2, bs = [a0, a1, a2] := by
  match bs, h with
  | [a0, a1, a2], _ => exact ⟨a0, a1, a2, rfl⟩
theorem len4 {bs : List Nat} (h : bs.length = 4) : ∃ a0 a1 a2 a3, bs = [a0, a1, a2, a3] := by
  match bs, h with
  | [a0, a1, a2, a3], _ => exact ⟨a0, a1, a2, a3, rfl⟩
theorem At.rdO {α : Type} {W w : World} {S0 : List Nat} {C : List Ass} (hw : At W S0 C w) (j : Nat) {e : TypeId} {La : Lay α} {a : Option Addr} {n c : Nat} {xs : List α} (h : C[j]? = some (slA e La (.slice a n c) xs)) : Rd La w a xs :=
  Rd.own (hw.own j h)
section join
variable {P : Program} {N : Nat} {W : World} {S0 : List Nat} {Q : Exit → Act → World → Prop} {T : Tm} {L : Bx} {C : List Ass}
/-- ways that meet: what stands behind is shown once -/
theorem SEQJ {x y : Code} {ι : Type} (Tf : ι → Tm) (Lf : ι → Bx) (Cf : ι → List Ass) (Inv : ι → Prop)
    (k1 : CODE P N W S0 x (Exit.then (fun a w => ∃ j, Inv j ∧ Sat N W S0 (Tf j) (Lf j) (Cf j) a w) Q) T L C) (k2 : ∀ j, Inv j → CODE P N W S0 y Q (Tf j) (Lf j) (Cf j)) : CODE P N W S0 (.seq x y) Q T L C := by
  intro a w h
  refine wp_seq (wp_mono (k1 a w h) ?_)
  intro e a' w' hq
  cases e with
  | normal => obtain ⟨j, h1, h2⟩ := hq; exact k2 j h1 a' w' h2
  | _ => exact hq
theorem JBACK {ι : Type} {Tf : ι → Tm} {Lf : ι → Bx} {Cf : ι → List Ass} {Inv : ι → Prop} (j' : ι) (ks : List Nat) (n : Nat) (js : List Nat) (R : List Ass) (h0 : Inv j') (hT : keep T ks = some (Tf j'))
    (hn : boundedB n (Tf j') = true) (hL : L.take n = Lf j') (hC : pulls js C = some (Cf j', R)) :
    DONE N W S0 (Exit.then (fun a w => ∃ j', Inv j' ∧ Sat N W S0 (Tf j') (Lf j') (Cf j') a w) Q) .normal T L C := fun a w h =>
  ⟨j', h0, h.less n hT hn hL hC⟩
end join
theorem NL {n m : Nat} (h : Nat.ble n m = true) : n ≤ m := Nat.le_of_ble_eq_true h
theorem NO {n N : Nat} (h : Nat.ble (n + 1) N = true) : ∀ k, some n = some k → k < N := by
  rintro _ ⟨⟩; exact Nat.le_of_ble_eq_true h
end SX
end Go.Proofs.YtcbpmjfjdjpalaaGreat
