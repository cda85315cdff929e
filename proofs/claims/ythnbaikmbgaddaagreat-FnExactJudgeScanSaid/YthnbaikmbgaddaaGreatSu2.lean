/- Loops and the engine. It imports no program. -/
import Derived.Test.YthnbaikmbgaddaaGreatSu1
namespace Go.Proofs.YthnbaikmbgaddaaGreat
namespace SX
set_option linter.unusedVariables false
set_option linter.unusedSimpArgs false
open Go Go.RowKit
instance bpLtN {a b : Nat} : BP (decide ((a : Int) < (b : Int))) (a < b) (¬ a < b) := ⟨fun e => by have := of_decide_eq_true e; omega, fun e => by have := of_decide_eq_false e; omega⟩
instance bpGtN {a b : Nat} : BP (decide ((a : Int) > (b : Int))) (b < a) (¬ b < a) := ⟨fun e => by have := of_decide_eq_true e; omega, fun e => by have := of_decide_eq_false e; omega⟩
instance bpLeN {a b : Nat} : BP (decide ((a : Int) ≤ (b : Int))) (a ≤ b) (¬ a ≤ b) := ⟨fun e => by have := of_decide_eq_true e; omega, fun e => by have := of_decide_eq_false e; omega⟩
instance bpGeN {a b : Nat} : BP (decide ((a : Int) ≥ (b : Int))) (b ≤ a) (¬ b ≤ a) := ⟨fun e => by have := of_decide_eq_true e; omega, fun e => by have := of_decide_eq_false e; omega⟩
instance bpGt0 {a : Nat} : BP (decide ((a : Int) > 0)) (0 < a) (a = 0) := ⟨fun e => by have := of_decide_eq_true e; omega, fun e => by have := of_decide_eq_false e; omega⟩
instance bpEqN {a b : Nat} : BP ((a : Int) == (b : Int)) (a = b) (a ≠ b) := ⟨fun e => by simp at e; omega, fun e => by simp at e; omega⟩
instance bpNeN {a b : Nat} : BP ((a : Int) != (b : Int)) (a ≠ b) (a = b) := ⟨fun e => by simp at e; omega, fun e => by simp at e; omega⟩
theorem keep_keys {T : Tm} : ∀ (ks : List Nat), (∀ k ∈ ks, (lk T k).isSome = true) → (keep T ks).isSome = true
  | [], _ => rfl
  | k :: ks, h => by
    have h1 := h k (by simp)
    have h2 := keep_keys ks (fun j hj => h j (by simp [hj]))
    simp only [keep]
    cases h3 : lk T k with
    | none => simp [h3] at h1
    | some x => cases h4 : keep T ks with
      | none => simp [h4] at h2
      | some y => rfl
theorem lk_key : ∀ {T : Tm} {i : Nat}, i ∈ T.map (·.1) → (lk T i).isSome = true
  | (k, x) :: T, i, h => by
    simp only [lk]
    split
    · rfl
    · rename_i hk
      simp only [List.map_cons, List.mem_cons] at h
      rcases h with h | h
      · subst h; simp at hk
      · exact lk_key h
theorem sub_ok {T T1 : Tm} (h : keep T1 (T.map (·.1)) = keep T (T.map (·.1))) : ∀ i x, lk T i = some x → lk T1 i = some x := by
  intro i x hx
  have hm : i ∈ T.map (·.1) := List.mem_map.2 ⟨(i, x), lk_mem hx, rfl⟩
  have hs := keep_keys (T := T) (T.map (·.1)) (fun k hk => lk_key hk)
  obtain ⟨U, hU⟩ := Option.isSome_iff_exists.1 hs
  have e1 := keep_ok hU
  rw [hU] at h
  have e2 := keep_ok h
  have h3 := keep_has hU i hm
  obtain ⟨y, hy⟩ := Option.isSome_iff_exists.1 h3
  have h4 := e1 i y hy
  rw [hx] at h4
  rw [e2 i y hy, ← h4]
section rules
variable {X : List Nat} {P : Program} {N : Nat} {W : World} {S0 : List Nat} {Q : Exit → Act → World → Prop} {T : Tm} {L : Bx} {C : List Ass} {ops : Array Oper} {Kn : List (Nat × Nat)} {i : Nat}
theorem Sat.into {a : Act} {w : World} {T' : Tm} {L' : Bx} {C' R : List Ass} {js : List Nat} (h : Sat N W S0 T L C a w) (hT : SX.keep T (T'.map (·.1)) = SX.keep T' (T'.map (·.1))) (hn : boundedB L'.length T' = true) (hL : L.take L'.length = L') (hC : pulls js C = some (C', R)) :
    Sat N W S0 T' L' C' a w := by
  have hs := keep_keys (T := T') (T'.map (·.1)) (fun k hk => lk_key hk)
  obtain ⟨U, hU⟩ := Option.isSome_iff_exists.1 hs
  have hlen : L'.length ≤ L.length := by rw [← hL, List.length_take]; omega
  have hb := boundedB_ok hn
  obtain ⟨bs, fps, ht, hbd, hm⟩ := h
  have h2 : Sat N W S0 T' L C a w := ⟨bs, fps, ⟨ht.1, ht.2.1, fun i x hx => ht.2.2 i x (sub_ok hT i x hx)⟩, hb.mono hlen, hm⟩
  obtain ⟨V, hV⟩ : ∃ V, SX.keep T' (T'.map (·.1)) = some V := ⟨U, hU⟩
  have h3 := h2.less (ks := T'.map (·.1)) L'.length (L' := L') (js := js) (C' := C') (R := R) hV ?_ hL hC
  · obtain ⟨bs', fps', ht', hbd', hm'⟩ := h3
    refine ⟨bs', fps', ⟨ht'.1, ht'.2.1, fun i x hx => ht'.2.2 i x ?_⟩, hb, hm'⟩
    have hm9 : i ∈ T'.map (·.1) := List.mem_map.2 ⟨(i, x), lk_mem hx, rfl⟩
    have h5 := keep_has hV i hm9
    obtain ⟨y, hy⟩ := Option.isSome_iff_exists.1 h5
    have h6 := keep_ok hV i y hy
    rw [hx] at h6
    rw [hy, h6]
  · have : ∀ (ks : List Nat) (V : Tm), SX.keep T' ks = some V → boundedB L'.length V = true := by
      intro ks
      induction ks with
      | nil => intro V h; simp [SX.keep] at h; subst h; rfl
      | cons k r ih =>
        intro V h
        simp only [SX.keep] at h
        split at h
        · rename_i x V' hx hk
          injection h with h
          subst h
          have := ih V' hk
          cases x with
          | v _ => exact this
          | e _ _ _ => exact this
          | p i off =>
            simp only [boundedB, Bool.and_eq_true, decide_eq_true_eq]
            exact ⟨hb.all _ _ hx i off rfl, this⟩
        · cases h
    exact this _ _ hV
def memN : List Nat → Nat → Bool
  | [], _ => false
  | k :: r, i => match Nat.beq k i with
    | true => true
    | false => memN r i
/-- what is wanted later, each slot once -/
def prune (X : List Nat) : List Nat → Tm → (Tm → Option Tm) → Option Tm
  | _, [], k => k []
  | seen, (d, s) :: T, k => match memN X d, memN seen d with
    | true, false => prune X (d :: seen) T (fun l => k ((d, s) :: l))
    | _, _ => prune X seen T k
theorem aFIN {T' : Tm} (k : DN X N W S0 Q .normal T' L C) (hp : prune X [] T some = some T' := by conv => lhs; whnf) (hT : keep T (T'.map (·.1)) = keep T' (T'.map (·.1)) := by kernel_rfl) (hn : boundedB L.length T' = true := by kernel_rfl) (h : Nat.ble ops.size i = true := by rfl) : AT .fin X P N W S0 ops Q Kn i T L C := by
  show G N W S0 (wpOps P ops Q ((List.range ops.size).drop i)) T L C
  rw [List.drop_eq_nil_of_le (by rw [List.length_range]; exact Nat.le_of_ble_eq_true h)]
  refine ENDOPS fun a w h => k a w ?_
  obtain ⟨bs, fps, ht, hb, hm⟩ := h
  exact ⟨bs, fps, ⟨ht.1, ht.2.1, fun i x hx => ht.2.2 i x (sub_ok hT i x hx)⟩, boundedB_ok hn, hm⟩
/-- behind a loop's round -/
def BKP (N : Nat) (W : World) (S0 : List Nat) {ι : Type} (Tf : ι → Tm) (Lf : ι → Bx) (Cf : ι → List Ass) (Inv : ι → Prop) (m : ι → Nat) (j : ι) : Act → World → Prop :=
  fun a w => ∃ j', Inv j' ∧ m j' < m j ∧ Sat N W S0 (Tf j') (Lf j') (Cf j') a w
theorem gLOOP {c : Code} {ι : Type} (Tf : ι → Tm) (Lf : ι → Bx) (Cf : ι → List Ass) (Inv : ι → Prop) (m : ι → Nat) (j0 : ι) (h0 : Inv j0)
    (body : ∀ j, Inv j → CD X P N W S0 c (Exit.then (BKP N W S0 Tf Lf Cf Inv m j) Q) (Tf j) (Lf j) (Cf j)) (hT : keep T ((Tf j0).map (·.1)) = keep (Tf j0) ((Tf j0).map (·.1)) := by kernel_rfl) (hn : boundedB (Lf j0).length (Tf j0) = true := by kernel_rfl) (hL : L = Lf j0 := by rfl) (hC : C = Cf j0 := by rfl) : CD X P N W S0 (.loop c) Q T L C := by
  unfold CD at *
  intro a w h
  subst hL
  subst hC
  let p : Act → World → Nat → Prop := fun a w n => ∃ j, Inv j ∧ m j = n ∧ Sat N W S0 (Tf j) (Lf j) (Cf j) a w
  have hs : Sat N W S0 (Tf j0) (Lf j0) (Cf j0) a w := by
    obtain ⟨bs, fps, ht, hb, hm⟩ := h
    exact ⟨bs, fps, ⟨ht.1, ht.2.1, fun i x hx => ht.2.2 i x (sub_ok hT i x hx)⟩, boundedB_ok hn, hm⟩
  refine wp_loop (fun a w => ∃ n, p a w n) (fun a w => leastOf (p a w)) ⟨_, j0, h0, rfl, hs⟩ ?_
  intro a w hI
  obtain ⟨⟨j, hj, hmj, hs⟩, _⟩ := leastOf_spec hI
  refine wp_mono (body j hj a w hs) ?_
  intro e a' w' hq
  cases e with
  | normal =>
    obtain ⟨j', h1, h2, h3⟩ := hq
    have hI' : ∃ n, p a' w' n := ⟨_, j', h1, rfl, h3⟩
    refine ⟨hI', ?_⟩
    have := (leastOf_spec hI').2 _ ⟨j', h1, rfl, h3⟩
    show leastOf (p a' w') < leastOf (p a w)
    omega
  | _ => exact hq
theorem gBACK {ι : Type} {Tf : ι → Tm} {Lf : ι → Bx} {Cf : ι → List Ass} {Inv : ι → Prop} {m : ι → Nat} {j j' : ι} {js : List Nat} {R : List Ass} (h0 : Inv j') (hm : m j' < m j) (hC : pulls js C = some (Cf j', R)) (hT : keep T ((Tf j').map (·.1)) = keep (Tf j') ((Tf j').map (·.1)) := by kernel_rfl)
    (hn : boundedB (Lf j').length (Tf j') = true := by kernel_rfl) (hL : L.take (Lf j').length = Lf j' := by kernel_rfl) : DN X N W S0 (Exit.then (BKP N W S0 Tf Lf Cf Inv m j) Q) .normal T L C :=
  fun a w h => ⟨j', h0, hm, h.into hT hn hL hC⟩
def zeros : List Ass → List Nat
  | [] => []
  | _ :: C => 0 :: zeros C
theorem pulls_zeros : ∀ (C R : List Ass), pulls (zeros C) (C ++ R) = some (C, R)
  | [], R => rfl
  | A :: C, R => by simp [zeros, pulls, pull, pulls_zeros C R]
/-- i from 0 to n, one by one; s: its slot -/
def FORT (s : Nat) (T : Tm) (k : Nat) : Tm := (s, I (k : Int)) :: T
def FORI (n : Nat) (Inv : Nat → Prop) (k : Nat) : Prop := k ≤ n ∧ Inv k
theorem gFOR {c : Code} (s n : Nat) (Inv : Nat → Prop) (h0 : Inv 0)
    (body : ∀ k : Nat, k ≤ n → Inv k → CD X P N W S0 c (Exit.then (BKP N W S0 (FORT s T) (fun _ => L) (fun _ => C) (FORI n Inv) (fun k => n - k) k) Q) ((s, I (k : Int)) :: T) L C)
    (hT : keep T ((FORT s T 0).map (·.1)) = keep (FORT s T 0) ((FORT s T 0).map (·.1)) := by kernel_rfl) (hn : boundedB L.length (FORT s T 0) = true := by kernel_rfl) : CD X P N W S0 (.loop c) Q T L C :=
  gLOOP (FORT s T) (fun _ => L) (fun _ => C) (FORI n Inv) (fun k => n - k) 0 ⟨Nat.zero_le _, h0⟩ (fun k hk => body k hk.1 hk.2) hT hn
theorem gFBACK {n k s : Nat} {Inv : Nat → Prop} {T1 : Tm} {L1 : Bx} {C1 R : List Ass} (h : Inv (k + 1)) (hlt : k < n) (hC : C1 = C ++ R := by rfl) (hT : keep T1 ((FORT s T (k + 1)).map (·.1)) = keep (FORT s T (k + 1)) ((FORT s T (k + 1)).map (·.1)) := by kernel_rfl)
    (hn : boundedB L.length (FORT s T (k + 1)) = true := by kernel_rfl) (hL : L1.take L.length = L := by kernel_rfl) : DN X N W S0 (Exit.then (BKP N W S0 (FORT s T) (fun _ => L) (fun _ => C) (FORI n Inv) (fun k => n - k) k) Q) .normal T1 L1 C1 := by
  subst hC
  exact gBACK (j' := k + 1) (js := zeros C) (R := R) ⟨by omega, h⟩ (by omega) (pulls_zeros C R) hT hn hL
/-- the same with more that changes: U says the slots -/
def FORTA {α : Type} (s : Nat) (U : α → Tm) (T : Tm) (q : Nat × α) : Tm := (s, I (q.1 : Int)) :: (U q.2 ++ T)
def FORIA {α : Type} (n : Nat) (Inv : Nat → α → Prop) (q : Nat × α) : Prop := q.1 ≤ n ∧ Inv q.1 q.2
def FORM {α : Type} (n : Nat) (q : Nat × α) : Nat := n - q.1
theorem gFORA {c : Code} {α : Type} (s n : Nat) (U : α → Tm) (Inv : Nat → α → Prop) (x0 : α) (h0 : Inv 0 x0)
    (body : ∀ k x, k ≤ n → Inv k x → CD X P N W S0 c (Exit.then (BKP N W S0 (FORTA s U T) (fun _ => L) (fun _ => C) (FORIA n Inv) (FORM n) (k, x)) Q) ((s, I (k : Int)) :: (U x ++ T)) L C)
    (hT : keep T ((FORTA s U T (0, x0)).map (·.1)) = keep (FORTA s U T (0, x0)) ((FORTA s U T (0, x0)).map (·.1)) := by kernel_rfl) (hn : boundedB L.length (FORTA s U T (0, x0)) = true := by kernel_rfl) : CD X P N W S0 (.loop c) Q T L C :=
  gLOOP (FORTA s U T) (fun _ => L) (fun _ => C) (FORIA n Inv) (FORM n) (0, x0) ⟨Nat.zero_le _, h0⟩ (fun q hk => body q.1 q.2 hk.1 hk.2) hT hn
theorem gFABACK {α : Type} {n k s : Nat} {U : α → Tm} {x x' : α} {Inv : Nat → α → Prop} {T1 : Tm} {L1 : Bx} {C1 R : List Ass} (h : Inv (k + 1) x') (hlt : k < n) (hU : keep T1 ((U x).map (·.1)) = some (U x') := by conv => lhs; whnf) (hC : C1 = C ++ R := by rfl)
    (hT : keep T1 ((FORTA s U T (k + 1, x')).map (·.1)) = keep (FORTA s U T (k + 1, x')) ((FORTA s U T (k + 1, x')).map (·.1)) := by kernel_rfl)
    (hn : boundedB L.length (FORTA s U T (k + 1, x')) = true := by kernel_rfl) (hL : L1.take L.length = L := by kernel_rfl) : DN X N W S0 (Exit.then (BKP N W S0 (FORTA s U T) (fun _ => L) (fun _ => C) (FORIA n Inv) (FORM n) (k, x)) Q) .normal T1 L1 C1 := by
  subst hC
  exact gBACK (j' := (k + 1, x')) (js := zeros C) (R := R) ⟨by show k + 1 ≤ n; omega, h⟩ (by show n - (k + 1) < n - k; omega) (pulls_zeros C R) hT hn hL
end rules
end SX
end Go.Proofs.YthnbaikmbgaddaaGreat
