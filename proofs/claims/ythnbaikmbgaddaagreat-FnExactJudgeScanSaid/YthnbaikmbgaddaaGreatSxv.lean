/- Operations of a region whose order is open, in threads that know nothing of one another: each thread is carried out once. It imports no program. -/
import Derived.Test.YthnbaikmbgaddaaGreatSxd
import Derived.Test.YthnbaikmbgaddaaGreatSxc
namespace Go.Proofs.YthnbaikmbgaddaaGreat
namespace SX
set_option linter.unusedVariables false
set_option linter.unusedSimpArgs false
open Go Go.RowKit
theorem lk_swap {A X Z : Tm} (h : ∀ p ∈ A, ∀ q ∈ X, p.1 ≠ q.1) (i : Nat) : lk (A ++ (X ++ Z)) i = lk (X ++ (A ++ Z)) i := by
  rw [lk_app, lk_app, lk_app, lk_app]
  cases ha : lk A i with
  | none => rfl
  | some x =>
    cases hx : lk X i with
    | none => rfl
    | some y => exact absurd rfl (h (i, x) (lk_mem ha) (i, y) (lk_mem hx))
theorem holds_perm {w : World} : ∀ {C D : List Ass}, C.Perm D → ∀ {fps}, holds w C fps → ∃ gps, gps.Perm fps ∧ holds w D gps := by
  intro C D h
  induction h with
  | nil => intro fps hf; exact ⟨fps, List.Perm.refl _, hf⟩
  | cons A _ ih =>
    intro fps hf
    cases fps with
    | nil => exact hf.elim
    | cons f fps =>
      obtain ⟨gps, h1, h2⟩ := ih hf.2
      exact ⟨f :: gps, h1.cons f, hf.1, h2⟩
  | swap A B l =>
    intro fps hf
    match fps, hf with
    | f :: g :: fps, hf => exact ⟨g :: f :: fps, List.Perm.swap _ _ _, hf.2.1, hf.1, hf.2.2⟩
  | trans _ _ ih1 ih2 =>
    intro fps hf
    obtain ⟨g1, h1, h2⟩ := ih1 hf
    obtain ⟨g2, h3, h4⟩ := ih2 h2
    exact ⟨g2, h3.trans h1, h4⟩
theorem Sat.turn {N : Nat} {W : World} {S0 : List Nat} {T T1 : Tm} {L L1 : Bx} {C C1 : List Ass} {a : Go.Act} {w : World} (h : Sat N W S0 T L C a w) (hT : ∀ i, lk T1 i = lk T i) (hb : bounded L.length T → bounded L.length T1) (hL : L1 = L) (hC : C.Perm C1) : Sat N W S0 T1 L1 C1 a w := by
  subst hL
  obtain ⟨bs, fps, ht, hbd, hm⟩ := h
  obtain ⟨gps, hg, hh⟩ := holds_perm hC hm.ch
  have hfl : gps.flatten.Perm fps.flatten := hg.flatten
  refine ⟨bs, gps, ⟨ht.1, ht.2.1, fun i x hx => ht.2.2 i x ((hT i).symm.trans hx)⟩, hb hbd, ⟨hm.fr, hm.bx, hh, ?_, fun b hb' hlt => hm.new b ?_ hlt⟩⟩
  · exact ((List.Perm.refl bs).append hfl).nodup_iff.2 hm.nd
  · rcases List.mem_append.1 hb' with h1 | h1
    · exact List.mem_append.2 (.inl h1)
    · exact List.mem_append.2 (.inr (hfl.mem_iff.1 h1))
theorem Sat.atC {N : Nat} {W : World} {S0 : List Nat} {T : Tm} {L : Bx} {C C0 X : List Ass} {a : Go.Act} {w : World} (h : Sat N W S0 T L C a w) (hC : C.Perm (C0 ++ X)) : At W S0 C0 w := by
  obtain ⟨bs, fps, ht, hbd, hm⟩ := h
  obtain ⟨gps, hg, hh⟩ := holds_perm hC hm.ch
  have key : ∀ (C0 X : List Ass) (gps : List (List Nat)), holds w (C0 ++ X) gps → ∃ g1 g2, gps = g1 ++ g2 ∧ holds w C0 g1 := by
    intro C0
    induction C0 with
    | nil => intro X gps _; exact ⟨[], gps, rfl, trivial⟩
    | cons A C0 ih =>
      intro X gps hh
      match gps, hh with
      | f :: gps, hh =>
        obtain ⟨g1, g2, h1, h2⟩ := ih X gps hh.2
        exact ⟨f :: g1, g2, by rw [h1]; rfl, hh.1, h2⟩
  obtain ⟨g1, g2, rfl, h1⟩ := key C0 X gps hh
  have hfl : (g1 ++ g2).flatten.Perm fps.flatten := hg.flatten
  have hnd := (List.nodup_append.1 hm.nd).2.1
  have hnd2 := hfl.nodup_iff.2 hnd
  rw [List.flatten_append] at hnd2 hfl
  refine ⟨hm.fr, g1, h1, (List.nodup_append.1 hnd2).1, fun b hb hlt => hm.new b (List.mem_append.2 (.inr (hfl.mem_iff.1 (List.mem_append.2 (.inl hb))))) hlt⟩
section par
variable (P : Program) (N : Nat) (W : World) (S0 : List Nat) (ops : Array Oper) (Q : Exit → Go.Act → World → Prop)
/-- what a thread has still to do; b: it may make a box -/
def Th (b : Bool) (ks : List Nat) : List Nat → (Tm → Bx → List Ass → Prop) → Tm → Bx → List Ass → Prop
  | [], F, T, Lp, C => F T Lp C
  | i :: is, F, T, Lp, C => ∀ (K : Go.Act → World → Prop) (Tr : Tm) (Lo : Bx) (Cr : List Ass), (b = true → Lo = []) →
      (∀ T' Lp' C', (∀ p ∈ T', p.1 ∈ ks) → (b = false → Lp' = []) → Th b ks is F T' Lp' C' → G N W S0 K (T' ++ Tr) (Lo ++ Lp') (Cr ++ C')) → OP P N W S0 ops (nQ Q) i K (T ++ Tr) (Lo ++ Lp) (C ++ Cr)
structure TS where
  b : Bool
  ks : List Nat
  is : List Nat
  F : Tm → Bx → List Ass → Prop
  T : Tm
  Lp : Bx
  C : List Ass
  /-- its beginning -/
  i0 : List Nat
  T1 : Tm
structure TS.Ok (t : TS) : Prop where
  key : ∀ p ∈ t.T, p.1 ∈ t.ks
  lp : t.b = false → t.Lp = []
  len : t.is.length ≤ t.i0.length
  ini : t.is = t.i0 → t.T = t.T1 ∧ t.Lp = [] ∧ t.C = []
  th : Th P N W S0 ops Q t.b t.ks t.is t.F t.T t.Lp t.C
def cT (ths : List TS) : Tm := (ths.map (·.T)).flatten
def cL (ths : List TS) : Bx := (ths.map (·.Lp)).flatten
def cC (ths : List TS) : List Ass := (ths.map (·.C)).flatten
def cI (ths : List TS) : List Nat := (ths.map (·.is)).flatten
def listedOf (n : Nat) (left : List Nat) : Array Bool := (Array.range n).map fun j => !(left.contains j)
theorem listedOf_set {n i : Nat} {l m : List Nat} (h : ∀ j, j ∈ m ↔ j ∈ l ∧ j ≠ i) : (listedOf n l).setIfInBounds i true = listedOf n m := by
  apply Array.ext
  · simp [listedOf]
  · intro k h1 h2
    simp only [listedOf, Array.size_setIfInBounds, Array.size_map, Array.size_range] at h1 h2
    rw [Array.getElem_setIfInBounds (by simpa [listedOf] using h1)]
    simp only [listedOf, Array.getElem_map, Array.getElem_range]
    split
    · rename_i hik
      have : ¬ k ∈ m := fun hk => ((h k).1 hk).2 hik.symm
      simp [this]
    · rename_i hik
      have : k ∈ m ↔ k ∈ l := (h k).trans ⟨fun w => w.1, fun w => ⟨w, fun e => hik e.symm⟩⟩
      simp [this]
def tls : List Nat → List (List Nat)
  | [] => [[]]
  | x :: xs => (x :: xs) :: tls xs
theorem tls_self : ∀ l : List Nat, l ∈ tls l
  | [] => by simp [tls]
  | x :: xs => by simp [tls]
/-- all ways in which the threads may have got on -/
def combos : List (List Nat) → List (List (List Nat))
  | [] => [[]]
  | t :: ts => (tls t).flatMap fun s => (combos ts).map (s :: ·)
def chk (n : Nat) (tail : List Nat) (stops : List (List (List Nat))) (c : List (List Nat)) : Bool :=
  stops.contains c || (!(Region.ready .any ops (listedOf n (c.flatten ++ tail))).isEmpty && (Region.ready .any ops (listedOf n (c.flatten ++ tail))).all fun i => c.any fun is => is.head? == some i)
theorem combos_self : ∀ c : List (List Nat), c ∈ combos c
  | [] => by simp [combos]
  | t :: ts => by
    unfold combos
    refine List.mem_flatMap.2 ⟨t, tls_self t, List.mem_map.2 ⟨ts, combos_self ts, rfl⟩⟩
theorem combos_step : ∀ {A B : List (List Nat)} {i : Nat} {is : List Nat} {c : List (List Nat)}, c ∈ combos (A ++ is :: B) → c ∈ combos (A ++ (i :: is) :: B)
  | [], B, i, is, c, h => by
    simp only [List.nil_append, combos] at h ⊢
    obtain ⟨s, hs, hc⟩ := List.mem_flatMap.1 h
    exact List.mem_flatMap.2 ⟨s, by unfold tls; exact List.mem_cons_of_mem _ hs, hc⟩
  | t :: A, B, i, is, c, h => by
    simp only [List.cons_append, combos] at h ⊢
    obtain ⟨s, hs, hc⟩ := List.mem_flatMap.1 h
    obtain ⟨c', hc', rfl⟩ := List.mem_map.1 hc
    exact List.mem_flatMap.2 ⟨s, hs, List.mem_map.2 ⟨c', combos_step hc', rfl⟩⟩
theorem cT_app (A : List TS) (t : TS) (B : List TS) : cT (A ++ t :: B) = cT A ++ (t.T ++ cT B) := by simp [cT]
theorem cL_app (A : List TS) (t : TS) (B : List TS) : cL (A ++ t :: B) = cL A ++ (t.Lp ++ cL B) := by simp [cL]
theorem cC_app (A : List TS) (t : TS) (B : List TS) : cC (A ++ t :: B) = cC A ++ (t.C ++ cC B) := by simp [cC]
theorem cI_app (A : List TS) (t : TS) (B : List TS) : cI (A ++ t :: B) = cI A ++ (t.is ++ cI B) := by simp [cI]
variable {P N W S0 ops Q}
theorem cL_nil {ths : List TS} (h : ∀ t ∈ ths, t.Ok P N W S0 ops Q) (hb : ∀ t ∈ ths, t.b = false) : cL ths = [] := by
  unfold cL
  rw [List.flatten_eq_nil_iff]
  intro l hl
  obtain ⟨t, ht, rfl⟩ := List.mem_map.1 hl
  exact (h t ht).lp (hb t ht)
theorem cT_key {ths : List TS} (h : ∀ t ∈ ths, t.Ok P N W S0 ops Q) {p : Nat × SV} (hp : p ∈ cT ths) : ∃ t ∈ ths, p.1 ∈ t.ks := by
  unfold cT at hp
  obtain ⟨l, hl, hpl⟩ := List.mem_flatten.1 hp
  obtain ⟨t, ht, rfl⟩ := List.mem_map.1 hl
  exact ⟨t, ht, (h t ht).key p hpl⟩
theorem par_go {n0 fuel0 : Nat} {tail : List Nat} {T0 : Tm} {Cr C0 X : List Ass} {stops : List (List (List Nat))} {Fs : List ((Tm → Bx → List Ass → Prop) × List Nat × Tm)} (hC0 : Cr.Perm (C0 ++ X))
    (kfin : ∀ ths : List TS, ths.map (fun t => (t.F, t.i0, t.T1)) = Fs → (∀ t ∈ ths, t.Ok P N W S0 ops Q) → ths.map TS.is ∈ stops → H P N W S0 ops Q C0 ((cI ths).length + fuel0) (listedOf n0 (cI ths ++ tail)) (cT ths ++ T0) (cL ths) (cC ths ++ Cr)) :
    ∀ (n : Nat) (ths : List TS), (cI ths).length = n → ths.map (fun t => (t.F, t.i0, t.T1)) = Fs → (∀ t ∈ ths, t.Ok P N W S0 ops Q) → (cI ths ++ tail).Nodup → (ths.Pairwise fun s t => ∀ x ∈ s.ks, x ∉ t.ks) → (ths.Pairwise fun s t => ¬ (s.b = true ∧ t.b = true)) →
      (∀ c ∈ combos (ths.map TS.is), chk ops n0 tail stops c = true) → H P N W S0 ops Q C0 (n + fuel0) (listedOf n0 (cI ths ++ tail)) (cT ths ++ T0) (cL ths) (cC ths ++ Cr)
  | n, ths, hn, hF, hok, hnd, hks, hbs, hchk => by
    cases hst : stops.contains (ths.map TS.is) with
    | true => rw [← hn]; exact kfin ths hF hok (by simpa using hst)
    | false =>
    intro a w hs
    have hc := hchk _ (combos_self _)
    have hfl : (ths.map TS.is).flatten = cI ths := rfl
    unfold chk at hc
    rw [hfl, hst, Bool.false_or, Bool.and_eq_true] at hc
    obtain ⟨n, rfl⟩ : ∃ m, n = m + 1 := by
      cases n with
      | succ n => exact ⟨n, rfl⟩
      | zero =>
        exfalso
        have h0 : cI ths = [] := List.eq_nil_of_length_eq_zero hn
        cases hq : Region.ready .any ops (listedOf n0 (cI ths ++ tail)) with
        | nil => rw [hq] at hc; simp at hc
        | cons i is =>
          have hh := List.all_eq_true.1 hc.2 i (by rw [hq]; simp)
          obtain ⟨is0, his0, hhead⟩ := List.any_eq_true.1 hh
          have : is0 = [] := by
            rw [← hfl] at h0
            exact List.flatten_eq_nil_iff.1 h0 is0 his0
          rw [this] at hhead; simp at hhead
    rw [show n + 1 + fuel0 = (n + fuel0) + 1 by omega]
    refine ⟨fun hr => ?_, fun i hi => ?_⟩
    · rw [hr] at hc; simp at hc
    · have hh := List.all_eq_true.1 hc.2 i hi
      obtain ⟨is0, his0, hhead⟩ := List.any_eq_true.1 hh
      obtain ⟨t, ht, rfl⟩ := List.mem_map.1 his0
      obtain ⟨is', hti⟩ : ∃ is', t.is = i :: is' := by
        cases hq : t.is with
        | nil => rw [hq] at hhead; simp at hhead
        | cons x xs =>
          rw [hq] at hhead
          simp only [List.head?_cons, beq_iff_eq, Option.some.injEq] at hhead
          exact ⟨xs, by rw [hhead]⟩
      obtain ⟨A, B, rfl⟩ := List.append_of_mem ht
      have hokt := hok t (by simp)
      have hokA : ∀ s ∈ A, s.Ok P N W S0 ops Q := fun s hs => hok s (by simp [hs])
      have hokB : ∀ s ∈ B, s.Ok P N W S0 ops Q := fun s hs => hok s (by simp [hs])
      have hpk := List.pairwise_append.1 hks
      have hpb := List.pairwise_append.1 hbs
      have hAt : ∀ s ∈ A, ∀ x ∈ s.ks, x ∉ t.ks := fun s hs => hpk.2.2 s hs t (by simp)
      have hLo : t.b = true → cL A ++ cL B = [] := by
        intro hb
        have h1 := cL_nil hokA fun s hs => by
          cases hq : s.b with
          | false => rfl
          | true => exact absurd ⟨hq, hb⟩ (hpb.2.2 s hs t (by simp))
        have h2 := cL_nil hokB fun s hs => by
          cases hq : s.b with
          | false => rfl
          | true => exact absurd ⟨hb, hq⟩ ((List.pairwise_cons.1 hpb.2.1).1 s hs)
        rw [h1, h2]; rfl
      have hLeq : ∀ Lp' : Bx, (t.b = false → Lp' = []) → cL A ++ (Lp' ++ cL B) = (cL A ++ cL B) ++ Lp' := by
        intro Lp' h1
        cases hb : t.b with
        | false => rw [h1 hb]; simp
        | true =>
          have h2 := hLo hb
          obtain ⟨h3, h4⟩ := List.append_eq_nil_iff.1 h2
          rw [h3, h4]; simp
      have hsw : ∀ T' : Tm, (∀ p ∈ T', p.1 ∈ t.ks) → ∀ i, lk (cT A ++ (T' ++ (cT B ++ T0))) i = lk (T' ++ (cT A ++ (cT B ++ T0))) i := fun T' hk i => lk_swap (fun p hp q hq he => by
        obtain ⟨s, hs, hps⟩ := cT_key hokA hp
        exact hAt s hs _ hps (he ▸ hk q hq)) i
      have hth := hokt.th
      rw [hti] at hth
      refine hth (fun a' w' => At W S0 C0 w' ∧ wpAnyH P .any ops (nQ Q) (At W S0 C0) (n + fuel0) ((listedOf n0 (cI (A ++ t :: B) ++ tail)).setIfInBounds i true) a' w') (cT A ++ (cT B ++ T0)) (cL A ++ cL B) (cC A ++ (cC B ++ Cr)) hLo ?_ a w ?_
      · intro T' Lp' C' hk' hl' hth' a' w' hs'
        have hci : cI (A ++ (⟨t.b, t.ks, is', t.F, T', Lp', C', t.i0, t.T1⟩ : TS) :: B) = cI A ++ (is' ++ cI B) := by rw [cI_app]
        have hco : cI (A ++ t :: B) = cI A ++ (i :: is' ++ cI B) := by rw [cI_app, hti]
        rw [hco] at hnd
        have hnd2 : (cI (A ++ (⟨t.b, t.ks, is', t.F, T', Lp', C', t.i0, t.T1⟩ : TS) :: B) ++ tail).Nodup ∧ ∀ j, j ∈ cI (A ++ (⟨t.b, t.ks, is', t.F, T', Lp', C', t.i0, t.T1⟩ : TS) :: B) ++ tail ↔ j ∈ cI (A ++ t :: B) ++ tail ∧ j ≠ i := by
          rw [hci, hco]
          have hp : (cI A ++ (i :: is' ++ cI B) ++ tail).Perm (i :: (cI A ++ (is' ++ cI B) ++ tail)) := by
            simp only [List.append_assoc, List.cons_append]
            exact List.perm_middle
          have h1 := hp.nodup_iff.1 hnd
          rw [List.nodup_cons] at h1
          refine ⟨h1.2, fun j => ⟨fun hj => ⟨hp.mem_iff.2 (List.mem_cons_of_mem _ hj), fun e => h1.1 (e ▸ hj)⟩, fun hj => ?_⟩⟩
          rcases List.mem_cons.1 (hp.mem_iff.1 hj.1) with h2 | h2
          · exact absurd h2 hj.2
          · exact h2
        have ih := par_go hC0 kfin n (A ++ (⟨t.b, t.ks, is', t.F, T', Lp', C', t.i0, t.T1⟩ : TS) :: B) (by
            rw [hci]; rw [hco] at hn
            simp only [List.length_append, List.length_cons] at hn ⊢; omega)
          (by rw [← hF]; simp) (fun s hs => by
            rcases List.mem_append.1 hs with h1 | h1
            · exact hokA s h1
            · rcases List.mem_cons.1 h1 with rfl | h1
              · have hle := hokt.len
                rw [hti, List.length_cons] at hle
                refine ⟨hk', hl', ?_, fun he => ?_, hth'⟩
                · show is'.length ≤ t.i0.length
                  omega
                · have := congrArg List.length (show is' = t.i0 from he)
                  omega
              · exact hokB s h1) hnd2.1
          (by
            refine List.pairwise_append.2 ⟨hpk.1, ?_, fun s hs u hu => ?_⟩
            · have := List.pairwise_cons.1 hpk.2.1
              exact List.pairwise_cons.2 ⟨this.1, this.2⟩
            · rcases List.mem_cons.1 hu with rfl | hu
              · exact hAt s hs
              · exact hpk.2.2 s hs u (by simp [hu]))
          (by
            refine List.pairwise_append.2 ⟨hpb.1, ?_, fun s hs u hu => ?_⟩
            · have := List.pairwise_cons.1 hpb.2.1
              exact List.pairwise_cons.2 ⟨this.1, this.2⟩
            · rcases List.mem_cons.1 hu with rfl | hu
              · exact hpb.2.2 s hs t (by simp)
              · exact hpb.2.2 s hs u (by simp [hu]))
          (fun c hc => hchk c (by
            rw [List.map_append, List.map_cons] at hc ⊢
            rw [hti]
            exact combos_step hc))
        have hs2 : Sat N W S0 (cT (A ++ (⟨t.b, t.ks, is', t.F, T', Lp', C', t.i0, t.T1⟩ : TS) :: B) ++ T0) (cL (A ++ (⟨t.b, t.ks, is', t.F, T', Lp', C', t.i0, t.T1⟩ : TS) :: B)) (cC (A ++ (⟨t.b, t.ks, is', t.F, T', Lp', C', t.i0, t.T1⟩ : TS) :: B) ++ Cr) a' w' := by
          refine hs'.turn (fun i => ?_) (fun hb => ?_) ?_ ?_
          · rw [cT_app, List.append_assoc, List.append_assoc]; exact hsw T' hk' i
          · revert hb
            generalize List.length _ = m
            intro hb
            rw [cT_app, List.append_assoc, List.append_assoc]
            rw [bounded_app, bounded_app] at hb ⊢
            rw [bounded_app] at hb ⊢
            exact ⟨hb.2.1, hb.1, hb.2.2⟩
          · rw [cL_app]; exact hLeq Lp' hl'
          · rw [cC_app]
            simp only [List.append_assoc]
            refine List.Perm.append_left _ ?_
            rw [← List.append_assoc]
            exact List.perm_append_comm
        refine ⟨hs2.atC (X := cC (A ++ (⟨t.b, t.ks, is', t.F, T', Lp', C', t.i0, t.T1⟩ : TS) :: B) ++ X) ?_, ?_⟩
        · exact (hC0.append_left _).trans (List.perm_append_comm_assoc _ _ _)
        · rw [listedOf_set hnd2.2]
          exact ih a' w' hs2
      · refine hs.turn (fun i => ?_) (fun hb => ?_) ?_ ?_
        · rw [cT_app, List.append_assoc, List.append_assoc]; exact (hsw t.T hokt.key i).symm
        · rw [cT_app, List.append_assoc, List.append_assoc] at hb
          rw [bounded_app, bounded_app, bounded_app] at hb ⊢
          exact ⟨hb.2.1, hb.1, hb.2.2⟩
        · rw [cL_app]; exact (hLeq t.Lp hokt.lp).symm
        · rw [cC_app]
          simp only [List.append_assoc]
          exact List.perm_append_comm_assoc (cC A) t.C (cC B ++ Cr)
theorem pull_perm {α : Type} : ∀ {i : Nat} {l : List α} {x : α} {r : List α}, pull i l = some (x, r) → l.Perm (x :: r)
  | _, [], x, r, h => by simp [pull] at h
  | 0, y :: l, x, r, h => by
    simp only [pull, Option.some.injEq, Prod.mk.injEq] at h
    obtain ⟨rfl, rfl⟩ := h
    exact List.Perm.refl _
  | i + 1, y :: l, x, r, h => by
    simp only [pull] at h
    cases h1 : pull i l with
    | none => simp [h1] at h
    | some q =>
      obtain ⟨z, m⟩ := q
      simp only [h1, Option.map_some, Option.some.injEq, Prod.mk.injEq] at h
      obtain ⟨rfl, rfl⟩ := h
      exact ((pull_perm h1).cons y).trans (List.Perm.swap _ _ _)
theorem pulls_perm {α : Type} : ∀ {js : List Nat} {l x r : List α}, pulls js l = some (x, r) → l.Perm (x ++ r)
  | [], l, x, r, h => by
    simp only [pulls, Option.some.injEq, Prod.mk.injEq] at h
    obtain ⟨rfl, rfl⟩ := h
    exact List.Perm.refl _
  | i :: js, l, x, r, h => by
    simp only [pulls] at h
    cases h1 : pull i l with
    | none => simp [h1] at h
    | some q =>
      obtain ⟨z, m⟩ := q
      simp only [h1] at h
      obtain ⟨⟨y, r'⟩, h2, h3⟩ := Option.map_eq_some_iff.1 h
      simp only [Prod.mk.injEq] at h3
      obtain ⟨rfl, rfl⟩ := h3
      exact (pull_perm h1).trans ((pulls_perm h2).cons z)
def sub : Tm → Tm → Prop
  | [], _ => True
  | (k, v) :: A, T => lk T k = some v ∧ sub A T
theorem sub_lk {A T : Tm} (h : sub A T) (i : Nat) : lk (A ++ T) i = lk T i := by
  induction A with
  | nil => rfl
  | cons p A ih =>
    obtain ⟨k, v⟩ := p
    rw [List.cons_append]
    by_cases hk : k = i
    · subst hk; rw [h.1]; simp [lk]
    · rw [← ih h.2]; simp [lk, hk]
theorem sub_bounded {n : Nat} : ∀ {A T : Tm}, sub A T → bounded n T → bounded n A
  | [], _, _, _ => trivial
  | (k, v) :: A, T, h, hb => by
    have ih := sub_bounded h.2 hb
    cases v with
    | p i off => exact ⟨hb.lk h.1, ih⟩
    | v x => exact ih
    | e a c o => exact ih
def nodupB : List Nat → Bool
  | [] => true
  | x :: xs => !xs.contains x && nodupB xs
theorem nodupB_ok : ∀ {l : List Nat}, nodupB l = true → l.Nodup
  | [], _ => List.nodup_nil
  | x :: xs, h => by
    simp only [nodupB, Bool.and_eq_true, Bool.not_eq_true'] at h
    rw [List.nodup_cons]
    exact ⟨by simpa using h.1, nodupB_ok h.2⟩
def pairB (r : TS → TS → Bool) : List TS → Bool
  | [] => true
  | x :: xs => xs.all (r x) && pairB r xs
theorem pairB_ok {r : TS → TS → Bool} {p : TS → TS → Prop} (h : ∀ s t, r s t = true → p s t) : ∀ {l : List TS}, pairB r l = true → l.Pairwise p
  | [], _ => List.Pairwise.nil
  | x :: xs, hp => by
    simp only [pairB, Bool.and_eq_true] at hp
    exact List.pairwise_cons.2 ⟨fun y hy => h x y (List.all_eq_true.1 hp.1 y hy), pairB_ok h hp.2⟩
def parB (ops : Array Oper) (n0 : Nat) (tail : List Nat) (stops : List (List (List Nat))) (ths : List TS) : Bool :=
  ths.all (fun t => t.T.all fun p => t.ks.contains p.1) && nodupB (cI ths ++ tail) && pairB (fun s t => s.ks.all fun x => !t.ks.contains x) ths && pairB (fun s t => !(s.b && t.b)) ths && (combos (ths.map TS.is)).all (chk ops n0 tail stops)
variable (P N W S0 ops Q)
def ThsOk : List TS → Prop
  | [] => True
  | t :: ts => (Th P N W S0 ops Q t.b t.ks t.is t.F t.T [] []) ∧ ThsOk ts
def FinK : List TS → List (List Nat) → (Tm → Bx → List Ass → Prop) → Prop
  | t :: ts, [] :: c, K => ∀ T Lp C, t.F T Lp C → FinK ts c fun T' L' C' => K (T ++ T') (Lp ++ L') (C ++ C')
  | t :: ts, (_ :: _) :: c, K => FinK ts c fun T' L' C' => K (t.T ++ T') L' C'
  | _, _, K => K [] [] []
variable {P N W S0 ops Q}
theorem ThsOk.mem : ∀ {ths : List TS}, ThsOk P N W S0 ops Q ths → ∀ t ∈ ths, Th P N W S0 ops Q t.b t.ks t.is t.F t.T [] []
  | [], _, t, ht => by cases ht
  | s :: ts, h, t, ht => by
    rcases List.mem_cons.1 ht with rfl | ht
    · exact h.1
    · exact ThsOk.mem h.2 t ht
/-- what is left to a thread at a stop: nothing, or all -/
def stopOk : List TS → List (List Nat) → Prop
  | [], [] => True
  | t :: ts, is :: c => (is = [] ∨ is = t.i0) ∧ stopOk ts c
  | _, _ => False
theorem FinK.use : ∀ {Ts ths : List TS} {c : List (List Nat)} {K : Tm → Bx → List Ass → Prop}, FinK Ts c K → (∀ t ∈ Ts, t.is = t.i0 ∧ t.T = t.T1) → (∀ t ∈ ths, t.Ok P N W S0 ops Q) → ths.map (fun t => (t.F, t.i0, t.T1)) = Ts.map (fun t => (t.F, t.i0, t.T1)) → stopOk Ts c → ths.map TS.is = c → K (cT ths) (cL ths) (cC ths)
  | [], [], c, K, h, _, _, _, hs, hc => by subst hc; exact h
  | [], t :: ths, c, K, h, _, _, he, hs, hc => by simp at he
  | s :: Ts, [], c, K, h, _, _, he, hs, hc => by simp at he
  | s :: Ts, t :: ths, c, K, h, hi, hok, he, hs, hc => by
    simp only [List.map_cons, List.cons.injEq, Prod.mk.injEq] at he
    obtain ⟨⟨e1, e2, e3⟩, he⟩ := he
    cases c with
    | nil => simp at hc
    | cons is c =>
      simp only [List.map_cons, List.cons.injEq] at hc
      obtain ⟨h1, h2⟩ := hc
      have hok1 := hok t (by simp)
      have ih := fun {K'} h' => FinK.use (Ts := Ts) (ths := ths) (c := c) (K := K') h' (fun t ht => hi t (by simp [ht])) (fun t ht => hok t (by simp [ht])) he hs.2 h2
      show K (t.T ++ cT ths) (t.Lp ++ cL ths) (t.C ++ cC ths)
      cases is with
      | nil =>
        have hth := hok1.th
        rw [h1] at hth
        have hF : s.F t.T t.Lp t.C := by rw [← e1]; exact hth
        exact ih (h _ _ _ hF)
      | cons i is =>
        have h3 : t.is = t.i0 := by
          rw [h1, e2]
          rcases hs.1 with h | h
          · cases h
          · exact h
        obtain ⟨h4, h5, h6⟩ := hok1.ini h3
        rw [h4, h5, h6, e3, ← (hi s (by simp)).2]
        exact ih h
def FinAll (ths : List TS) (f : List (List Nat) → Tm → Bx → List Ass → Prop) : List (List (List Nat)) → Prop
  | [] => True
  | c :: cs => (stopOk ths c ∧ FinK ths c (f c)) ∧ FinAll ths f cs
theorem FinAll.mem {ths : List TS} {f : List (List Nat) → Tm → Bx → List Ass → Prop} : ∀ {cs : List (List (List Nat))}, FinAll ths f cs → ∀ c ∈ cs, stopOk ths c ∧ FinK ths c (f c)
  | [], _, c, hc => by cases hc
  | d :: cs, h, c, hc => by
    rcases List.mem_cons.1 hc with rfl | hc
    · exact h.1
    · exact FinAll.mem h.2 c hc
/-- a thread as it begins -/
def TS.at (b : Bool) (ks is : List Nat) (T : Tm) (F : Tm → Bx → List Ass → Prop) : TS := ⟨b, ks, is, F, T, [], [], is, T⟩
def initB : List TS → Prop
  | [] => True
  | t :: ts => (t.is = t.i0 ∧ t.T = t.T1 ∧ t.Lp = [] ∧ t.C = []) ∧ initB ts
theorem initB.mem : ∀ {ths : List TS}, initB ths → ∀ t ∈ ths, t.is = t.i0 ∧ t.T = t.T1 ∧ t.Lp = [] ∧ t.C = []
  | [], _, t, ht => by cases ht
  | s :: ts, h, t, ht => by
    rcases List.mem_cons.1 ht with rfl | ht
    · exact h.1
    · exact initB.mem h.2 t ht
/-- threads: each is carried out once -/
theorem PAR {fuel : Nat} {listed : Array Bool} {T0 : Tm} {C C0 : List Ass} {js : List Nat} (fuel0 n0 : Nat) (ths : List TS) (tail : List Nat) (stops : List (List (List Nat))) (hC : (pulls js C).map (·.1) = some C0)
    (hfuel : fuel = (cI ths).length + fuel0) (hlist : listed = listedOf n0 (cI ths ++ tail)) (hsub : sub (cT ths) T0) (hin : initB ths) (hB : parB ops n0 tail stops ths = true) (hth : ThsOk P N W S0 ops Q ths)
    (k : FinAll ths (fun c T L C' => H P N W S0 ops Q C0 (c.flatten.length + fuel0) (listedOf n0 (c.flatten ++ tail)) (T ++ T0) L (C' ++ C)) stops) : H P N W S0 ops Q C0 fuel listed T0 [] C := by
  subst hfuel hlist
  obtain ⟨⟨c0, X⟩, hp, hX⟩ := Option.map_eq_some_iff.1 hC
  simp only at hX
  subst hX
  simp only [parB, Bool.and_eq_true] at hB
  have hI := initB.mem hin
  have hL : cL ths = [] := by
    unfold cL
    rw [List.flatten_eq_nil_iff]
    intro l hl
    obtain ⟨t, ht, rfl⟩ := List.mem_map.1 hl
    exact (hI t ht).2.2.1
  have hCC : cC ths = [] := by
    unfold cC
    rw [List.flatten_eq_nil_iff]
    intro l hl
    obtain ⟨t, ht, rfl⟩ := List.mem_map.1 hl
    exact (hI t ht).2.2.2
  have hok : ∀ t ∈ ths, t.Ok P N W S0 ops Q := fun t ht => by
    obtain ⟨h1, h2, h3, h4⟩ := hI t ht
    refine ⟨fun p hp => ?_, fun _ => h3, by rw [h1]; exact Nat.le_refl _, fun _ => ⟨h2, h3, h4⟩, ?_⟩
    · have := List.all_eq_true.1 (List.all_eq_true.1 hB.1.1.1.1 t ht) p hp
      simpa using this
    · rw [h3, h4]; exact hth.mem t ht
  have hgo := par_go (T0 := T0) (fuel0 := fuel0) (n0 := n0) (tail := tail) (stops := stops) (Fs := ths.map fun t => (t.F, t.i0, t.T1)) (pulls_perm hp) (fun ts hF hok' hst => by
      obtain ⟨h1, h2⟩ := k.mem _ hst
      exact h2.use (fun t ht => ⟨(hI t ht).1, (hI t ht).2.1⟩) hok' hF h1 rfl)
    (cI ths).length ths rfl rfl hok (nodupB_ok hB.1.1.1.2) (pairB_ok (fun s t h x hx hx' => by
      have := List.all_eq_true.1 h x hx
      simp [hx'] at this) hB.1.1.2) (pairB_ok (fun s t h hst => by simp [hst.1, hst.2] at h) hB.1.2) (fun c hc => List.all_eq_true.1 hB.2 c hc)
  intro a w hs
  refine hgo a w ?_
  rw [hL, hCC]
  refine hs.turn (fun i => sub_lk hsub i) (fun hb => ?_) rfl (List.Perm.refl _)
  rw [bounded_app]
  exact ⟨sub_bounded hsub hb, hb⟩
theorem FinK.nil {K : Tm → Bx → List Ass → Prop} (h : K [] [] []) : FinK [] [] K := h
theorem NILF {K : Go.Act → World → Prop} {T : Tm} {L : Bx} {C : List Ass} {α : Type} (e : TypeId) (La : Lay α) (k : G N W S0 K T L (slA e La (.slice none 0 0) [] :: C)) : G N W S0 K T L C := by
  refine NIL e La fun a w h => k a w (h.turn (fun _ => rfl) id rfl ?_)
  exact List.perm_append_comm
end par
end SX
end Go.Proofs.YthnbaikmbgaddaaGreat
