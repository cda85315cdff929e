/- Texts of this claim, put together by program. -/
import Derived.Test.YtejojcoaohlfbaaGreatSxd
import Derived.Test.YtejojcoaohlfbaaGreatSxs
import Derived.Laws.IdiomCopy
namespace Go.Proofs.YtejojcoaohlfbaaGreat
namespace SX
set_option linter.unusedVariables false
set_option linter.unusedSimpArgs false
open Go Go.RowKit
theorem lk_swap {A X Z : Tm} (h : ∀ p ∈ A, ∀ q ∈ X, p.1 ≠ q.1) (i : Nat) : lk (A ++ (X ++ Z)) i = lk (X ++ (A ++ Z)) i := by
 rw [lk_app, lk_app, lk_app, lk_app]
 cases ha : lk A i with
 | none => rfl
 | some x =>
   cases hx : lk X i with
   | none => rfl
   | some y => exact absurd rfl (h (i, x) (lk_mem ha) (i, y) (lk_mem hx))
theorem holds_perm {w : World} : ∀ {C D : List Ass}, C.Perm D → ∀ {fps}, holds w C fps → ∃ gps, gps.Perm fps ∧ holds w D gps := by
 intro C D h
 induction h with
 | nil => intro fps hf; exact ⟨fps, List.Perm.refl _, hf⟩
 | cons A _ ih =>
   intro fps hf
   cases fps with
   | nil => exact hf.elim
   | cons f fps =>
     obtain ⟨gps, h1, h2⟩ := ih hf.2
     exact ⟨f :: gps, h1.cons f, hf.1, h2⟩
 | swap A B l =>
   intro fps hf
   match fps, hf with
   | f :: g :: fps, hf => exact ⟨g :: f :: fps, List.Perm.swap _ _ _, hf.2.1, hf.1, hf.2.2⟩
 | trans _ _ ih1 ih2 =>
   intro fps hf
   obtain ⟨g1, h1, h2⟩ := ih1 hf
   obtain ⟨g2, h3, h4⟩ := ih2 h2
   exact ⟨g2, h3.trans h1, h4⟩
theorem Sat.turn {N : Nat} {W : World} {S0 : List Nat} {T T1 : Tm} {L L1 : Bx} {C C1 : List Ass} {a : Go.Act} {w : World} (h : Sat N W S0 T L C a w) (hT : ∀ i, lk T1 i = lk T i) (hb : bounded L.length T → bounded L.length T1) (hL : L1 = L) (hC : C.Perm C1) : Sat N W S0 T1 L1 C1 a w := by
 subst hL
 obtain ⟨bs, fps, ht, hbd, hm⟩ := h
 obtain ⟨gps, hg, hh⟩ := holds_perm hC hm.ch
 have hfl : gps.flatten.Perm fps.flatten := hg.flatten
 refine ⟨bs, gps, ⟨ht.1, ht.2.1, fun i x hx => ht.2.2 i x ((hT i).symm.trans hx)⟩, hb hbd, ⟨hm.fr, hm.bx, hh, ?_, fun b hb' hlt => hm.new b ?_ hlt⟩⟩
 · exact ((List.Perm.refl bs).append hfl).nodup_iff.2 hm.nd
 · rcases List.mem_append.1 hb' with h1 | h1
   · exact List.mem_append.2 (.inl h1)
   · exact List.mem_append.2 (.inr (hfl.mem_iff.1 h1))
theorem Sat.atC {N : Nat} {W : World} {S0 : List Nat} {T : Tm} {L : Bx} {C C0 X : List Ass} {a : Go.Act} {w : World} (h : Sat N W S0 T L C a w) (hC : C.Perm (C0 ++ X)) : At W S0 C0 w := by
 obtain ⟨bs, fps, ht, hbd, hm⟩ := h
 obtain ⟨gps, hg, hh⟩ := holds_perm hC hm.ch
 have key : ∀ (C0 X : List Ass) (gps : List (List Nat)), holds w (C0 ++ X) gps → ∃ g1 g2, gps = g1 ++ g2 ∧ holds w C0 g1 := by
  intro C0
  induction C0 with
  | nil => intro X gps _; exact ⟨[], gps, rfl, trivial⟩
  | cons A C0 ih =>
    intro X gps hh
    match gps, hh with
    | f :: gps, hh =>
      obtain ⟨g1, g2, h1, h2⟩ := ih X gps hh.2
      exact ⟨f :: g1, g2, by rw [h1]; rfl, hh.1, h2⟩
 obtain ⟨g1, g2, rfl, h1⟩ := key C0 X gps hh
 have hfl : (g1 ++ g2).flatten.Perm fps.flatten := hg.flatten
 have hnd := (List.nodup_append.1 hm.nd).2.1
 have hnd2 := hfl.nodup_iff.2 hnd
 rw [List.flatten_append] at hnd2 hfl
 refine ⟨hm.fr, g1, h1, (List.nodup_append.1 hnd2).1, fun b hb hlt => hm.new b (List.mem_append.2 (.inr (hfl.mem_iff.1 (List.mem_append.2 (.inl hb))))) hlt⟩
section par
variable (P : Program) (N : Nat) (W : World) (S0 : List Nat) (ops : Array Oper) (Q : Exit → Go.Act → World → Prop)
def Th (b : Bool) (ks : List Nat) : List Nat → (Tm → Bx → List Ass → Prop) → Tm → Bx → List Ass → Prop
 | [], F, T, Lp, C => F T Lp C
 | i :: is, F, T, Lp, C => ∀ (K : Go.Act → World → Prop) (Tr : Tm) (Lo : Bx) (Cr : List Ass), (b = true → Lo = []) →
     (∀ T' Lp' C', (∀ p ∈ T', p.1 ∈ ks) → (b = false → Lp' = []) → Th b ks is F T' Lp' C' → G N W S0 K (T' ++ Tr) (Lo ++ Lp') (Cr ++ C')) → OP P N W S0 ops (nQ Q) i K (T ++ Tr) (Lo ++ Lp) (C ++ Cr)
structure TS where
 b : Bool
 ks : List Nat
 is : List Nat
 F : Tm → Bx → List Ass → Prop
 T : Tm
 Lp : Bx
 C : List Ass
 i0 : List Nat
 T1 : Tm
structure TS.Ok (t : TS) : Prop where
 key : ∀ p ∈ t.T, p.1 ∈ t.ks
 lp : t.b = false → t.Lp = []
 len : t.is.length ≤ t.i0.length
 ini : t.is = t.i0 → t.T = t.T1 ∧ t.Lp = [] ∧ t.C = []
 th : Th P N W S0 ops Q t.b t.ks t.is t.F t.T t.Lp t.C
def cT (ths : List TS) : Tm := (ths.map (·.T)).flatten
def cL (ths : List TS) : Bx := (ths.map (·.Lp)).flatten
def cC (ths : List TS) : List Ass := (ths.map (·.C)).flatten
def cI (ths : List TS) : List Nat := (ths.map (·.is)).flatten
def listedOf (n : Nat) (left : List Nat) : Array Bool := (Array.range n).map fun j => !(left.contains j)
theorem listedOf_set {n i : Nat} {l m : List Nat} (h : ∀ j, j ∈ m ↔ j ∈ l ∧ j ≠ i) : (listedOf n l).setIfInBounds i true = listedOf n m := by
 apply Array.ext
 · simp [listedOf]
 · intro k h1 h2
   simp only [listedOf, Array.size_setIfInBounds, Array.size_map, Array.size_range] at h1 h2
   rw [Array.getElem_setIfInBounds (by simpa [listedOf] using h1)]
   simp only [listedOf, Array.getElem_map, Array.getElem_range]
   split
   · rename_i hik
     have : ¬ k ∈ m := fun hk => ((h k).1 hk).2 hik.symm
     simp [this]
   · rename_i hik
     have : k ∈ m ↔ k ∈ l := (h k).trans ⟨fun w => w.1, fun w => ⟨w, fun e => hik e.symm⟩⟩
     simp [this]
def tls : List Nat → List (List Nat)
 | [] => [[]]
 | x :: xs => (x :: xs) :: tls xs
theorem tls_self : ∀ l : List Nat, l ∈ tls l
 | [] => by simp [tls]
 | x :: xs => by simp [tls]
def combos : List (List Nat) → List (List (List Nat))
 | [] => [[]]
 | t :: ts => (tls t).flatMap fun s => (combos ts).map (s :: ·)
def chk (n : Nat) (tail : List Nat) (stops : List (List (List Nat))) (c : List (List Nat)) : Bool :=
 stops.contains c || (!(Region.ready .any ops (listedOf n (c.flatten ++ tail))).isEmpty && (Region.ready .any ops (listedOf n (c.flatten ++ tail))).all fun i => c.any fun is => is.head? == some i)
theorem combos_self : ∀ c : List (List Nat), c ∈ combos c
 | [] => by simp [combos]
 | t :: ts => by
   unfold combos
   refine List.mem_flatMap.2 ⟨t, tls_self t, List.mem_map.2 ⟨ts, combos_self ts, rfl⟩⟩
theorem combos_step : ∀ {A B : List (List Nat)} {i : Nat} {is : List Nat} {c : List (List Nat)}, c ∈ combos (A ++ is :: B) → c ∈ combos (A ++ (i :: is) :: B)
 | [], B, i, is, c, h => by
   simp only [List.nil_append, combos] at h ⊢
   obtain ⟨s, hs, hc⟩ := List.mem_flatMap.1 h
   exact List.mem_flatMap.2 ⟨s, by unfold tls; exact List.mem_cons_of_mem _ hs, hc⟩
 | t :: A, B, i, is, c, h => by
   simp only [List.cons_append, combos] at h ⊢
   obtain ⟨s, hs, hc⟩ := List.mem_flatMap.1 h
   obtain ⟨c', hc', rfl⟩ := List.mem_map.1 hc
   exact List.mem_flatMap.2 ⟨s, hs, List.mem_map.2 ⟨c', combos_step hc', rfl⟩⟩
theorem cT_app (A : List TS) (t : TS) (B : List TS) : cT (A ++ t :: B) = cT A ++ (t.T ++ cT B) := by simp [cT]
theorem cL_app (A : List TS) (t : TS) (B : List TS) : cL (A ++ t :: B) = cL A ++ (t.Lp ++ cL B) := by simp [cL]
theorem cC_app (A : List TS) (t : TS) (B : List TS) : cC (A ++ t :: B) = cC A ++ (t.C ++ cC B) := by simp [cC]
theorem cI_app (A : List TS) (t : TS) (B : List TS) : cI (A ++ t :: B) = cI A ++ (t.is ++ cI B) := by simp [cI]
variable {P N W S0 ops Q}
theorem cL_nil {ths : List TS} (h : ∀ t ∈ ths, t.Ok P N W S0 ops Q) (hb : ∀ t ∈ ths, t.b = false) : cL ths = [] := by
 unfold cL
 rw [List.flatten_eq_nil_iff]
 intro l hl
 obtain ⟨t, ht, rfl⟩ := List.mem_map.1 hl
 exact (h t ht).lp (hb t ht)
theorem cT_key {ths : List TS} (h : ∀ t ∈ ths, t.Ok P N W S0 ops Q) {p : Nat × SV} (hp : p ∈ cT ths) : ∃ t ∈ ths, p.1 ∈ t.ks := by
 unfold cT at hp
 obtain ⟨l, hl, hpl⟩ := List.mem_flatten.1 hp
 obtain ⟨t, ht, rfl⟩ := List.mem_map.1 hl
 exact ⟨t, ht, (h t ht).key p hpl⟩
theorem par_go {n0 fuel0 : Nat} {tail : List Nat} {T0 : Tm} {Cr C0 X : List Ass} {stops : List (List (List Nat))} {Fs : List ((Tm → Bx → List Ass → Prop) × List Nat × Tm)} (hC0 : Cr.Perm (C0 ++ X))
 (kfin : ∀ ths : List TS, ths.map (fun t => (t.F, t.i0, t.T1)) = Fs → (∀ t ∈ ths, t.Ok P N W S0 ops Q) → ths.map TS.is ∈ stops → H P N W S0 ops Q C0 ((cI ths).length + fuel0) (listedOf n0 (cI ths ++ tail)) (cT ths ++ T0) (cL ths) (cC ths ++ Cr)) :
 ∀ (n : Nat) (ths : List TS), (cI ths).length = n → ths.map (fun t => (t.F, t.i0, t.T1)) = Fs → (∀ t ∈ ths, t.Ok P N W S0 ops Q) → (cI ths ++ tail).Nodup → (ths.Pairwise fun s t => ∀ x ∈ s.ks, x ∉ t.ks) → (ths.Pairwise fun s t => ¬ (s.b = true ∧ t.b = true)) →
   (∀ c ∈ combos (ths.map TS.is), chk ops n0 tail stops c = true) → H P N W S0 ops Q C0 (n + fuel0) (listedOf n0 (cI ths ++ tail)) (cT ths ++ T0) (cL ths) (cC ths ++ Cr)
 | n, ths, hn, hF, hok, hnd, hks, hbs, hchk => by
   cases hst : stops.contains (ths.map TS.is) with
   | true => rw [← hn]; exact kfin ths hF hok (by simpa using hst)
   | false =>
   intro a w hs
   have hc := hchk _ (combos_self _)
   have hfl : (ths.map TS.is).flatten = cI ths := rfl
   unfold chk at hc
   rw [hfl, hst, Bool.false_or, Bool.and_eq_true] at hc
   obtain ⟨n, rfl⟩ : ∃ m, n = m + 1 := by
    cases n with
    | succ n => exact ⟨n, rfl⟩
    | zero =>
      exfalso
      have h0 : cI ths = [] := List.eq_nil_of_length_eq_zero hn
      cases hq : Region.ready .any ops (listedOf n0 (cI ths ++ tail)) with
      | nil => rw [hq] at hc; simp at hc
      | cons i is =>
        have hh := List.all_eq_true.1 hc.2 i (by rw [hq]; simp)
        obtain ⟨is0, his0, hhead⟩ := List.any_eq_true.1 hh
        have : is0 = [] := by
         rw [← hfl] at h0
         exact List.flatten_eq_nil_iff.1 h0 is0 his0
        rw [this] at hhead; simp at hhead
   rw [show n + 1 + fuel0 = (n + fuel0) + 1 by omega]
   refine ⟨fun hr => ?_, fun i hi => ?_⟩
   · rw [hr] at hc; simp at hc
   · have hh := List.all_eq_true.1 hc.2 i hi
     obtain ⟨is0, his0, hhead⟩ := List.any_eq_true.1 hh
     obtain ⟨t, ht, rfl⟩ := List.mem_map.1 his0
     obtain ⟨is', hti⟩ : ∃ is', t.is = i :: is' := by
      cases hq : t.is with
      | nil => rw [hq] at hhead; simp at hhead
      | cons x xs =>
        rw [hq] at hhead
        simp only [List.head?_cons, beq_iff_eq, Option.some.injEq] at hhead
        exact ⟨xs, by rw [hhead]⟩
     obtain ⟨A, B, rfl⟩ := List.append_of_mem ht
     have hokt := hok t (by simp)
     have hokA : ∀ s ∈ A, s.Ok P N W S0 ops Q := fun s hs => hok s (by simp [hs])
     have hokB : ∀ s ∈ B, s.Ok P N W S0 ops Q := fun s hs => hok s (by simp [hs])
     have hpk := List.pairwise_append.1 hks
     have hpb := List.pairwise_append.1 hbs
     have hAt : ∀ s ∈ A, ∀ x ∈ s.ks, x ∉ t.ks := fun s hs => hpk.2.2 s hs t (by simp)
     have hLo : t.b = true → cL A ++ cL B = [] := by
      intro hb
      have h1 := cL_nil hokA fun s hs => by
       cases hq : s.b with
       | false => rfl
       | true => exact absurd ⟨hq, hb⟩ (hpb.2.2 s hs t (by simp))
      have h2 := cL_nil hokB fun s hs => by
       cases hq : s.b with
       | false => rfl
       | true => exact absurd ⟨hb, hq⟩ ((List.pairwise_cons.1 hpb.2.1).1 s hs)
      rw [h1, h2]; rfl
     have hLeq : ∀ Lp' : Bx, (t.b = false → Lp' = []) → cL A ++ (Lp' ++ cL B) = (cL A ++ cL B) ++ Lp' := by
      intro Lp' h1
      cases hb : t.b with
      | false => rw [h1 hb]; simp
      | true =>
        have h2 := hLo hb
        obtain ⟨h3, h4⟩ := List.append_eq_nil_iff.1 h2
        rw [h3, h4]; simp
     have hsw : ∀ T' : Tm, (∀ p ∈ T', p.1 ∈ t.ks) → ∀ i, lk (cT A ++ (T' ++ (cT B ++ T0))) i = lk (T' ++ (cT A ++ (cT B ++ T0))) i := fun T' hk i => lk_swap (fun p hp q hq he => by
      obtain ⟨s, hs, hps⟩ := cT_key hokA hp
      exact hAt s hs _ hps (he ▸ hk q hq)) i
     have hth := hokt.th
     rw [hti] at hth
     refine hth (fun a' w' => At W S0 C0 w' ∧ wpAnyH P .any ops (nQ Q) (At W S0 C0) (n + fuel0) ((listedOf n0 (cI (A ++ t :: B) ++ tail)).setIfInBounds i true) a' w') (cT A ++ (cT B ++ T0)) (cL A ++ cL B) (cC A ++ (cC B ++ Cr)) hLo ?_ a w ?_
     · intro T' Lp' C' hk' hl' hth' a' w' hs'
       have hci : cI (A ++ (⟨t.b, t.ks, is', t.F, T', Lp', C', t.i0, t.T1⟩ : TS) :: B) = cI A ++ (is' ++ cI B) := by rw [cI_app]
       have hco : cI (A ++ t :: B) = cI A ++ (i :: is' ++ cI B) := by rw [cI_app, hti]
       rw [hco] at hnd
       have hnd2 : (cI (A ++ (⟨t.b, t.ks, is', t.F, T', Lp', C', t.i0, t.T1⟩ : TS) :: B) ++ tail).Nodup ∧ ∀ j, j ∈ cI (A ++ (⟨t.b, t.ks, is', t.F, T', Lp', C', t.i0, t.T1⟩ : TS) :: B) ++ tail ↔ j ∈ cI (A ++ t :: B) ++ tail ∧ j ≠ i := by
        rw [hci, hco]
        have hp : (cI A ++ (i :: is' ++ cI B) ++ tail).Perm (i :: (cI A ++ (is' ++ cI B) ++ tail)) := by
         simp only [List.append_assoc, List.cons_append]
         exact List.perm_middle
        have h1 := hp.nodup_iff.1 hnd
        rw [List.nodup_cons] at h1
        refine ⟨h1.2, fun j => ⟨fun hj => ⟨hp.mem_iff.2 (List.mem_cons_of_mem _ hj), fun e => h1.1 (e ▸ hj)⟩, fun hj => ?_⟩⟩
        rcases List.mem_cons.1 (hp.mem_iff.1 hj.1) with h2 | h2
        · exact absurd h2 hj.2
        · exact h2
       have ih := par_go hC0 kfin n (A ++ (⟨t.b, t.ks, is', t.F, T', Lp', C', t.i0, t.T1⟩ : TS) :: B) (by
        rw [hci]; rw [hco] at hn
        simp only [List.length_append, List.length_cons] at hn ⊢; omega)
        (by rw [← hF]; simp) (fun s hs => by
          rcases List.mem_append.1 hs with h1 | h1
          · exact hokA s h1
          · rcases List.mem_cons.1 h1 with rfl | h1
            · have hle := hokt.len
              rw [hti, List.length_cons] at hle
              refine ⟨hk', hl', ?_, fun he => ?_, hth'⟩
              · show is'.length ≤ t.i0.length
                omega
              · have := congrArg List.length (show is' = t.i0 from he)
                omega
            · exact hokB s h1) hnd2.1
        (by
          refine List.pairwise_append.2 ⟨hpk.1, ?_, fun s hs u hu => ?_⟩
          · have := List.pairwise_cons.1 hpk.2.1
            exact List.pairwise_cons.2 ⟨this.1, this.2⟩
          · rcases List.mem_cons.1 hu with rfl | hu
            · exact hAt s hs
            · exact hpk.2.2 s hs u (by simp [hu]))
        (by
          refine List.pairwise_append.2 ⟨hpb.1, ?_, fun s hs u hu => ?_⟩
          · have := List.pairwise_cons.1 hpb.2.1
            exact List.pairwise_cons.2 ⟨this.1, this.2⟩
          · rcases List.mem_cons.1 hu with rfl | hu
            · exact hpb.2.2 s hs t (by simp)
            · exact hpb.2.2 s hs u (by simp [hu]))
        (fun c hc => hchk c (by
          rw [List.map_append, List.map_cons] at hc ⊢
          rw [hti]
          exact combos_step hc))
       have hs2 : Sat N W S0 (cT (A ++ (⟨t.b, t.ks, is', t.F, T', Lp', C', t.i0, t.T1⟩ : TS) :: B) ++ T0) (cL (A ++ (⟨t.b, t.ks, is', t.F, T', Lp', C', t.i0, t.T1⟩ : TS) :: B)) (cC (A ++ (⟨t.b, t.ks, is', t.F, T', Lp', C', t.i0, t.T1⟩ : TS) :: B) ++ Cr) a' w' := by
        refine hs'.turn (fun i => ?_) (fun hb => ?_) ?_ ?_
        · rw [cT_app, List.append_assoc, List.append_assoc]; exact hsw T' hk' i
        · revert hb
          generalize List.length _ = m
          intro hb
          rw [cT_app, List.append_assoc, List.append_assoc]
          rw [bounded_app, bounded_app] at hb ⊢
          rw [bounded_app] at hb ⊢
          exact ⟨hb.2.1, hb.1, hb.2.2⟩
        · rw [cL_app]; exact hLeq Lp' hl'
        · rw [cC_app]
          simp only [List.append_assoc]
          refine List.Perm.append_left _ ?_
          rw [← List.append_assoc]
          exact List.perm_append_comm
       refine ⟨hs2.atC (X := cC (A ++ (⟨t.b, t.ks, is', t.F, T', Lp', C', t.i0, t.T1⟩ : TS) :: B) ++ X) ?_, ?_⟩
       · exact (hC0.append_left _).trans (List.perm_append_comm_assoc _ _ _)
       · rw [listedOf_set hnd2.2]
         exact ih a' w' hs2
     · refine hs.turn (fun i => ?_) (fun hb => ?_) ?_ ?_
       · rw [cT_app, List.append_assoc, List.append_assoc]; exact (hsw t.T hokt.key i).symm
       · rw [cT_app, List.append_assoc, List.append_assoc] at hb
         rw [bounded_app, bounded_app, bounded_app] at hb ⊢
         exact ⟨hb.2.1, hb.1, hb.2.2⟩
       · rw [cL_app]; exact (hLeq t.Lp hokt.lp).symm
       · rw [cC_app]
         simp only [List.append_assoc]
         exact List.perm_append_comm_assoc (cC A) t.C (cC B ++ Cr)
theorem pull_perm {α : Type} : ∀ {i : Nat} {l : List α} {x : α} {r : List α}, pull i l = some (x, r) → l.Perm (x :: r)
 | _, [], x, r, h => by simp [pull] at h
 | 0, y :: l, x, r, h => by
   simp only [pull, Option.some.injEq, Prod.mk.injEq] at h
   obtain ⟨rfl, rfl⟩ := h
   exact List.Perm.refl _
 | i + 1, y :: l, x, r, h => by
   simp only [pull] at h
   cases h1 : pull i l with
   | none => simp [h1] at h
   | some q =>
     obtain ⟨z, m⟩ := q
     simp only [h1, Option.map_some, Option.some.injEq, Prod.mk.injEq] at h
     obtain ⟨rfl, rfl⟩ := h
     exact ((pull_perm h1).cons y).trans (List.Perm.swap _ _ _)
theorem pulls_perm {α : Type} : ∀ {js : List Nat} {l x r : List α}, pulls js l = some (x, r) → l.Perm (x ++ r)
 | [], l, x, r, h => by
   simp only [pulls, Option.some.injEq, Prod.mk.injEq] at h
   obtain ⟨rfl, rfl⟩ := h
   exact List.Perm.refl _
 | i :: js, l, x, r, h => by
   simp only [pulls] at h
   cases h1 : pull i l with
   | none => simp [h1] at h
   | some q =>
     obtain ⟨z, m⟩ := q
     simp only [h1] at h
     obtain ⟨⟨y, r'⟩, h2, h3⟩ := Option.map_eq_some_iff.1 h
     simp only [Prod.mk.injEq] at h3
     obtain ⟨rfl, rfl⟩ := h3
     exact (pull_perm h1).trans ((pulls_perm h2).cons z)
def sub : Tm → Tm → Prop
 | [], _ => True
 | (k, v) :: A, T => lk T k = some v ∧ sub A T
theorem sub_lk {A T : Tm} (h : sub A T) (i : Nat) : lk (A ++ T) i = lk T i := by
 induction A with
 | nil => rfl
 | cons p A ih =>
   obtain ⟨k, v⟩ := p
   rw [List.cons_append]
   by_cases hk : k = i
   · subst hk; rw [h.1]; simp [lk]
   · rw [← ih h.2]; simp [lk, hk]
theorem sub_bounded {n : Nat} : ∀ {A T : Tm}, sub A T → bounded n T → bounded n A
 | [], _, _, _ => trivial
 | (k, v) :: A, T, h, hb => by
   have ih := sub_bounded h.2 hb
   cases v with
   | p i off => exact ⟨hb.lk h.1, ih⟩
   | v x => exact ih
   | e a c o => exact ih
def nodupB : List Nat → Bool
 | [] => true
 | x :: xs => !xs.contains x && nodupB xs
theorem nodupB_ok : ∀ {l : List Nat}, nodupB l = true → l.Nodup
 | [], _ => List.nodup_nil
 | x :: xs, h => by
   simp only [nodupB, Bool.and_eq_true, Bool.not_eq_true'] at h
   rw [List.nodup_cons]
   exact ⟨by simpa using h.1, nodupB_ok h.2⟩
def pairB (r : TS → TS → Bool) : List TS → Bool
 | [] => true
 | x :: xs => xs.all (r x) && pairB r xs
theorem pairB_ok {r : TS → TS → Bool} {p : TS → TS → Prop} (h : ∀ s t, r s t = true → p s t) : ∀ {l : List TS}, pairB r l = true → l.Pairwise p
 | [], _ => List.Pairwise.nil
 | x :: xs, hp => by
   simp only [pairB, Bool.and_eq_true] at hp
   exact List.pairwise_cons.2 ⟨fun y hy => h x y (List.all_eq_true.1 hp.1 y hy), pairB_ok h hp.2⟩
def parB (ops : Array Oper) (n0 : Nat) (tail : List Nat) (stops : List (List (List Nat))) (ths : List TS) : Bool :=
 ths.all (fun t => t.T.all fun p => t.ks.contains p.1) && nodupB (cI ths ++ tail) && pairB (fun s t => s.ks.all fun x => !t.ks.contains x) ths && pairB (fun s t => !(s.b && t.b)) ths && (combos (ths.map TS.is)).all (chk ops n0 tail stops)
variable (P N W S0 ops Q)
def ThsOk : List TS → Prop
 | [] => True
 | t :: ts => (Th P N W S0 ops Q t.b t.ks t.is t.F t.T [] []) ∧ ThsOk ts
def FinK : List TS → List (List Nat) → (Tm → Bx → List Ass → Prop) → Prop
 | t :: ts, [] :: c, K => ∀ T Lp C, t.F T Lp C → FinK ts c fun T' L' C' => K (T ++ T') (Lp ++ L') (C ++ C')
 | t :: ts, (_ :: _) :: c, K => FinK ts c fun T' L' C' => K (t.T ++ T') L' C'
 | _, _, K => K [] [] []
variable {P N W S0 ops Q}
theorem ThsOk.mem : ∀ {ths : List TS}, ThsOk P N W S0 ops Q ths → ∀ t ∈ ths, Th P N W S0 ops Q t.b t.ks t.is t.F t.T [] []
 | [], _, t, ht => by cases ht
 | s :: ts, h, t, ht => by
   rcases List.mem_cons.1 ht with rfl | ht
   · exact h.1
   · exact ThsOk.mem h.2 t ht
def stopOk : List TS → List (List Nat) → Prop
 | [], [] => True
 | t :: ts, is :: c => (is = [] ∨ is = t.i0) ∧ stopOk ts c
 | _, _ => False
theorem FinK.use : ∀ {Ts ths : List TS} {c : List (List Nat)} {K : Tm → Bx → List Ass → Prop}, FinK Ts c K → (∀ t ∈ Ts, t.is = t.i0 ∧ t.T = t.T1) → (∀ t ∈ ths, t.Ok P N W S0 ops Q) → ths.map (fun t => (t.F, t.i0, t.T1)) = Ts.map (fun t => (t.F, t.i0, t.T1)) → stopOk Ts c → ths.map TS.is = c → K (cT ths) (cL ths) (cC ths)
 | [], [], c, K, h, _, _, _, hs, hc => by subst hc; exact h
 | [], t :: ths, c, K, h, _, _, he, hs, hc => by simp at he
 | s :: Ts, [], c, K, h, _, _, he, hs, hc => by simp at he
 | s :: Ts, t :: ths, c, K, h, hi, hok, he, hs, hc => by
   simp only [List.map_cons, List.cons.injEq, Prod.mk.injEq] at he
   obtain ⟨⟨e1, e2, e3⟩, he⟩ := he
   cases c with
   | nil => simp at hc
   | cons is c =>
     simp only [List.map_cons, List.cons.injEq] at hc
     obtain ⟨h1, h2⟩ := hc
     have hok1 := hok t (by simp)
     have ih := fun {K'} h' => FinK.use (Ts := Ts) (ths := ths) (c := c) (K := K') h' (fun t ht => hi t (by simp [ht])) (fun t ht => hok t (by simp [ht])) he hs.2 h2
     show K (t.T ++ cT ths) (t.Lp ++ cL ths) (t.C ++ cC ths)
     cases is with
     | nil =>
       have hth := hok1.th
       rw [h1] at hth
       have hF : s.F t.T t.Lp t.C := by rw [← e1]; exact hth
       exact ih (h _ _ _ hF)
     | cons i is =>
       have h3 : t.is = t.i0 := by
        rw [h1, e2]
        rcases hs.1 with h | h
        · cases h
        · exact h
       obtain ⟨h4, h5, h6⟩ := hok1.ini h3
       rw [h4, h5, h6, e3, ← (hi s (by simp)).2]
       exact ih h
def FinAll (ths : List TS) (f : List (List Nat) → Tm → Bx → List Ass → Prop) : List (List (List Nat)) → Prop
 | [] => True
 | c :: cs => (stopOk ths c ∧ FinK ths c (f c)) ∧ FinAll ths f cs
theorem FinAll.mem {ths : List TS} {f : List (List Nat) → Tm → Bx → List Ass → Prop} : ∀ {cs : List (List (List Nat))}, FinAll ths f cs → ∀ c ∈ cs, stopOk ths c ∧ FinK ths c (f c)
 | [], _, c, hc => by cases hc
 | d :: cs, h, c, hc => by
   rcases List.mem_cons.1 hc with rfl | hc
   · exact h.1
   · exact FinAll.mem h.2 c hc
def TS.at (b : Bool) (ks is : List Nat) (T : Tm) (F : Tm → Bx → List Ass → Prop) : TS := ⟨b, ks, is, F, T, [], [], is, T⟩
def initB : List TS → Prop
 | [] => True
 | t :: ts => (t.is = t.i0 ∧ t.T = t.T1 ∧ t.Lp = [] ∧ t.C = []) ∧ initB ts
theorem initB.mem : ∀ {ths : List TS}, initB ths → ∀ t ∈ ths, t.is = t.i0 ∧ t.T = t.T1 ∧ t.Lp = [] ∧ t.C = []
 | [], _, t, ht => by cases ht
 | s :: ts, h, t, ht => by
   rcases List.mem_cons.1 ht with rfl | ht
   · exact h.1
   · exact initB.mem h.2 t ht
theorem PAR {fuel : Nat} {listed : Array Bool} {T0 : Tm} {C C0 : List Ass} {js : List Nat} (fuel0 n0 : Nat) (ths : List TS) (tail : List Nat) (stops : List (List (List Nat))) (hC : (pulls js C).map (·.1) = some C0)
 (hfuel : fuel = (cI ths).length + fuel0) (hlist : listed = listedOf n0 (cI ths ++ tail)) (hsub : sub (cT ths) T0) (hin : initB ths) (hB : parB ops n0 tail stops ths = true) (hth : ThsOk P N W S0 ops Q ths)
 (k : FinAll ths (fun c T L C' => H P N W S0 ops Q C0 (c.flatten.length + fuel0) (listedOf n0 (c.flatten ++ tail)) (T ++ T0) L (C' ++ C)) stops) : H P N W S0 ops Q C0 fuel listed T0 [] C := by
 subst hfuel hlist
 obtain ⟨⟨c0, X⟩, hp, hX⟩ := Option.map_eq_some_iff.1 hC
 simp only at hX
 subst hX
 simp only [parB, Bool.and_eq_true] at hB
 have hI := initB.mem hin
 have hL : cL ths = [] := by
  unfold cL
  rw [List.flatten_eq_nil_iff]
  intro l hl
  obtain ⟨t, ht, rfl⟩ := List.mem_map.1 hl
  exact (hI t ht).2.2.1
 have hCC : cC ths = [] := by
  unfold cC
  rw [List.flatten_eq_nil_iff]
  intro l hl
  obtain ⟨t, ht, rfl⟩ := List.mem_map.1 hl
  exact (hI t ht).2.2.2
 have hok : ∀ t ∈ ths, t.Ok P N W S0 ops Q := fun t ht => by
  obtain ⟨h1, h2, h3, h4⟩ := hI t ht
  refine ⟨fun p hp => ?_, fun _ => h3, by rw [h1]; exact Nat.le_refl _, fun _ => ⟨h2, h3, h4⟩, ?_⟩
  · have := List.all_eq_true.1 (List.all_eq_true.1 hB.1.1.1.1 t ht) p hp
    simpa using this
  · rw [h3, h4]; exact hth.mem t ht
 have hgo := par_go (T0 := T0) (fuel0 := fuel0) (n0 := n0) (tail := tail) (stops := stops) (Fs := ths.map fun t => (t.F, t.i0, t.T1)) (pulls_perm hp) (fun ts hF hok' hst => by
  obtain ⟨h1, h2⟩ := k.mem _ hst
  exact h2.use (fun t ht => ⟨(hI t ht).1, (hI t ht).2.1⟩) hok' hF h1 rfl)
  (cI ths).length ths rfl rfl hok (nodupB_ok hB.1.1.1.2) (pairB_ok (fun s t h x hx hx' => by
    have := List.all_eq_true.1 h x hx
    simp [hx'] at this) hB.1.1.2) (pairB_ok (fun s t h hst => by simp [hst.1, hst.2] at h) hB.1.2) (fun c hc => List.all_eq_true.1 hB.2 c hc)
 intro a w hs
 refine hgo a w ?_
 rw [hL, hCC]
 refine hs.turn (fun i => sub_lk hsub i) (fun hb => ?_) rfl (List.Perm.refl _)
 rw [bounded_app]
 exact ⟨sub_bounded hsub hb, hb⟩
theorem FinK.nil {K : Tm → Bx → List Ass → Prop} (h : K [] [] []) : FinK [] [] K := h
theorem NILF {K : Go.Act → World → Prop} {T : Tm} {L : Bx} {C : List Ass} {α : Type} (e : TypeId) (La : Lay α) (k : G N W S0 K T L (slA e La (.slice none 0 0) [] :: C)) : G N W S0 K T L C := by
 refine NIL e La fun a w h => k a w (h.turn (fun _ => rfl) id rfl ?_)
 exact List.perm_append_comm
end par
section lists
variable {α : Type} {sz : Nat} {enc : α → List Value}
theorem flatMap_take (hh : ∀ x, (enc x).length = sz) : ∀ (xs : List α) (k : Nat), (xs.flatMap enc).take (k * sz) = (xs.take k).flatMap enc
 | [], k => by simp
 | x :: xs, 0 => by simp
 | x :: xs, k + 1 => by
   have ih := flatMap_take hh xs k
   rw [List.flatMap_cons, List.take_succ_cons, List.flatMap_cons, List.take_append, hh x, List.take_of_length_le (by rw [hh x, Nat.add_mul]; omega), show (k + 1) * sz - sz = k * sz by rw [Nat.add_mul]; omega, ih]
theorem flatMap_drop (hh : ∀ x, (enc x).length = sz) : ∀ (xs : List α) (k : Nat), (xs.flatMap enc).drop (k * sz) = (xs.drop k).flatMap enc
 | [], k => by simp
 | x :: xs, 0 => by simp
 | x :: xs, k + 1 => by
   have ih := flatMap_drop hh xs k
   rw [List.flatMap_cons, List.drop_succ_cons, List.drop_append, hh x, List.drop_of_length_le (by rw [hh x, Nat.add_mul]; omega), show (k + 1) * sz - sz = k * sz by rw [Nat.add_mul]; omega, ih, List.nil_append]
theorem flatMap_len (hh : ∀ x, (enc x).length = sz) (xs : List α) : (xs.flatMap enc).length = xs.length * sz := by
 induction xs with
 | nil => simp
 | cons x xs ih => rw [List.flatMap_cons, List.length_append, ih, hh x, List.length_cons, Nat.add_mul]; omega
theorem setCells_keep : ∀ (vs cs : List Value) (off k : Nat), k ≤ off → (setCells cs off vs).take k = cs.take k
 | [], cs, off, k, _ => rfl
 | v :: vs, cs, off, k, h => by
   simp only [setCells]
   rw [setCells_keep vs _ (off + 1) k (by omega), List.take_set, List.set_eq_of_length_le (by rw [List.length_take]; omega)]
theorem setCells_mid (vs cs : List Value) (off : Nat) (h : off + vs.length ≤ cs.length) : setCells cs off vs = cs.take off ++ vs ++ cs.drop (off + vs.length) := by
 have hd : ∀ (vs cs : List Value) (off k : Nat), off + vs.length ≤ k → (setCells cs off vs).drop k = cs.drop k := by
  intro vs
  induction vs with
  | nil => intro cs off k _; rfl
  | cons v vs ih =>
    intro cs off k hk
    simp only [List.length_cons] at hk
    simp only [setCells]
    rw [ih _ (off + 1) k (by omega), List.drop_set_of_lt (by omega)]
 have h1 := setCells_take vs cs off h
 have h2 := hd vs cs off (off + vs.length) (Nat.le_refl _)
 rw [← List.take_append_drop (off + vs.length) (setCells cs off vs), h1, h2]
end lists
theorem run_append_fit {P : Program} {w : World} {t tx ty e : TypeId} {i : TypeInfo} (ht : P.underlying t = some (.slice e)) (hi : P.info? e = some i) {g ob n cap : Nat} {xs : List Value} (hown : ownsR w e i.size (.slice (some ⟨g, ob, none⟩) n cap) n xs)
 {x : Value} {m : Nat} {news : List Value} (hs : Src P i.size tx x m news w) (h1 : ∀ u ∈ news, isCell u = true) (hroom : n + m ≤ cap) :
 ∃ w', (Builtin.append_ #[t, tx] ty #[.slice (some ⟨g, ob, none⟩) n cap, x]).run P w = .ok (.slice (some ⟨g, ob, none⟩) (n + m) cap) w' ∧ ownsR w' e i.size (.slice (some ⟨g, ob, none⟩) (n + m) cap) (n + m) (xs ++ news) ∧ w.grownBy w' (some g) := by
 obtain ⟨full, hfull, hft, _, _⟩ := hown.all
 have hmul : (n + m) * i.size ≤ cap * i.size := Nat.mul_le_mul_right _ hroom
 have hfit : n * i.size + 0 + news.length ≤ full.length := by rw [hs.newsLen, hfull.1, Nat.add_zero, ← Nat.add_mul]; exact hmul
 obtain ⟨w', hr, hrow, hgr⟩ := run_storeCells_row (P := P) news w 0 (n * i.size) full hfull (by simpa [List.all_eq_true] using h1) (by omega)
 refine ⟨w', ?_, ?_, hgr⟩
 · rcases hs.kind with ⟨e', hk⟩ | hk <;> simp [Builtin.append_, run_underlying ht, run_underlying hk, sizeOf, typeInfo, hi, hs.len, hroom, hs.cells, add_lit, hr]
 · have := hrow.part hroom
   rw [Nat.add_zero] at this
   have hnl := hs.newsLen
   rw [show (n + m) * i.size = n * i.size + news.length by rw [hnl, Nat.add_mul], setCells_take _ _ _ (by omega), hft] at this
   exact this
section rules
variable {P : Program} {N : Nat} {W : World} {S0 : List Nat} {Q : Exit → Act → World → Prop} {T : Tm} {L : Bx} {C : List Ass} {ops : Array Oper}
theorem src_of {w : World} {α : Type} {sz : Nat} {enc : α → List Value} {hh : ∀ x, (enc x).length = sz ∧ ∀ u ∈ enc x, isCell u = true} {t e : TypeId} (hu : P.underlying t = some (.slice e)) {a2 : Option Addr} {ys : List α} (hrd : Rd (flat sz enc hh) w a2 ys) (c2 : Nat) :
 Src P sz t (.slice a2 ys.length c2) ys.length (ys.flatMap enc) w := by
 obtain ⟨fr2, hl2, hsl⟩ := hrd
 have hflen : (ys.flatMap enc).length = ys.length * sz := (cellsRep_flat (h := hh) (m := true) (w := w) ys).len
 have hmem : ∀ u ∈ ys.flatMap enc, isCell u = true := fun u hu => (cellsRep_flat (h := hh) (m := true) (w := w) ys).one u hu
 cases a2 with
 | some ad =>
   refine Src.ofSlice w hu ad ys.length c2 (ys.flatMap enc) hflen ?_ (fun u hu => isCell_one (hmem u hu))
   intro j u hj
   rcases hsl with ⟨h0, _⟩ | ⟨b, off, g, cells, h1, h2, h3, h4, h5⟩
   · subst h0; simp at hj
   · injection h1 with h1
     subst h1
     obtain ⟨rfl, _⟩ := flat_cells h4
     rw [add_lit, h5 j (List.getElem?_eq_some_iff.1 hj).1, hj]
 | none =>
   have h0 : ys = [] := by
    rcases hsl with ⟨h0, _⟩ | ⟨b, off, g, cells, h1, _⟩
    · exact h0
    · cases h1
   subst h0
   exact Src.ofNil w hu c2
theorem APPENDP {i : Nat} {K : Act → World → Prop} (t : TypeId) (s x : Operand) (d : Nat) (ty : TypeId) (ho : opAt ops T i = some (.call { callee := .builtin .append, args := #[s, x], argTypes := #[t, t] }, some d, ty)) (hd : d < N)
 {α : Type} {sz : Nat} {enc : α → List Value} {hh : ∀ x, (enc x).length = sz ∧ ∀ u ∈ enc x, isCell u = true}
 (a : Option Addr) (n c k : Nat) (a2 : Option Addr) (n2 c2 : Nat) (hs : evv T s = some (.slice a k c)) (hx : evv T x = some (.slice a2 n2 c2)) (e : TypeId) (hu : P.underlying t = some (.slice e)) (hi : (P.info? e).map (·.size) = some sz)
 (j : Nat) (xs ys : List α) (R : List Ass) (hp : pulls [j] C = some ([slA e (flat sz enc hh) (.slice a n c) xs], R)) (hn2 : ys.length = n2) (hrd : ∀ w, At W S0 C w → Rd (flat sz enc hh) w a2 ys) (ha : a.isSome = true) (hk : k ≤ xs.length) (hfit : k + n2 ≤ c)
 (kk : G N W S0 K ((d, .v (.slice a (k + n2) c)) :: T) L (R ++ [slA e (flat sz enc hh) (.slice a (k + n2) c) (xs.take k ++ ys)])) : OP P N W S0 ops Q i K T L C := by
 refine STEPM (js := [j]) (ι := Unit) (val := fun _ => .slice a (k + n2) c) (own := fun _ => [slA e (flat sz enc hh) (.slice a (k + n2) c) (xs.take k ++ ys)]) _ (some d) _ ho (by rintro _ ⟨⟩; exact hd) hp ?_ (fun _ => kk)
 intro ac o bs w fps hev hop hty hat hown hnd
 match fps, hown with
 | [fp], ⟨⟨cells, g, hrow, hfp, hrep, hlen⟩, _⟩ =>
   subst hn2
   rcases hrow.2 with ⟨hv, h0⟩ | ⟨b, ob, cap', cur, fz, hv, _, _, hnc, hcm, _⟩
   · injection hv with e1 _ _; subst e1; cases ha
   · injection hv with e1 e2 e3
     subst e1; subst e2; subst e3
     obtain ⟨rfl, rfl⟩ := flat_cells hrep
     obtain ⟨inf, hi1, hi2⟩ := Option.map_eq_some_iff.1 hi
     have hhl : ∀ x, (enc x).length = sz := fun x => (hh x).1
     have hz : (flat sz enc hh).sz = sz := rfl
     rw [hz] at hrow
     obtain ⟨full, hfull, hft, _, _⟩ := hrow.all
     have hpart := hfull.part (k := k) (by omega)
     have hpx : full.take (k * sz) = (xs.take k).flatMap enc := by
      rw [← flatMap_take hhl, ← hft, List.take_take]
      congr 1
      have : k * sz ≤ xs.length * sz := Nat.mul_le_mul_right _ hk
      omega
     rw [hpx] at hpart
     have hsrc := src_of (P := P) hu (hrd w hat) c2
     have hmem : ∀ u ∈ ys.flatMap enc, isCell u = true := fun u hu => (cellsRep_flat (h := hh) (m := true) (w := w) ys).one u hu
     subst hi2
     obtain ⟨w', hr, hrow', hg⟩ := run_append_fit (P := P) (ty := o.type) hu hi1 hpart hsrc hmem hfit
     have e1 : ac.eval s = .slice (some ⟨b, ob, none⟩) k c := hev s _ (evo_of_evv hs)
     have e2 : ac.eval x = .slice a2 ys.length c2 := hev x _ (evo_of_evv hx)
     have hl2 : (xs.take k ++ ys).length = k + ys.length := by rw [List.length_append, List.length_take]; omega
     refine ⟨(), w', _, [[b]], ?_, .inl rfl, ⟨⟨(xs.take k ++ ys).flatMap enc, [], ?_, by simp [Value.ownBlock], cellsRep_flat _, by rw [hl2]; omega⟩, trivial⟩, by simp, ?_, ?_⟩
     · simp [execOp, hop, resolve, invoke, builtin, e1, e2, hr, Result.andThen]
     · rw [hl2, List.flatMap_append]; exact hrow'
     · intro c' hcm _
       simp only [List.flatten_cons, List.flatten_nil, List.append_nil, List.mem_singleton] at hcm
       subst hcm
       simp [hfp, Value.ownBlock]
     · refine ⟨hg.os, hg.tape, hg.output, hg.size, fun c' hc' hne => hg.block c' hc' (fun hce => hne ?_)⟩
       injection hce with hce
       subst hce
       simp [hfp, Value.ownBlock]
def elA (a : Option Addr) (c l sz : Nat) : Option Addr := if c = l then a else a.map (·.add (l * sz))
theorem CUTX {i : Nat} {K : Act → World → Prop} (t : TypeId) (x lo hi : Operand) (d : Nat) (ty : TypeId) (ho : opAt ops T i = some (.slice t x (some lo) (some hi) none, some d, ty)) (hd : d < N) (a : Option Addr) (n cap : Nat) (kl : IntKind) (l : Int) (kh : IntKind) (h : Int)
 (hx : evv T x = some (.slice a n cap)) (hl : evv T lo = some (.int kl l)) (hh : evv T hi = some (.int kh h)) (e : TypeId) (sz : Nat) (hu : P.underlying t = some (.slice e)) (hs : (P.info? e).map (·.size) = some sz) (h0 : 0 ≤ l) (h1 : l ≤ h) (h2 : h ≤ cap)
 (k : G N W S0 K ((d, .v (.slice (elA a cap l.toNat sz) (h.toNat - l.toNat) (cap - l.toNat))) :: T) L C) : OP P N W S0 ops Q i K T L C := by
 refine STEP _ _ _ ho (by rintro _ ⟨⟩; exact hd) (.v (.slice (elA a cap l.toNat sz) (h.toNat - l.toNat) (cap - l.toNat))) (by intro j off he; cases he) ?_ k
 intro ac o bs w hev hop _ _
 obtain ⟨inf, hi1, hsz⟩ := Option.map_eq_some_iff.1 hs
 have hel : P.elem t = e := by unfold Program.elem; rw [hu]
 have hu' : P.underlying t = some (.slice (P.elem t)) := by rw [hel]; exact hu
 have e1 : ac.eval x = .slice a n cap := hev x _ (evo_of_evv hx)
 have e2 : ac.eval lo = .int kl l := hev lo _ (evo_of_evv hl)
 have e3 : ac.eval hi = .int kh h := hev hi _ (evo_of_evv hh)
 simp only [execOp, hop, e1, e2, e3, Option.map_some, Option.map_none, Sem.run_bind, run_sliceAt_slice w t _ _ _ _ hu', run_slice_lh w t a n cap hu' kl kh l h h0 h1 h2, hel, run_sizeOf hi1, Result.andThen_ok, Sem.run_pure, hsz, sliced, elA, den]
theorem CUTLV {i : Nat} {K : Act → World → Prop} (t : TypeId) (x lo : Operand) (d : Nat) (ty : TypeId) (ho : opAt ops T i = some (.slice t x (some lo) none none, some d, ty)) (hd : d < N) (a : Option Addr) (n cap : Nat) (kl : IntKind) (l : Int)
 (hx : evv T x = some (.slice a n cap)) (hl : evv T lo = some (.int kl l)) (e : TypeId) (sz : Nat) (hu : P.underlying t = some (.slice e)) (hs : (P.info? e).map (·.size) = some sz) (h0 : 0 ≤ l) (h1 : l ≤ n)
 (k : G N W S0 K ((d, .v (.slice (elA a cap l.toNat sz) (n - l.toNat) (cap - l.toNat))) :: T) L C) : OP P N W S0 ops Q i K T L C := by
 refine STEP _ _ _ ho (by rintro _ ⟨⟩; exact hd) (.v (.slice (elA a cap l.toNat sz) (n - l.toNat) (cap - l.toNat))) (by intro j off he; cases he) ?_ k
 intro ac o bs w hev hop _ _
 obtain ⟨inf, hi, hsz⟩ := Option.map_eq_some_iff.1 hs
 have hel : P.elem t = e := by unfold Program.elem; rw [hu]
 have hu' : P.underlying t = some (.slice (P.elem t)) := by rw [hel]; exact hu
 have e1 : ac.eval x = .slice a n cap := hev x _ (evo_of_evv hx)
 have e2 : ac.eval lo = .int kl l := hev lo _ (evo_of_evv hl)
 simp only [execOp, hop, e1, e2, Option.map_some, Option.map_none, Sem.run_bind, run_sliceAt_slice w t _ _ _ _ hu', run_slice_l w t a n cap hu' kl l h0 h1, hel, run_sizeOf hi, Result.andThen_ok, Sem.run_pure, hsz, sliced, elA, den]
theorem CUTHV {i : Nat} {K : Act → World → Prop} (t : TypeId) (x hi : Operand) (d : Nat) (ty : TypeId) (ho : opAt ops T i = some (.slice t x none (some hi) none, some d, ty)) (hd : d < N) (a : Option Addr) (n cap : Nat) (kh : IntKind) (h : Int)
 (hx : evv T x = some (.slice a n cap)) (hl : evv T hi = some (.int kh h)) (e : TypeId) (sz : Nat) (hu : P.underlying t = some (.slice e)) (hs : (P.info? e).map (·.size) = some sz) (h0 : 0 ≤ h) (h1 : h ≤ cap)
 (k : G N W S0 K ((d, .v (.slice a h.toNat cap)) :: T) L C) : OP P N W S0 ops Q i K T L C := by
 have hz : a.map (·.add (0 * sz)) = a := by
  cases a with
  | none => rfl
  | some ad => simp only [Option.map_some, Nat.zero_mul]; congr 1
 refine STEP _ _ _ ho (by rintro _ ⟨⟩; exact hd) (.v (.slice a h.toNat cap)) (by intro j off he; cases he) ?_ k
 intro ac o bs w hev hop _ _
 obtain ⟨inf, hi1, hsz⟩ := Option.map_eq_some_iff.1 hs
 have hel : P.elem t = e := by unfold Program.elem; rw [hu]
 have hu' : P.underlying t = some (.slice (P.elem t)) := by rw [hel]; exact hu
 have e1 : ac.eval x = .slice a n cap := hev x _ (evo_of_evv hx)
 have e2 : ac.eval hi = .int kh h := hev hi _ (evo_of_evv hl)
 simp only [execOp, hop, e1, e2, Option.map_some, Option.map_none, Sem.run_bind, run_sliceAt_slice w t _ _ _ _ hu', run_slice_h w t a n cap hu' kh h h0 h1, hel, run_sizeOf hi1, Result.andThen_ok, Sem.run_pure, hsz, sliced, hz, ite_self, Nat.sub_zero, den]
theorem flatRow {w : World} {α : Type} {sz : Nat} {enc : α → List Value} {hh : ∀ x, (enc x).length = sz ∧ ∀ u ∈ enc x, isCell u = true} {e : TypeId} {a : Option Addr} {n c : Nat} {xs : List α} {fp : List Nat} (h : SlO e (flat sz enc hh) w (.slice a n c) xs fp) (ha : a.isSome = true) :
 ∃ b ob full, a = some ⟨b, ob, none⟩ ∧ n = xs.length ∧ fp = [b] ∧ ownsR w e sz (.slice (some ⟨b, ob, none⟩) c c) c full ∧ full.take (n * sz) = xs.flatMap enc ∧ n ≤ c ∧ c ≤ maxLen := by
 obtain ⟨cells, g, hrow, hfp, hrep, hlen⟩ := h
 obtain ⟨rfl, rfl⟩ := flat_cells hrep
 rcases hrow.2 with ⟨hv, h0⟩ | ⟨b, ob, cap', cur, fz, hv, _, _, hnc, hcm, _⟩
 · injection hv with e1 _ _; subst e1; cases ha
 · injection hv with e1 e2 e3
   subst e1; subst e2; subst e3
   obtain ⟨full, hfull, hft, h1, h2⟩ := hrow.all
   exact ⟨b, ob, full, rfl, rfl, by simp [hfp, Value.ownBlock], hfull, hft, h1, h2⟩
theorem flatRow_back {w : World} {α : Type} {sz : Nat} {enc : α → List Value} {hh : ∀ x, (enc x).length = sz ∧ ∀ u ∈ enc x, isCell u = true} {e : TypeId} {b ob c : Nat} {full : List Value} (h : ownsR w e sz (.slice (some ⟨b, ob, none⟩) c c) c full) (xs : List α) (hf : full.take (xs.length * sz) = xs.flatMap enc)
 (hc : xs.length ≤ c) (hm : c ≤ maxLen) : SlO e (flat sz enc hh) w (.slice (some ⟨b, ob, none⟩) xs.length c) xs [b] := by
 have := h.part hc
 rw [hf] at this
 exact ⟨_, [], this, by simp [Value.ownBlock], cellsRep_flat _, by omega⟩
theorem mem_zeroCells {z : Array Value} {n : Nat} {u : Value} (h : u ∈ (Builtin.zeroCells z n).toList) : u ∈ z.toList := by
 simp only [Builtin.zeroCells, Array.toList_map, List.mem_map, Array.mem_toList_iff, Array.mem_range] at h
 obtain ⟨i, hi, rfl⟩ := h
 have hpos : 0 < z.size := by
  rcases Nat.eq_zero_or_pos z.size with h0 | h0
  · rw [h0, Nat.mul_zero] at hi; omega
  · exact h0
 have hlt := Nat.mod_lt i hpos
 rw [getElem!_pos z (i % z.size) hlt]
 exact Array.mem_toList_iff.2 (Array.getElem_mem hlt)
theorem CLEARX {i : Nat} {K : Act → World → Prop} (t : TypeId) (x : Operand) (dst : Option Nat) (ty : TypeId) (ho : opAt ops T i = some (.call { callee := .builtin .clear, args := #[x], argTypes := #[t] }, dst, ty)) (hd : ∀ k, dst = some k → k < N)
 {α : Type} {sz : Nat} {enc : α → List Value} {hh : ∀ x, (enc x).length = sz ∧ ∀ u ∈ enc x, isCell u = true}
 (a : Option Addr) (n c lo m c2 : Nat) (hx : evv T x = some (.slice (elA a c lo sz) m c2)) (e : TypeId) (z : Value) (hu : P.underlying t = some (.slice e)) (hi : (P.info? e).map (fun i => (i.zero, i.size)) = some (some z, sz)) (hz : z.cells.size = sz) (hzc : z.cells.toList.all isCell = true)
 (j : Nat) (xs : List α) (R : List Ass) (hp : pulls [j] C = some ([slA e (flat sz enc hh) (.slice a n c) xs], R)) (ha : a.isSome = true) (hlo : n ≤ lo) (hfit : lo + m ≤ c)
 (kk : G N W S0 K (putd dst (.v (.tuple #[])) T) L (R ++ [slA e (flat sz enc hh) (.slice a n c) xs])) : OP P N W S0 ops Q i K T L C := by
 refine STEPM (js := [j]) (ι := Unit) (val := fun _ => .tuple #[]) (own := fun _ => [slA e (flat sz enc hh) (.slice a n c) xs]) _ dst _ ho hd hp ?_ (fun _ => kk)
 intro ac o bs w fps hev hop hty hat hown hnd
 match fps, hown with
 | [fp], ⟨hso, _⟩ =>
   obtain ⟨b, ob, full, rfl, rfl, rfl, hfull, hft, hnc, hcm⟩ := flatRow hso ha
   obtain ⟨inf, hi1, hi2⟩ := Option.map_eq_some_iff.1 hi
   injection hi2 with hi2 hi3
   have e1 : ac.eval x = .slice (elA (some ⟨b, ob, none⟩) c lo sz) m c2 := hev x _ (evo_of_evv hx)
   have hfr : Fr [b] w w := ⟨rfl, rfl, rfl, Nat.le_refl _, fun _ _ _ => rfl⟩
   by_cases hm : m = 0
   · subst hm
     refine ⟨(), w, .value (.tuple #[]), [[b]], ?_, .inl rfl, ⟨hso, trivial⟩, by simp, fun c' hc _ => hc, by simpa using hfr⟩
     simp only [execOp, hop, resolve, invoke, builtin, List.map_toArray, List.map_cons, List.map_nil, e1]
     cases hq : elA (some ⟨b, ob, none⟩) c lo sz <;> simp [Builtin.clear_, run_underlying hu, Sem.run_bind, Sem.run_pure, Result.andThen]
   · have hca : elA (some ⟨b, ob, none⟩) c lo sz = some ⟨b, ob + lo * sz, none⟩ := by
      unfold elA
      rw [if_neg (by omega)]
      simp [add_lit]
     rw [hca] at e1
     have hzl : (Builtin.zeroCells z.cells m).toList.length = m * sz := by rw [Array.length_toList, size_zeroCells, hz]
     have hmul : (lo + m) * sz ≤ c * sz := Nat.mul_le_mul_right _ hfit
     have hall : (Builtin.zeroCells z.cells m).toList.all isCell = true := by
      rw [List.all_eq_true] at hzc ⊢
      intro u hu
      exact hzc u (mem_zeroCells hu)
     obtain ⟨w', hr, hrow', hg⟩ := run_storeCells_row (P := P) (Builtin.zeroCells z.cells m).toList w 0 (lo * sz) full hfull hall (by rw [hzl, hfull.1, Nat.add_zero, ← Nat.add_mul]; exact hmul)
     rw [Nat.add_zero] at hrow'
     have hback : SlO e (flat sz enc hh) w' (.slice (some ⟨b, ob, none⟩) xs.length c) xs [b] := by
      refine flatRow_back hrow' xs ?_ hnc hcm
      rw [setCells_keep _ _ _ _ (Nat.mul_le_mul_right _ hlo)]; exact hft
     refine ⟨(), w', .value (.tuple #[]), [[b]], ?_, .inl rfl, ⟨hback, trivial⟩, by simp, fun c' hc _ => hc, ?_⟩
     · simp only [execOp, hop, resolve, invoke, builtin, List.map_toArray, List.map_cons, List.map_nil, e1]
       have hzv : (zeroValue e).run P w = .ok z w := by simp [zeroValue, typeInfo, hi1, hi2]
       cases m with
       | zero => exact absurd rfl hm
       | succ m => simp [Builtin.clear_, run_underlying hu, hzv, hr, Sem.run_bind, Sem.run_pure, Result.andThen]
     · refine ⟨hg.os, hg.tape, hg.output, hg.size, fun c' hc' hne => hg.block c' hc' (fun hce => hne ?_)⟩
       injection hce with hce
       subst hce
       simp
theorem setCells_takeW : ∀ (vs cs : List Value) (off m : Nat), off + vs.length ≤ m → (setCells cs off vs).take m = setCells (cs.take m) off vs
 | [], cs, off, m, _ => rfl
 | v :: vs, cs, off, m, h => by
   simp only [List.length_cons] at h
   simp only [setCells]
   rw [setCells_takeW vs _ (off + 1) m (by omega), List.take_set]
theorem first_any {w : World} {sz m : Nat} {a2 : Option Addr} {n1 n2 c1 c2 : Nat} : (Builtin.firstCells sz m (.slice a2 n1 c1)).run P w = (Builtin.firstCells sz m (.slice a2 n2 c2)).run P w := by
 cases a2 <;> rfl
theorem fr_of {w w' : World} {b : Nat} (hg : w.grownBy w' (some b)) : Fr [b] w w' := by
 refine ⟨hg.os, hg.tape, hg.output, hg.size, fun c' hc' hne => hg.block c' hc' (fun hce => hne ?_)⟩
 injection hce with hce
 subst hce
 simp
theorem run_copy_of {w w' : World} {t e ty : TypeId} {sz : Nat} {inf : TypeInfo} (hu : P.underlying t = some (.slice e)) (hi : P.info? e = some inf) (hsz : inf.size = sz) {ad : Addr} {dl dc sl sc : Nat} {a2 : Option Addr} {news : List Value} (hc : (Builtin.firstCells sz (min sl dl) (.slice a2 sl sc)).run P w = .ok news.toArray w)
 (hst : (storeCells ad news).run P w = .ok () w') : (Builtin.copy_ #[t, t] ty #[.slice (some ad) dl dc, .slice a2 sl sc]).run P w = .ok (goInt ((min sl dl : Nat) : Int)) w' := by
 subst hsz
 have hc' : (Builtin.firstCells inf.size (Nat.min sl dl) (.slice a2 sl sc)).run P w = .ok news.toArray w := hc
 simp [Builtin.copy_, run_underlying hu, Builtin.lenOf, sizeOf, typeInfo, hi, hc', hst, Sem.run_bind, Sem.run_pure, Result.andThen]
theorem COPYP {i : Nat} {K : Act → World → Prop} (t : TypeId) (x y : Operand) (dst : Option Nat) (ty : TypeId) (ho : opAt ops T i = some (.call { callee := .builtin .copy, args := #[x, y], argTypes := #[t, t] }, dst, ty)) (hd : ∀ k, dst = some k → k < N)
 {α : Type} {sz : Nat} {enc : α → List Value} {hh : ∀ x, (enc x).length = sz ∧ ∀ u ∈ enc x, isCell u = true}
 (a : Option Addr) (n c l dl dc : Nat) (hx : evv T x = some (.slice (elA a c l sz) dl dc)) (a2 : Option Addr) (n2 c2 : Nat) (hy : evv T y = some (.slice a2 n2 c2)) (e : TypeId) (hu : P.underlying t = some (.slice e)) (hi : (P.info? e).map (·.size) = some sz)
 (j : Nat) (zs ys : List α) (R : List Ass) (hp : pulls [j] C = some ([slA e (flat sz enc hh) (.slice a n c) zs], R)) (hcnt : min n2 dl = ys.length) (hrd : ∀ w, At W S0 C w → Rd (flat sz enc hh) w a2 ys) (ha : a.isSome = true) (hfit : l + ys.length ≤ zs.length)
 (kk : G N W S0 K (putd dst (.v (goInt ys.length)) T) L (R ++ [slA e (flat sz enc hh) (.slice a n c) (zs.take l ++ ys ++ zs.drop (l + ys.length))])) : OP P N W S0 ops Q i K T L C := by
 refine STEPM (js := [j]) (ι := Unit) (val := fun _ => goInt ys.length) (own := fun _ => [slA e (flat sz enc hh) (.slice a n c) (zs.take l ++ ys ++ zs.drop (l + ys.length))]) _ dst _ ho hd hp ?_ (fun _ => kk)
 intro ac o bs w fps hev hop hty hat hown hnd
 match fps, hown with
 | [fp], ⟨hso, _⟩ =>
   obtain ⟨b, ob, full, rfl, rfl, rfl, hfull, hft, hnc, hcm⟩ := flatRow hso ha
   obtain ⟨inf, hi1, hi2⟩ := Option.map_eq_some_iff.1 hi
   have hhl : ∀ x, (enc x).length = sz := fun x => (hh x).1
   have e1 : ac.eval x = .slice (elA (some ⟨b, ob, none⟩) c l sz) dl dc := hev x _ (evo_of_evv hx)
   have e2 : ac.eval y = .slice a2 n2 c2 := hev y _ (evo_of_evv hy)
   have hsrc := src_of (P := P) hu (hrd w hat) c2
   have hc : (Builtin.firstCells sz (min n2 dl) (.slice a2 n2 c2)).run P w = .ok (ys.flatMap enc).toArray w := by rw [hcnt, first_any (n2 := ys.length) (c2 := c2)]; exact hsrc.cells
   have hmem : (ys.flatMap enc).all isCell = true := by rw [List.all_eq_true]; exact fun u hu => (cellsRep_flat (h := hh) (m := true) (w := w) ys).one u hu
   have hyl := flatMap_len hhl ys
   have hnew : (zs.take l ++ ys ++ zs.drop (l + ys.length)).length = zs.length := by simp only [List.length_append, List.length_take, List.length_drop]; omega
   have hmul : (l + ys.length) * sz ≤ zs.length * sz := Nat.mul_le_mul_right _ hfit
   have hmul2 : zs.length * sz ≤ c * sz := Nat.mul_le_mul_right _ hnc
   rw [Nat.add_mul] at hmul
   obtain ⟨w', hr, hrow', hg⟩ := run_storeCells_row (P := P) (ys.flatMap enc) w 0 (l * sz) full hfull hmem (by rw [hyl, hfull.1]; omega)
   rw [Nat.add_zero] at hrow'
   have hback : SlO e (flat sz enc hh) w' (.slice (some ⟨b, ob, none⟩) zs.length c) (zs.take l ++ ys ++ zs.drop (l + ys.length)) [b] := by
    have := flatRow_back (hh := hh) hrow' (zs.take l ++ ys ++ zs.drop (l + ys.length)) (by
     rw [hnew, setCells_takeW _ _ _ _ (by rw [hyl]; omega), hft, setCells_mid _ _ _ (by rw [hyl, flatMap_len hhl]; omega), flatMap_take hhl, hyl, ← Nat.add_mul, flatMap_drop hhl, List.flatMap_append, List.flatMap_append]) (by rw [hnew]; exact hnc) hcm
    rw [hnew] at this; exact this
   have hst : (storeCells ⟨b, ob + l * sz, none⟩ (ys.flatMap enc)).run P w = .ok () w' := hr
   have hrun : ∃ w'', (Builtin.copy_ #[t, t] o.type #[.slice (elA (some ⟨b, ob, none⟩) c l sz) dl dc, .slice a2 n2 c2]).run P w = .ok (goInt ys.length) w'' ∧ SlO e (flat sz enc hh) w'' (.slice (some ⟨b, ob, none⟩) zs.length c) (zs.take l ++ ys ++ zs.drop (l + ys.length)) [b] ∧ Fr [b] w w'' := by
    by_cases hcl : c = l
    · have h0 : ys = [] := List.eq_nil_of_length_eq_zero (by omega)
      subst h0
      have hea : elA (some ⟨b, ob, none⟩) c l sz = some ⟨b, ob, none⟩ := by unfold elA; rw [if_pos hcl]
      rw [hea]
      refine ⟨w, ?_, ?_, ⟨rfl, rfl, rfl, Nat.le_refl _, fun _ _ _ => rfl⟩⟩
      · have := run_copy_of (w' := w) (ty := o.type) (ad := ⟨b, ob, none⟩) (dc := dc) hu hi1 hi2 hc (by simp [storeCells, Sem.run_pure])
        rw [hcnt] at this; exact this
      · have h9 : zs.take l ++ [] ++ zs.drop (l + ([] : List α).length) = zs := by simp
        rw [h9]; exact hso
    · have hea : elA (some ⟨b, ob, none⟩) c l sz = some ⟨b, ob + l * sz, none⟩ := by
       unfold elA
       rw [if_neg hcl]
       simp [add_lit]
      rw [hea]
      refine ⟨w', ?_, hback, fr_of hg⟩
      have := run_copy_of (w' := w') (ty := o.type) (ad := ⟨b, ob + l * sz, none⟩) (dc := dc) hu hi1 hi2 hc hst
      rw [hcnt] at this; exact this
   obtain ⟨w'', hr'', hb'', hf''⟩ := hrun
   refine ⟨(), w'', _, [[b]], ?_, .inl rfl, ⟨hb'', trivial⟩, by simp, fun c' hc _ => hc, by simpa using hf''⟩
   simp [execOp, hop, resolve, invoke, builtin, e1, e2, hr'', Result.andThen]
theorem SHIFTP {i : Nat} {K : Act → World → Prop} (t : TypeId) (x y : Operand) (dst : Option Nat) (ty : TypeId) (ho : opAt ops T i = some (.call { callee := .builtin .copy, args := #[x, y], argTypes := #[t, t] }, dst, ty)) (hd : ∀ k, dst = some k → k < N)
 {α : Type} {sz : Nat} {enc : α → List Value} {hh : ∀ x, (enc x).length = sz ∧ ∀ u ∈ enc x, isCell u = true}
 (a : Option Addr) (n c l dl dc : Nat) (hx : evv T x = some (.slice (elA a c (l + 1) sz) dl dc)) (n2 c2 : Nat) (hy : evv T y = some (.slice (elA a c l sz) n2 c2)) (e : TypeId) (hu : P.underlying t = some (.slice e)) (hi : (P.info? e).map (·.size) = some sz)
 (j : Nat) (zs : List α) (R : List Ass) (hp : pulls [j] C = some ([slA e (flat sz enc hh) (.slice a n c) zs], R)) (hl : l < zs.length) (hcnt : min n2 dl = zs.length - l) (ha : a.isSome = true) (hfit : zs.length + 1 ≤ c)
 (kk : G N W S0 K (putd dst (.v (goInt (zs.length - l : Nat))) T) L (R ++ [slA e (flat sz enc hh) (.slice a (n + 1) c) (zs.take (l + 1) ++ zs.drop l)])) : OP P N W S0 ops Q i K T L C := by
 refine STEPM (js := [j]) (ι := Unit) (val := fun _ => goInt (zs.length - l : Nat)) (own := fun _ => [slA e (flat sz enc hh) (.slice a (n + 1) c) (zs.take (l + 1) ++ zs.drop l)]) _ dst _ ho hd hp ?_ (fun _ => kk)
 intro ac o bs w fps hev hop hty hat hown hnd
 match fps, hown with
 | [fp], ⟨hso, _⟩ =>
   obtain ⟨b, ob, full, rfl, rfl, rfl, hfull, hft, hnc, hcm⟩ := flatRow hso ha
   obtain ⟨inf, hi1, hi2⟩ := Option.map_eq_some_iff.1 hi
   have hhl : ∀ x, (enc x).length = sz := fun x => (hh x).1
   have e1 : ac.eval x = .slice (elA (some ⟨b, ob, none⟩) c (l + 1) sz) dl dc := hev x _ (evo_of_evv hx)
   have e2 : ac.eval y = .slice (elA (some ⟨b, ob, none⟩) c l sz) n2 c2 := hev y _ (evo_of_evv hy)
   have hrd : Rd (flat sz enc hh) w (elA (some ⟨b, ob, none⟩) c l sz) (zs.drop l) := (Rd.own ⟨_, hso⟩).drop hnc l (by omega)
   have hsrc := src_of (P := P) hu hrd c2
   have hdl : (zs.drop l).length = zs.length - l := List.length_drop
   have hc : (Builtin.firstCells sz (min n2 dl) (.slice (elA (some ⟨b, ob, none⟩) c l sz) n2 c2)).run P w = .ok ((zs.drop l).flatMap enc).toArray w := by rw [hcnt, ← hdl, first_any (n2 := (zs.drop l).length) (c2 := c2)]; exact hsrc.cells
   have hmem : ((zs.drop l).flatMap enc).all isCell = true := by rw [List.all_eq_true]; exact fun u hu => (cellsRep_flat (h := hh) (m := true) (w := w) (zs.drop l)).one u hu
   have hyl := flatMap_len hhl (zs.drop l)
   rw [hdl] at hyl
   have hnew : (zs.take (l + 1) ++ zs.drop l).length = zs.length + 1 := by simp only [List.length_append, List.length_take, List.length_drop]; omega
   have hend : (l + 1) * sz + (zs.length - l) * sz = (zs.length + 1) * sz := by rw [← Nat.add_mul]; congr 1; omega
   have hmul2 : (zs.length + 1) * sz ≤ c * sz := Nat.mul_le_mul_right _ hfit
   obtain ⟨w', hr, hrow', hg⟩ := run_storeCells_row (P := P) ((zs.drop l).flatMap enc) w 0 ((l + 1) * sz) full hfull hmem (by rw [hyl, hfull.1]; omega)
   rw [Nat.add_zero] at hrow'
   have hback : SlO e (flat sz enc hh) w' (.slice (some ⟨b, ob, none⟩) (zs.length + 1) c) (zs.take (l + 1) ++ zs.drop l) [b] := by
    have := flatRow_back (hh := hh) hrow' (zs.take (l + 1) ++ zs.drop l) (by
     have h1 := setCells_take ((zs.drop l).flatMap enc) full ((l + 1) * sz) (by rw [hyl, hfull.1]; omega)
     rw [hyl, hend] at h1
     have h2 : full.take ((l + 1) * sz) = (zs.take (l + 1)).flatMap enc := by
      rw [← flatMap_take hhl, ← hft, List.take_take]
      congr 1
      have : (l + 1) * sz ≤ zs.length * sz := Nat.mul_le_mul_right _ (by omega)
      omega
     rw [hnew, h1, h2, List.flatMap_append]) (by rw [hnew]; exact hfit) hcm
    rw [hnew] at this; exact this
   have hea : elA (some ⟨b, ob, none⟩) c (l + 1) sz = some ⟨b, ob + (l + 1) * sz, none⟩ := by
    unfold elA
    rw [if_neg (by omega)]
    simp [add_lit]
   rw [hea] at e1
   have hrun := run_copy_of (w' := w') (ty := o.type) (ad := ⟨b, ob + (l + 1) * sz, none⟩) (dc := dc) hu hi1 hi2 hc hr
   rw [hcnt] at hrun
   refine ⟨(), w', _, [[b]], ?_, .inl rfl, ⟨hback, trivial⟩, by simp, fun c' hc _ => hc, by simpa using fr_of hg⟩
   simp [execOp, hop, resolve, invoke, builtin, e1, e2, hrun, Result.andThen]
end rules
end SX
end Go.Proofs.YtejojcoaohlfbaaGreat
