/- Texts of this claim, put together by program. -/
import Derived.Test.YtejojcoaohlfbaaGreatSu5
import Derived.Test.YtejojcoaohlfbaaGreatSxk
import Derived.Test.YtejojcoaohlfbaaGreatSu1
/- Regions whose order is open and that write memory: what is steady first, then every order of the rest. It imports no program. -/
namespace Go.Proofs.YtejojcoaohlfbaaGreat
namespace SX
set_option linter.unusedVariables false
set_option linter.unusedSimpArgs false
open Go Go.RowKit
def depsB : List Edge → List Nat → Bool
  | [], _ => true
  | e :: es, Ls => match e.ground with
    | .textOnly _ => depsB es Ls
    | .gcOnly _ => depsB es Ls
    | _ => match memN Ls e.on with
      | true => depsB es Ls
      | false => false
/-- what stands next in an open region -/
inductive Hx where
  | run (is : List Nat) (Ls : List Nat) (T : Tm)
  | ask (d : Nat)
  | op (i : Nat) (o : Op) (d : Option Nat) (ty : TypeId)
  | loud (rs : List Nat)
def stillB : Op → Bool
  | .store _ _ _ | .box _ _ | .alloc _ | .load _ _ => false
  | _ => true
def hPass (D : OTab) (ops : List Oper) (Kn : List (Nat × Nat)) : List Oper → Nat → List Nat → List Nat → Tm → (List Nat → List Nat → Tm → Option Hx) → Option Hx
  | [], _, is, Ls, T, k => k is Ls T
  | o :: os, i, is, Ls, T, k => match memN Ls i, depsB o.after.toList Ls with
    | false, true => wantC ops Kn o
      (fun _ => match (match stillB o.op with
        | true => orc1 D T [] o.op (fun s L' => putK o.dst s T (fun T' => hPass D ops Kn os (i + 1) (i :: is) (i :: Ls) T' k)) (fun kd e => putK o.dst (.v (.int kd (IntKind.wrap kd e))) T (fun T' => hPass D ops Kn os (i + 1) (i :: is) (i :: Ls) T' k))
        | false => none) with
        | some x => some x
        | none => hPass D ops Kn os (i + 1) is Ls T k)
      (fun _ => putK o.dst (.v undef) T (fun T' => hPass D ops Kn os (i + 1) (i :: is) (i :: Ls) T' k))
      (fun _ => hPass D ops Kn os (i + 1) is Ls T k)
    | _, _ => hPass D ops Kn os (i + 1) is Ls T k
def hLook (T : Tm) (ops : List Oper) (Kn : List (Nat × Nat)) (Ls : List Nat) : List Oper → Nat → (List Nat → Option Hx) → Option Hx
  | [], _, k => k []
  | ⟨dst, op, ty, pos, after, guard⟩ :: os, i, k => match memN Ls i, depsB after.toList Ls with
    | false, true => wantC ops Kn ⟨dst, op, ty, pos, after, guard⟩
      (fun _ => match op with
        | .load _ x => match evo T x with
          | some (.e _ _ _) => some (.op i op dst ty)
          | _ => hLook T ops Kn Ls os (i + 1) (fun l => k (i :: l))
        | .indexAddr _ _ _ | .slice _ _ _ _ _ | .binOp _ _ _ _ _ | .index _ _ _ | .convert _ _ _ => some (.op i op dst ty)
        | _ => hLook T ops Kn Ls os (i + 1) (fun l => k (i :: l)))
      (fun _ => hLook T ops Kn Ls os (i + 1) k)
      (fun d => some (.ask d))
    | _, _ => hLook T ops Kn Ls os (i + 1) k
def revC {R : Type} : List Nat → List Nat → (List Nat → R) → R
  | [], acc, k => k acc
  | x :: r, acc, k => revC r (x :: acc) k
def hnx (D : OTab) (ops : Array Oper) (Kn : List (Nat × Nat)) (Ls : List Nat) (T : Tm) : Option Hx :=
  hPass D ops.toList Kn ops.toList 0 [] Ls T (fun is Ls' T' => match is with
    | [] => hLook T ops.toList Kn Ls ops.toList 0 (fun l => some (.loud l))
    | i :: r => revC (i :: r) [] (fun is => some (.run is Ls' T')))
/-- the boxes that a region leaves alone: L0 names their cells; those that it writes have none there -/
def emp : List Value → Bool
  | [] => true
  | _ :: _ => false
def frz : List Nat → Bx → List Ass
  | b :: bs, (t, cs) :: L => match emp cs with
    | false => ptC b t cs :: frz bs L
    | true => frz bs L
  | _, _ => []
/-- several steady ones, one behind the other -/
def hRun (P : Program) (N : Nat) (ops : Array Oper) (L : Bx) (Ks : Keys) : List Nat → Nat → Array Bool → Tm → Option (Nat × Array Bool × Tm)
  | [], f, la, T => some (f, la, T)
  | _ :: _, 0, _, _ => none
  | i :: is, f + 1, la, T => if takeB ops la Ks i = true then
      match ops[i]? with
      | some o => match wants ops T o with
        | some true => if stillOp o.op = true then (match go1 P N T L o with
          | some (T', _) => hRun P N ops L Ks is f (la.setIfInBounds i true) T'
          | none => none) else none
        | some false => match put N T o.dst (.v undef) with
          | some T' => hRun P N ops L Ks is f (la.setIfInBounds i true) T'
          | none => none
        | none => none
      | none => none
    else none
def pArgs {R : Type} (T : Tm) : List Operand → (List Nat → Option R) → Option R
  | [], k => k []
  | x :: xs, k => match evo T x with
    | some (.p i _) => pArgs T xs (fun l => k (i :: l))
    | _ => pArgs T xs k
/-- the boxes that a region stores to: (operation, box) -/
def wkB {R : Type} (D : OTab) : List Oper → Nat → Tm → (List (Nat × Nat) → Option R) → Option R
  | [], _, _, k => k []
  | o :: os, n, T, k => match o.op with
    | .store _ x _ => match evo T x with
      | some (.p i _) => wkB D os (n + 1) T (fun l => k ((n, i) :: l))
      | _ => wkB D os (n + 1) T k
    | .fieldAddr _ _ _ | .move _ | .nilCheck _ | .assign _ => match orc1 D T [] o.op (fun s _ => putK o.dst s T (fun T' => wkB D os (n + 1) T' k)) (fun _ _ => none) with
      | some x => some x
      | none => wkB D os (n + 1) T k
    | .call c => pArgs T c.args.toList (fun l => match l with
      | [] => wkB D os (n + 1) T k
      | i :: _ => wkB D os (n + 1) T (fun l => k ((n, i) :: (n, i) :: l)))
    | _ => wkB D os (n + 1) T k
def wcnt (i : Nat) : List (Nat × Nat) → Nat
  | [] => 0
  | (_, j) :: r => match Nat.beq i j with
    | true => wcnt i r + 1
    | false => wcnt i r
def isOne : Nat → Bool
  | 1 => true
  | _ => false
def isNil : Nat → Bool
  | 0 => true
  | _ => false
/-- the boxes without a writer, the written ones blank -/
def bkC {R : Type} (ws : List (Nat × Nat)) : Nat → Bx → (Bx → Option R) → Option R
  | _, [], k => k []
  | i, (t, cs) :: L, k => match isNil (wcnt i ws) with
    | false => bkC ws (i + 1) L (fun l => k ((t, []) :: l))
    | true => bkC ws (i + 1) L (fun l => k ((t, cs) :: l))
/-- the keys: a box that has one writer stands until that one has come up -/
def kyC {R : Type} (bs : List Nat) (L : Bx) (ws0 : List (Nat × Nat)) : List (Nat × Nat) → (Keys → Option R) → Option R
  | [], k => k []
  | (n, i) :: ws, k => match isOne (wcnt i ws0), nth bs i, nth L i with
    | true, some b, some (t, cs) => kyC bs L ws0 ws (fun l => k ((n, ptC b t cs) :: l))
    | _, _, _ => kyC bs L ws0 ws k
/-- the order in which the boxes are laid out: without a writer; keys; the rest -/
def seA {R : Type} (ws : List (Nat × Nat)) : Nat → Nat → (List Nat → Option R) → Option R
  | 0, _, k => k []
  | n + 1, i, k => match isNil (wcnt i ws) with
    | true => seA ws n (i + 1) (fun l => k (i :: l))
    | false => seA ws n (i + 1) k
def seB {R : Type} (ws0 : List (Nat × Nat)) : List (Nat × Nat) → (List Nat → Option R) → Option R
  | [], k => k []
  | (_, i) :: ws, k => match isOne (wcnt i ws0) with
    | true => seB ws0 ws (fun l => k (i :: l))
    | false => seB ws0 ws k
def seD {R : Type} (ws : List (Nat × Nat)) : Nat → Nat → (List Nat → Option R) → Option R
  | 0, _, k => k []
  | n + 1, i, k => match isNil (wcnt i ws), isOne (wcnt i ws) with
    | false, false => seD ws n (i + 1) (fun l => k (i :: l))
    | _, _ => seD ws n (i + 1) k
def cpN {R : Type} : List Nat → (List Nat → Option R) → Option R
  | [], k => k []
  | x :: r, k => cpN r (fun l => k (x :: l))
def apC {R : Type} : List Nat → List Nat → (List Nat → Option R) → Option R
  | [], l, k => cpN l k
  | x :: xs, l, k => apC xs l (fun l => k (x :: l))
def seC {R : Type} (ws : List (Nat × Nat)) (n : Nat) (k : List Nat → Option R) : Option R :=
  seA ws n 0 (fun a => seB ws ws (fun b => seD ws n 0 (fun d => apC b d (fun bd => apC a bd k))))
def pickA (bs : List Nat) (L : Bx) (i : Nat) : List Ass :=
  match nth bs i, nth L i with
  | some b, some (t, cs) => [ptC b t cs]
  | _, _ => []
def selC (C : List Ass) (bs : List Nat) (L : Bx) : List Nat → (List Ass → Option (List Ass)) → Option (List Ass)
  | [], k => k C
  | i :: r, k => match nth bs i, nth L i with
    | some b, some (t, cs) => selC C bs L r (fun l => k (ptC b t cs :: l))
    | _, _ => selC C bs L r k
theorem selC_eq (C : List Ass) (bs : List Nat) (L : Bx) : ∀ (sel : List Nat) (k : List Ass → Option (List Ass)), selC C bs L sel k = k (sel.flatMap (pickA bs L) ++ C)
  | [], k => rfl
  | i :: r, k => by
    simp only [selC, List.flatMap_cons, pickA]
    cases h1 : nth bs i <;> cases h2 : nth L i <;> simp [selC_eq C bs L r]
theorem expC_pick : ∀ (bs : List Nat) (L : Bx), bs.length = L.length → expC bs L = (List.range L.length).flatMap (pickA bs L)
  | [], [], _ => rfl
  | b :: bs, (t, cs) :: L, h => by
    have ih := expC_pick bs L (by simpa using h)
    rw [List.length_cons, List.range_succ_eq_map, List.flatMap_cons, List.flatMap_map]
    simp only [expC, pickA, nth, List.singleton_append]
    rw [ih]
    rfl
theorem nk0 {A : Nat × Ass} {C : Keys} : (A :: C)[0]? = some A := rfl
theorem nkS {A B : Nat × Ass} {C : Keys} {j : Nat} (h : C[j]? = some A) : (B :: C)[j + 1]? = some A := h
theorem NTK {C : Keys} {A : Nat × Ass} {j : Nat} (h : C[j]? = some A := by first | exact nk0 | (apply nkS; first | exact nk0 | (apply nkS; first | exact nk0 | (apply nkS; first | exact nk0 | (apply nkS; first | exact nk0 | (apply nkS; exact nk0)))))) : C[j]? = some A := h
section rules
variable {X : List Nat} {P : Program} {N : Nat} {W : World} {S0 : List Nat} {Q : Exit → Go.Act → World → Prop} {T : Tm} {L : Bx} {C C0 : List Ass} {ops : Array Oper} {Kn : List (Nat × Nat)} {i : Nat}
theorem hRun_ok {Ks : Keys} : ∀ (is : List Nat) {f f' : Nat} {la la' : Array Bool} {T T' : Tm}, hRun P N ops L Ks is f la T = some (f', la', T') → (∃ js, (pulls js C).map (·.1) = some (C0 ++ act la Ks)) → HD P N W S0 ops Q C0 Ks f' la' T' L C → HD P N W S0 ops Q C0 Ks f la T L C
  | [], f, f', la, la', T, T', h, hC, k => by
    simp only [hRun, Option.some.injEq, Prod.mk.injEq] at h
    obtain ⟨rfl, rfl, rfl⟩ := h
    exact k
  | _ :: _, 0, _, _, _, _, _, h, _, _ => by simp [hRun] at h
  | i :: is, f + 1, f', la, la', T, T', h, hC, k => by
    simp only [hRun] at h
    split at h
    · rename_i hk
      have hC2 : ∃ js, (pulls js C).map (·.1) = some (C0 ++ act (la.setIfInBounds i true) Ks) := by
        simp only [takeB, Bool.and_eq_true] at hk
        rw [act_set fun p hp he => by
          have := List.all_eq_true.1 hk.2 p hp
          simp [he] at this]
        exact hC
      obtain ⟨js, hC⟩ := hC
      split at h
      · rename_i o hi
        split at h
        · rename_i hw
          split at h
          · rename_i hq
            split at h
            · rename_i T1 L1 h1
              exact HDPURE hi hw hq h1 hk hC (hRun_ok is h hC2 k)
            · cases h
          · cases h
        · rename_i hw
          split at h
          · rename_i T1 hput
            refine HDSKIP (i := i) T1 ?_ hk hC (hRun_ok is h hC2 k)
            simp [hi, hw, hput]
          · cases h
        · cases h
      · cases h
    · cases h
/-- in an open region: bs, L0: the boxes, laid open; T0: the slots ahead of it; Ls, la: what is done -/
def HL (X : List Nat) (P : Program) (N : Nat) (W : World) (S0 : List Nat) (ops : Array Oper) (Q : Exit → Go.Act → World → Prop) (bs : List Nat) (L0 : Bx) (Ks : Keys) (T0 : Tm) (f : Nat) (Ls : List Nat) (la : Array Bool) (Kn : List (Nat × Nat)) (T : Tm) (L : Bx) (C : List Ass) : Prop :=
  HD P N W S0 ops Q (frz bs L0) Ks f la T L C
def HT (x : Hx) (X : List Nat) (P : Program) (N : Nat) (W : World) (S0 : List Nat) (ops : Array Oper) (Q : Exit → Go.Act → World → Prop) (bs : List Nat) (L0 : Bx) (Ks : Keys) (T0 : Tm) (f : Nat) (Ls : List Nat) (la : Array Bool) (Kn : List (Nat × Nat)) (T : Tm) (L : Bx) (C : List Ass) : Prop :=
  HL X P N W S0 ops Q bs L0 Ks T0 f Ls la Kn T L C
/-- one loud operation, the i-th -/
def HO (x : Nx) (i : Nat) (X : List Nat) (P : Program) (N : Nat) (W : World) (S0 : List Nat) (ops : Array Oper) (Q : Exit → Go.Act → World → Prop) (bs : List Nat) (L0 : Bx) (Ks : Keys) (T0 : Tm) (f : Nat) (Ls : List Nat) (la : Array Bool) (Kn : List (Nat × Nat)) (T : Tm) (L : Bx) (C : List Ass) : Prop :=
  OP P N W S0 ops (nQ Q) i (HND P W S0 ops Q (frz bs L0) Ks f (la.setIfInBounds i true)) T L C
variable {bs : List Nat} {L0 : Bx} {Ks : Keys} {T0 : Tm} {f : Nat} {Ls : List Nat} {la : Array Bool}
def expTC {R : Type} (bs : List Nat) : Tm → (Tm → Option R) → Option R
  | [], k => k []
  | (d, s) :: T, k => match s with
    | .p i off => match nth bs i with
      | some b => expTC bs T (fun l => k ((d, .e (some ⟨b, 0, none⟩) 0 off) :: l))
      | none => none
    | s => expTC bs T (fun l => k ((d, s) :: l))
theorem zer {R : List Ass} (hC : C = C0 ++ R) : (pulls (zeros C0) C).map (·.1) = some C0 := by rw [hC, pulls_zeros]; rfl
theorem gRH0 {id n : Nat} (k : HL X P N W S0 ops Q [] [] [] T n [] (Array.replicate n false) [] T [] C) (hn : ops.size = n := by rfl) (hm : P.follows .mixedOrders = true := by kernel_rfl) : CD X P N W S0 (.region id ops true) Q T [] C := REGIONH hm n hn [] (H_of_HD k)
def permB (sel : List Nat) (n : Nat) : Bool := sel.isPerm (List.range n)
theorem gRHw {id n : Nat} {sel : List Nat} {L : Bx} (k : ∀ bs : List Nat, bs.length = L.length → ∃ CC T1 L0 Ks, selC C bs L sel some = some CC ∧ expT bs T = T1 ∧ HL X P N W S0 ops Q bs L0 Ks T n [] (Array.replicate n false) [] T1 [] CC) (hp : permB sel L.length = true) (hn : ops.size = n) (hm : P.follows .mixedOrders = true) : CD X P N W S0 (.region id ops true) Q T L C := by
  intro a w h
  subst hn
  refine wp_region_any hm (wpAny_nQ _ _ _ _ ?_)
  refine EXPORT (K := fun a w => wpAny P .any ops (nQ Q) ops.size (Array.replicate ops.size false) a w) (fun bs hb => ?_) a _ h.drew_
  intro a w h
  obtain ⟨CC, T1, L0, Ks, h1, h2, h3⟩ := k bs hb
  rw [selC_eq, Option.some.injEq] at h1
  subst h1 h2
  have hperm : (expC bs L).Perm (sel.flatMap (pickA bs L)) := by
    rw [expC_pick bs L hb]
    exact (List.isPerm_iff.1 hp).symm.flatMap_right _
  have h4 := h.turn (T1 := expT bs T) (L1 := []) (C1 := sel.flatMap (pickA bs L) ++ C) (fun _ => rfl) (fun h => h) rfl (hperm.append_right C)
  exact wpAny_of_D _ _ _ _ (h3 a w h4)
theorem gRH1 [TB P] {id n : Nat} {x1 : TypeId × List Value} {ws : List (Nat × Nat)} {sel : List Nat} {L0 : Bx} {T1 : Nat → Tm} {Ks : Nat → Keys} {CC : Nat → List Ass} (hw : wkB (TB.D P) ops.toList 0 T some = some ws := by conv => lhs; whnf) (hL : bkC ws 0 [x1] some = some L0 := by conv => lhs; whnf) (hs : seC ws 1 some = some sel := by conv => lhs; whnf) (hT : ∀ b, expTC [b] T some = some (T1 b) := by intro b; conv => lhs; whnf)
    (hK : ∀ b, kyC [b] [x1] ws ws some = some (Ks b) := by intro b; conv => lhs; whnf) (hC : ∀ b, selC C [b] [x1] sel some = some (CC b) := by intro b; conv => lhs; whnf) (k : ∀ b, HL X P N W S0 ops Q [b] L0 (Ks b) T n [] (Array.replicate n false) [] (T1 b) [] (CC b)) (hn : ops.size = n := by rfl) (hp : permB sel 1 = true := by kernel_rfl) (hT1 : ∀ b, expT [b] T = T1 b := by intro b; kernel_rfl) (hm : P.follows .mixedOrders = true := by kernel_rfl) :
    CD X P N W S0 (.region id ops true) Q T [x1] C := gRHw (sel := sel) (fun bs hb => by
  obtain ⟨b, rfl⟩ := len1 hb
  exact ⟨_, _, _, _, hC b, hT1 b, k b⟩) hp hn hm
theorem gRH2 [TB P] {id n : Nat} {x1 x2 : TypeId × List Value} {ws : List (Nat × Nat)} {sel : List Nat} {L0 : Bx} {T1 : Nat → Nat → Tm} {Ks : Nat → Nat → Keys} {CC : Nat → Nat → List Ass} (hw : wkB (TB.D P) ops.toList 0 T some = some ws := by conv => lhs; whnf) (hL : bkC ws 0 [x1, x2] some = some L0 := by conv => lhs; whnf) (hs : seC ws 2 some = some sel := by conv => lhs; whnf) (hT : ∀ b c, expTC [b, c] T some = some (T1 b c) := by intro b c; conv => lhs; whnf)
    (hK : ∀ b c, kyC [b, c] [x1, x2] ws ws some = some (Ks b c) := by intro b c; conv => lhs; whnf) (hC : ∀ b c, selC C [b, c] [x1, x2] sel some = some (CC b c) := by intro b c; conv => lhs; whnf) (k : ∀ b c, HL X P N W S0 ops Q [b, c] L0 (Ks b c) T n [] (Array.replicate n false) [] (T1 b c) [] (CC b c)) (hn : ops.size = n := by rfl) (hp : permB sel 2 = true := by kernel_rfl) (hT1 : ∀ b c, expT [b, c] T = T1 b c := by intro b c; kernel_rfl) (hm : P.follows .mixedOrders = true := by kernel_rfl) :
    CD X P N W S0 (.region id ops true) Q T [x1, x2] C := gRHw (sel := sel) (fun bs hb => by
  obtain ⟨b, c, rfl⟩ := len2 hb
  exact ⟨_, _, _, _, hC b c, hT1 b c, k b c⟩) hp hn hm
theorem gRH3 [TB P] {id n : Nat} {x1 x2 x3 : TypeId × List Value} {ws : List (Nat × Nat)} {sel : List Nat} {L0 : Bx} {T1 : Nat → Nat → Nat → Tm} {Ks : Nat → Nat → Nat → Keys} {CC : Nat → Nat → Nat → List Ass} (hw : wkB (TB.D P) ops.toList 0 T some = some ws := by conv => lhs; whnf) (hL : bkC ws 0 [x1, x2, x3] some = some L0 := by conv => lhs; whnf) (hs : seC ws 3 some = some sel := by conv => lhs; whnf) (hT : ∀ b c d, expTC [b, c, d] T some = some (T1 b c d) := by intro b c d; conv => lhs; whnf)
    (hK : ∀ b c d, kyC [b, c, d] [x1, x2, x3] ws ws some = some (Ks b c d) := by intro b c d; conv => lhs; whnf) (hC : ∀ b c d, selC C [b, c, d] [x1, x2, x3] sel some = some (CC b c d) := by intro b c d; conv => lhs; whnf) (k : ∀ b c d, HL X P N W S0 ops Q [b, c, d] L0 (Ks b c d) T n [] (Array.replicate n false) [] (T1 b c d) [] (CC b c d)) (hn : ops.size = n := by rfl) (hp : permB sel 3 = true := by kernel_rfl) (hT1 : ∀ b c d, expT [b, c, d] T = T1 b c d := by intro b c d; kernel_rfl) (hm : P.follows .mixedOrders = true := by kernel_rfl) :
    CD X P N W S0 (.region id ops true) Q T [x1, x2, x3] C := gRHw (sel := sel) (fun bs hb => by
  obtain ⟨b, c, d, rfl⟩ := len3 hb
  exact ⟨_, _, _, _, hC b c d, hT1 b c d, k b c d⟩) hp hn hm
theorem gRH4 [TB P] {id n : Nat} {x1 x2 x3 x4 : TypeId × List Value} {ws : List (Nat × Nat)} {sel : List Nat} {L0 : Bx} {T1 : Nat → Nat → Nat → Nat → Tm} {Ks : Nat → Nat → Nat → Nat → Keys} {CC : Nat → Nat → Nat → Nat → List Ass} (hw : wkB (TB.D P) ops.toList 0 T some = some ws := by conv => lhs; whnf) (hL : bkC ws 0 [x1, x2, x3, x4] some = some L0 := by conv => lhs; whnf) (hs : seC ws 4 some = some sel := by conv => lhs; whnf) (hT : ∀ b c d e, expTC [b, c, d, e] T some = some (T1 b c d e) := by intro b c d e; conv => lhs; whnf)
    (hK : ∀ b c d e, kyC [b, c, d, e] [x1, x2, x3, x4] ws ws some = some (Ks b c d e) := by intro b c d e; conv => lhs; whnf) (hC : ∀ b c d e, selC C [b, c, d, e] [x1, x2, x3, x4] sel some = some (CC b c d e) := by intro b c d e; conv => lhs; whnf) (k : ∀ b c d e, HL X P N W S0 ops Q [b, c, d, e] L0 (Ks b c d e) T n [] (Array.replicate n false) [] (T1 b c d e) [] (CC b c d e)) (hn : ops.size = n := by rfl) (hp : permB sel 4 = true := by kernel_rfl) (hT1 : ∀ b c d e, expT [b, c, d, e] T = T1 b c d e := by intro b c d e; kernel_rfl) (hm : P.follows .mixedOrders = true := by kernel_rfl) :
    CD X P N W S0 (.region id ops true) Q T [x1, x2, x3, x4] C := gRHw (sel := sel) (fun bs hb => by
  obtain ⟨b, c, d, e, rfl⟩ := len4 hb
  exact ⟨_, _, _, _, hC b c d e, hT1 b c d e, k b c d e⟩) hp hn hm
theorem gRH5 [TB P] {id n : Nat} {x1 x2 x3 x4 x5 : TypeId × List Value} {ws : List (Nat × Nat)} {sel : List Nat} {L0 : Bx} {T1 : Nat → Nat → Nat → Nat → Nat → Tm} {Ks : Nat → Nat → Nat → Nat → Nat → Keys} {CC : Nat → Nat → Nat → Nat → Nat → List Ass} (hw : wkB (TB.D P) ops.toList 0 T some = some ws := by conv => lhs; whnf) (hL : bkC ws 0 [x1, x2, x3, x4, x5] some = some L0 := by conv => lhs; whnf) (hs : seC ws 5 some = some sel := by conv => lhs; whnf) (hT : ∀ b c d e g, expTC [b, c, d, e, g] T some = some (T1 b c d e g) := by intro b c d e g; conv => lhs; whnf)
    (hK : ∀ b c d e g, kyC [b, c, d, e, g] [x1, x2, x3, x4, x5] ws ws some = some (Ks b c d e g) := by intro b c d e g; conv => lhs; whnf) (hC : ∀ b c d e g, selC C [b, c, d, e, g] [x1, x2, x3, x4, x5] sel some = some (CC b c d e g) := by intro b c d e g; conv => lhs; whnf) (k : ∀ b c d e g, HL X P N W S0 ops Q [b, c, d, e, g] L0 (Ks b c d e g) T n [] (Array.replicate n false) [] (T1 b c d e g) [] (CC b c d e g)) (hn : ops.size = n := by rfl) (hp : permB sel 5 = true := by kernel_rfl) (hT1 : ∀ b c d e g, expT [b, c, d, e, g] T = T1 b c d e g := by intro b c d e g; kernel_rfl) (hm : P.follows .mixedOrders = true := by kernel_rfl) :
    CD X P N W S0 (.region id ops true) Q T [x1, x2, x3, x4, x5] C := gRHw (sel := sel) (fun bs hb => by
  obtain ⟨b, c, d, e, g, rfl⟩ := len5 hb
  exact ⟨_, _, _, _, hC b c d e g, hT1 b c d e g, k b c d e g⟩) hp hn hm
theorem gRH6 [TB P] {id n : Nat} {x1 x2 x3 x4 x5 x6 : TypeId × List Value} {ws : List (Nat × Nat)} {sel : List Nat} {L0 : Bx} {T1 : Nat → Nat → Nat → Nat → Nat → Nat → Tm} {Ks : Nat → Nat → Nat → Nat → Nat → Nat → Keys} {CC : Nat → Nat → Nat → Nat → Nat → Nat → List Ass} (hw : wkB (TB.D P) ops.toList 0 T some = some ws := by conv => lhs; whnf) (hL : bkC ws 0 [x1, x2, x3, x4, x5, x6] some = some L0 := by conv => lhs; whnf) (hs : seC ws 6 some = some sel := by conv => lhs; whnf) (hT : ∀ b c d e g h, expTC [b, c, d, e, g, h] T some = some (T1 b c d e g h) := by intro b c d e g h; conv => lhs; whnf)
    (hK : ∀ b c d e g h, kyC [b, c, d, e, g, h] [x1, x2, x3, x4, x5, x6] ws ws some = some (Ks b c d e g h) := by intro b c d e g h; conv => lhs; whnf) (hC : ∀ b c d e g h, selC C [b, c, d, e, g, h] [x1, x2, x3, x4, x5, x6] sel some = some (CC b c d e g h) := by intro b c d e g h; conv => lhs; whnf) (k : ∀ b c d e g h, HL X P N W S0 ops Q [b, c, d, e, g, h] L0 (Ks b c d e g h) T n [] (Array.replicate n false) [] (T1 b c d e g h) [] (CC b c d e g h)) (hn : ops.size = n := by rfl) (hp : permB sel 6 = true := by kernel_rfl) (hT1 : ∀ b c d e g h, expT [b, c, d, e, g, h] T = T1 b c d e g h := by intro b c d e g h; kernel_rfl) (hm : P.follows .mixedOrders = true := by kernel_rfl) :
    CD X P N W S0 (.region id ops true) Q T [x1, x2, x3, x4, x5, x6] C := gRHw (sel := sel) (fun bs hb => by
  obtain ⟨b, c, d, e, g, h, rfl⟩ := len6 hb
  exact ⟨_, _, _, _, hC b c d e g h, hT1 b c d e g h, k b c d e g h⟩) hp hn hm
theorem hNXT [TB P] {x : Hx} (h : hnx (TB.D P) ops Kn Ls T = some x := by conv => lhs; whnf) (k : HT x X P N W S0 ops Q bs L0 Ks T0 f Ls la Kn T L C) : HL X P N W S0 ops Q bs L0 Ks T0 f Ls la Kn T L C := k
theorem hRUN {is Ls' : List Nat} {T' : Tm} {f' : Nat}  (k : HL X P N W S0 ops Q bs L0 Ks T0 f' Ls' (is.foldl (fun la i => la.setIfInBounds i true) la) Kn T' L C) (hf : f = f' + is.length := by rfl) (hC : KP (frz bs L0) Ks Ls la C := by exact KP.mk) (h : hRun P N ops L Ks is f la T = some (f', is.foldl (fun la i => la.setIfInBounds i true) la, T') := by kernel_rfl) : HT (.run is Ls' T') X P N W S0 ops Q bs L0 Ks T0 f Ls la Kn T L C :=
  hRun_ok is h hC.pulls k
theorem hASK {d : Nat} {b : Bool} (k : CND b (HL X P N W S0 ops Q bs L0 Ks T0 f Ls la ((d, 1) :: Kn) ((d, .v (.bool true)) :: T) L C) (HL X P N W S0 ops Q bs L0 Ks T0 f Ls la ((d, 0) :: Kn) ((d, .v (.bool false)) :: T) L C))
    (h : lk T d = some (.v (.bool b)) := by conv => lhs; whnf) : HT (.ask d) X P N W S0 ops Q bs L0 Ks T0 f Ls la Kn T L C := SPLIT b h k.1 k.2
theorem hASKU {d : Nat} (k : HL X P N W S0 ops Q bs L0 Ks T0 f Ls la ((d, 2) :: Kn) T L C) (h : lk T d = some (.v undef) := by conv => lhs; whnf) : HT (.ask d) X P N W S0 ops Q bs L0 Ks T0 f Ls la Kn T L C := k
theorem hIX {t : TypeId} {x ix : Operand} {d : Nat} {ty : TypeId} {a : Option Addr} {n cap : Nat} {kd : IntKind} {z e sz : Nat}  [TB P]
    (hix : evv T ix = some (.int kd (z : Int)) := by conv => lhs; whnf) (hx : evv T x = some (.slice a n cap) := by conv => lhs; whnf) (ho : lkn (TB.D P).row t = some (e, sz) := by conv => lhs; whnf) (ha : a.isSome = true) (hn : z < n)
    (k : HL X P N W S0 ops Q bs L0 Ks T0 f (i :: Ls) (la.setIfInBounds i true) Kn ((d, .e a (z * sz) 0) :: T) L C) (hC : KP (frz bs L0) Ks Ls la C := by exact KP.mk)
    (hk : takeB ops la Ks i = true := by kernel_rfl) (hoa : opAt ops T i = some (.indexAddr t x ix, some d, ty) := by kernel_rfl) (hd : d < N := by exact NL rfl) (hu : P.underlying t = some (.slice e) := by kernel_rfl) (hsz : (P.info? e).map (·.size) = some sz := by kernel_rfl) :
    HT (.op i (.indexAddr t x ix) (some d) ty) X P N W S0 ops Q bs L0 Ks T0 (f + 1) Ls la Kn T L C := hC.pulls.elim fun _ h9 => HDINDEX t x ix d ty hoa hd a n cap kd z e sz hx hix hu hsz ha (by omega) (by omega) hk h9 k
theorem hLF {t : TypeId} {x : Operand} {d : Nat} {ty : TypeId} {a : Option Addr} {j sz off : Nat} {α : Type} {enc : α → List Value} {hh : ∀ x, (enc x).length = sz ∧ ∀ u ∈ enc x, isCell u = true} {xs : List α} {v : Value}  [TB P]
    (hx : evo T x = some (.e a (j * sz) off) := by conv => lhs; whnf) (hr : Rd (flat sz enc hh) W a xs) (hj : j < xs.length) (hv : ldB (TB.D P) t (enc xs[j]) off some = some v := by conv => lhs; whnf)
    (k : HL X P N W [] ops Q bs L0 Ks T0 f (i :: Ls) (la.setIfInBounds i true) Kn ((d, .v v) :: T) L C) (hC : KP (frz bs L0) Ks Ls la C := by exact KP.mk)
    (hk : takeB ops la Ks i = true := by kernel_rfl) (ho : opAt ops T i = some (.load t x, some d, ty) := by kernel_rfl) (hd : d < N := by exact NL rfl) (hl : loadOf P t (enc xs[j]) off = some v := by kernel_rfl) :
    HT (.op i (.load t x) (some d) ty) X P N W [] ops Q bs L0 Ks T0 (f + 1) Ls la Kn T L C := hC.pulls.elim fun _ h9 => HDLOADE t x d ty ho hd a (j * sz) off (enc xs[j]) v hx (fun w hw => Rd.flat (Rd.fr hr hw.fr) (List.getElem?_eq_getElem hj)) hl hk h9 k
theorem hLB {t : TypeId} {x : Operand} {d b bt : Nat} {ty : TypeId} {j off : Nat} {cs : List Value} {v : Value}  [TB P]
    (hx : evo T x = some (.e (some ⟨b, 0, none⟩) 0 off) := by conv => lhs; whnf) (hB : (frz bs L0)[j]? = some (ptC b bt cs) := by exact NT) (hv : ldB (TB.D P) t cs off some = some v := by conv => lhs; whnf)
    (k : HL X P N W S0 ops Q bs L0 Ks T0 f (i :: Ls) (la.setIfInBounds i true) Kn ((d, .v v) :: T) L C) (hC : KP (frz bs L0) Ks Ls la C := by exact KP.mk)
    (hk : takeB ops la Ks i = true := by kernel_rfl) (ho : opAt ops T i = some (.load t x, some d, ty) := by kernel_rfl) (hd : d < N := by exact NL rfl) (hl : loadOf P t cs off = some v := by kernel_rfl) :
    HT (.op i (.load t x) (some d) ty) X P N W S0 ops Q bs L0 Ks T0 (f + 1) Ls la Kn T L C := hC.pulls.elim fun _ h9 => HDLOADE t x d ty ho hd (some ⟨b, 0, none⟩) 0 off cs v hx (fun w hw => ptC_elem (hw.own j hB)) hl hk h9 k
theorem hLK {t : TypeId} {x : Operand} {d b bt kk : Nat} {ty : TypeId} {j off : Nat} {cs : List Value} {v : Value} [TB P]
    (hx : evo T x = some (.e (some ⟨b, 0, none⟩) 0 off) := by conv => lhs; whnf) (hB : Ks[j]? = some (kk, ptC b bt cs) := by exact NTK) (hv : ldB (TB.D P) t cs off some = some v := by conv => lhs; whnf)
    (k : HL X P N W S0 ops Q bs L0 Ks T0 f (i :: Ls) (la.setIfInBounds i true) Kn ((d, .v v) :: T) L C) (hw : waitsB .any ops i ops.size kk = true := by kernel_rfl) (hC : KP (frz bs L0) Ks Ls la C := by exact KP.mk)
    (hk : takeB ops la Ks i = true := by kernel_rfl) (ho : opAt ops T i = some (.load t x, some d, ty) := by kernel_rfl) (hd : d < N := by exact NL rfl) (hl : loadOf P t cs off = some v := by kernel_rfl) :
    HT (.op i (.load t x) (some d) ty) X P N W S0 ops Q bs L0 Ks T0 (f + 1) Ls la Kn T L C := hC.pulls.elim fun _ h9 => HDLOADK (some (kk, ptC b bt cs)) ⟨List.mem_of_getElem? hB, hw⟩ t x d ty ho hd (some ⟨b, 0, none⟩) 0 off cs v hx (fun w hw => ptC_elem hw.2) hl hk h9 k
theorem hRV {op : Op} {d : Nat} {ty : TypeId} {v : Value}  (hrun : Runs P W S0 T (frz bs L0) op ty v) (k : HL X P N W S0 ops Q bs L0 Ks T0 f (i :: Ls) (la.setIfInBounds i true) Kn ((d, .v v) :: T) L C) (hC : KP (frz bs L0) Ks Ls la C := by exact KP.mk)
    (hk : takeB ops la Ks i = true := by kernel_rfl) (ho : opAt ops T i = some (op, some d, ty) := by kernel_rfl) (hd : d < N := by exact NL rfl) :
    HT (.op i op (some d) ty) X P N W S0 ops Q bs L0 Ks T0 (f + 1) Ls la Kn T L C := hC.pulls.elim fun _ h9 => HDRUNV op d ty ho hd v hrun hk h9 k
/-- each of the loud ones may be next -/
theorem hALL1 [TB P] {r1 : Nat} {x1 : Nx} (h1 : (nth ops.toList r1).bind (other T) = some x1 := by conv => lhs; whnf)
    (k : HO x1 r1 X P N W S0 ops Q bs L0 Ks T0 f Ls la Kn T L C) (hr : Region.ready .any ops la = [r1] := by kernel_rfl) : HT (.loud [r1]) X P N W S0 ops Q bs L0 Ks T0 (f + 1) Ls la Kn T L C := HDALL [r1] hr (by simp) k
theorem hALL2 [TB P] {r1 r2 : Nat} {x1 x2 : Nx} (h1 : (nth ops.toList r1).bind (other T) = some x1 := by conv => lhs; whnf) (h2 : (nth ops.toList r2).bind (other T) = some x2 := by conv => lhs; whnf)
    (k : HO x1 r1 X P N W S0 ops Q bs L0 Ks T0 f Ls la Kn T L C ∧ HO x2 r2 X P N W S0 ops Q bs L0 Ks T0 f Ls la Kn T L C) (hr : Region.ready .any ops la = [r1, r2] := by kernel_rfl) : HT (.loud [r1, r2]) X P N W S0 ops Q bs L0 Ks T0 (f + 1) Ls la Kn T L C := HDALL [r1, r2] hr (by simp) k
theorem hALL3 [TB P] {r1 r2 r3 : Nat} {x1 x2 x3 : Nx} (h1 : (nth ops.toList r1).bind (other T) = some x1 := by conv => lhs; whnf) (h2 : (nth ops.toList r2).bind (other T) = some x2 := by conv => lhs; whnf) (h3 : (nth ops.toList r3).bind (other T) = some x3 := by conv => lhs; whnf)
    (k : HO x1 r1 X P N W S0 ops Q bs L0 Ks T0 f Ls la Kn T L C ∧ HO x2 r2 X P N W S0 ops Q bs L0 Ks T0 f Ls la Kn T L C ∧ HO x3 r3 X P N W S0 ops Q bs L0 Ks T0 f Ls la Kn T L C) (hr : Region.ready .any ops la = [r1, r2, r3] := by kernel_rfl) : HT (.loud [r1, r2, r3]) X P N W S0 ops Q bs L0 Ks T0 (f + 1) Ls la Kn T L C := HDALL [r1, r2, r3] hr (by simp) k
theorem hALL4 [TB P] {r1 r2 r3 r4 : Nat} {x1 x2 x3 x4 : Nx} (h1 : (nth ops.toList r1).bind (other T) = some x1 := by conv => lhs; whnf) (h2 : (nth ops.toList r2).bind (other T) = some x2 := by conv => lhs; whnf) (h3 : (nth ops.toList r3).bind (other T) = some x3 := by conv => lhs; whnf) (h4 : (nth ops.toList r4).bind (other T) = some x4 := by conv => lhs; whnf)
    (k : HO x1 r1 X P N W S0 ops Q bs L0 Ks T0 f Ls la Kn T L C ∧ HO x2 r2 X P N W S0 ops Q bs L0 Ks T0 f Ls la Kn T L C ∧ HO x3 r3 X P N W S0 ops Q bs L0 Ks T0 f Ls la Kn T L C ∧ HO x4 r4 X P N W S0 ops Q bs L0 Ks T0 f Ls la Kn T L C) (hr : Region.ready .any ops la = [r1, r2, r3, r4] := by kernel_rfl) : HT (.loud [r1, r2, r3, r4]) X P N W S0 ops Q bs L0 Ks T0 (f + 1) Ls la Kn T L C := HDALL [r1, r2, r3, r4] hr (by simp) k
theorem hKEEP {T' : Tm} {C' : List Ass} (hC : KP (frz bs L0) Ks (i :: Ls) (la.setIfInBounds i true) C') (k : HL X P N W S0 ops Q bs L0 Ks T0 f (i :: Ls) (la.setIfInBounds i true) Kn T' L C') : G N W S0 (HND P W S0 ops Q (frz bs L0) Ks f (la.setIfInBounds i true)) T' L C' := hC.pulls.elim fun _ h9 => HDKEEP h9 k
theorem hCV {fn : FuncId} {S : Prop} [inst : HasC P fn S] {vs : Array Value} {d : Nat} {v : Value}  (hcon : S → ∀ w, At W S0 C w → Spec P w [] fn vs (RV v)) (k : HL X P N W S0 ops Q bs L0 Ks T0 f (i :: Ls) (la.setIfInBounds i true) Kn ((d, .v v) :: T) L C) (hC : KP (frz bs L0) Ks (i :: Ls) (la.setIfInBounds i true) C := by exact KP.mk)
    (hc : callOf P ops T i = some (fn, vs, some d) := by kernel_rfl) (hd : ∀ k, some d = some k → k < N := by exact NO rfl) : HO (.call fn vs (some d)) i X P N W S0 ops Q bs L0 Ks T0 f Ls la Kn T L C :=
  CALL fn vs (some d) hc [] [] C rfl (RV v) (hcon inst.pf) hd fun _ => by
    show G N W S0 _ _ L (C ++ [])
    rw [List.append_nil]
    exact hKEEP hC k
theorem hCX {fn : FuncId} {S : Prop} [inst : HasC P fn S] {vs : Array Value} {d : Nat} {pre R : List Ass} {js : List Nat} {ι : Type} {val : ι → Value} {own : ι → List Ass}
    (hcon : S → ∀ w, At W S0 C w → Spec P w pre fn vs ⟨ι, val, own⟩) (hp : pulls js C = some (pre, R)) (k : ∀ x, HL X P N W S0 ops Q bs L0 Ks T0 f (i :: Ls) (la.setIfInBounds i true) Kn ((d, .v (val x)) :: T) L (R ++ own x)) (hC : KP (frz bs L0) Ks (i :: Ls) (la.setIfInBounds i true) R := by exact KP.mk)
    (hc : callOf P ops T i = some (fn, vs, some d) := by kernel_rfl) (hd : ∀ k, some d = some k → k < N := by exact NO rfl) : HO (.call fn vs (some d)) i X P N W S0 ops Q bs L0 Ks T0 f Ls la Kn T L C :=
  CALL fn vs (some d) hc js pre R hp ⟨ι, val, own⟩ (hcon inst.pf) hd fun x => hKEEP hC.app (k x)
theorem hBUILD {t : TypeId} {len : Nat} {parts : Array (Nat × Operand)} {d : Nat} {ty : TypeId} {e sz : Nat} {α : Type} {enc : α → List Value} {hh : ∀ x, (enc x).length = sz ∧ ∀ u ∈ enc x, isCell u = true} {xs : List α}  [TB P]
    (he : lkn (TB.D P).row t = some (e, sz) := by conv => lhs; whnf) (el : ElT P e α sz enc hh := by infer_instance) (hx : partsO el.dec T 0 parts.toList some = some xs := by conv => lhs; whnf)
    (k : ∀ a : Option Addr, a.isSome = true → HL X P N W S0 ops Q bs L0 Ks T0 f (i :: Ls) (la.setIfInBounds i true) Kn ((d, .v (.slice a len len)) :: T) L (C ++ [slA e (flat sz enc hh) (.slice a len len) xs])) (hC : KP (frz bs L0) Ks (i :: Ls) (la.setIfInBounds i true) C := by exact KP.mk)
    (ho : opAt ops T i = some (.buildSlice t len parts, some d, ty) := by kernel_rfl) (hd : d < N := by exact NL rfl) (hb : (partsOf T parts.toList).bind (bsOf P t len) = some (e, xs.flatMap enc) := by kernel_rfl) (hl : xs.length = len := by kernel_rfl) (hm : Nat.ble len maxLen = true := by rfl) :
    HO (.op (.buildSlice t len parts) (some d) ty) i X P N W S0 ops Q bs L0 Ks T0 f Ls la Kn T L C := oBUILD he el hx (fun a ha => hKEEP hC.app (k a ha)) ho hd hb hl hm
theorem hAPP {t : TypeId} {s x : Operand} {d : Nat} {ty : TypeId} {v : Value} {a2 : Option Addr} {n2 c2 e sz : Nat} {α : Type} {enc : α → List Value} {hh : ∀ x, (enc x).length = sz ∧ ∀ u ∈ enc x, isCell u = true} {xs ys : List α} {j1 j2 : Nat} {R1 R : List Ass} [TB P]
    (he : lkn (TB.D P).row t = some (e, sz) := by conv => lhs; whnf) (el : ElT P e α sz enc hh := by infer_instance) (hs : evv T s = some v := by conv => lhs; whnf) (hx : evv T x = some (.slice a2 n2 c2) := by conv => lhs; whnf)
    (hp1 : pull j1 C = some (slA e (flat sz enc hh) v xs, R1) := by exact PU) (hp2 : pull j2 R1 = some (slA e (flat sz enc hh) (.slice a2 n2 c2) ys, R) := by exact PU) (ha2 : a2.isSome = true := by assumption) (hn2 : ys.length = n2 := by rfl) (hlen : xs.length + n2 ≤ 100000000000 := by exact LEN)
    (k : ∀ (a : Option Addr) (c : Nat), NNil a (xs ++ ys).length → HL X P N W S0 ops Q bs L0 Ks T0 f (i :: Ls) (la.setIfInBounds i true) Kn ((d, .v (.slice a (xs ++ ys).length c)) :: T) L (R ++ [slA e (flat sz enc hh) (.slice a (xs ++ ys).length c) (xs ++ ys)])) (hC : KP (frz bs L0) Ks (i :: Ls) (la.setIfInBounds i true) R := by exact KP.mk)
    (ho : opAt ops T i = some (.call { callee := .builtin .append, args := #[s, x], argTypes := #[t, t] }, some d, ty) := by kernel_rfl) (hd : d < N := by exact NL rfl) (hu : P.underlying t = some (.slice e) := by kernel_rfl) :
    HO (.op (.call { callee := .builtin .append, args := #[s, x], argTypes := #[t, t] }) (some d) ty) i X P N W S0 ops Q bs L0 Ks T0 f Ls la Kn T L C := oAPP he el hs hx hp1 hp2 ha2 hn2 hlen (fun a c h => hKEEP hC.app (k a c h)) ho hd hu
/-- the region's end: the boxes are closed again -/
def shC {R : Type} (n : Nat) (s : SV) (k : SV → R) : R :=
  match s with
  | .p i off => k (.p (n + i) off)
  | s => k s
def backT (n0 : Nat) (X : List Nat) : List Nat → Nat → Tm → Tm → (Tm → Option Tm) → Option Tm
  | seen, 0, _, T0, k => prune X seen T0 k
  | seen, n + 1, (d, s) :: T, T0, k => match memN X d, memN seen d with
    | true, false => shC n0 s (fun s => backT n0 X (d :: seen) n T T0 (fun l => k ((d, s) :: l)))
    | _, _ => backT n0 X seen n T T0 k
  | _, _ + 1, [], _, k => none
theorem eb0 : pulls [] C = some (expC [] [], C) := rfl
theorem eb1 {b t : Nat} {cs : List Value} {j : Nat} {R : List Ass} (h : pull j C = some (ptC b t cs, R)) : pulls [j] C = some (expC [b] [(t, cs)], R) := by simp [pulls, h, expC]
theorem eb2 {b t c s : Nat} {cs ds : List Value} {j k : Nat} {R R1 : List Ass} (h : pull j C = some (ptC b t cs, R)) (h1 : pull k R = some (ptC c s ds, R1)) : pulls [j, k] C = some (expC [b, c] [(t, cs), (s, ds)], R1) := by simp [pulls, h, h1, expC]
theorem eb3 {b t c s d r : Nat} {cs ds es : List Value} {j k l : Nat} {R R1 R2 : List Ass} (h : pull j C = some (ptC b t cs, R)) (h1 : pull k R = some (ptC c s ds, R1)) (h2 : pull l R1 = some (ptC d r es, R2)) : pulls [j, k, l] C = some (expC [b, c, d] [(t, cs), (s, ds), (r, es)], R2) := by simp [pulls, h, h1, h2, expC]
theorem eb4 {b t c s d r e q : Nat} {cs ds es gs : List Value} {j k l m : Nat} {R R1 R2 R3 : List Ass} (h : pull j C = some (ptC b t cs, R)) (h1 : pull k R = some (ptC c s ds, R1)) (h2 : pull l R1 = some (ptC d r es, R2)) (h3 : pull m R2 = some (ptC e q gs, R3)) : pulls [j, k, l, m] C = some (expC [b, c, d, e] [(t, cs), (s, ds), (r, es), (q, gs)], R3) := by simp [pulls, h, h1, h2, h3, expC]
theorem eb5 {b0 b1 b2 b3 b4 t0 t1 t2 t3 t4 : Nat} {c0 c1 c2 c3 c4 : List Value} {j0 j1 j2 j3 j4 : Nat} {R0 R1 R2 R3 R4 : List Ass} (h0 : pull j0 C = some (ptC b0 t0 c0, R0)) (h1 : pull j1 R0 = some (ptC b1 t1 c1, R1)) (h2 : pull j2 R1 = some (ptC b2 t2 c2, R2)) (h3 : pull j3 R2 = some (ptC b3 t3 c3, R3)) (h4 : pull j4 R3 = some (ptC b4 t4 c4, R4)) : pulls [j0, j1, j2, j3, j4] C = some (expC [b0, b1, b2, b3, b4] [(t0, c0), (t1, c1), (t2, c2), (t3, c3), (t4, c4)], R4) := by simp [pulls, h0, h1, h2, h3, h4, expC]
theorem eb6 {b0 b1 b2 b3 b4 b5 t0 t1 t2 t3 t4 t5 : Nat} {c0 c1 c2 c3 c4 c5 : List Value} {j0 j1 j2 j3 j4 j5 : Nat} {R0 R1 R2 R3 R4 R5 : List Ass} (h0 : pull j0 C = some (ptC b0 t0 c0, R0)) (h1 : pull j1 R0 = some (ptC b1 t1 c1, R1)) (h2 : pull j2 R1 = some (ptC b2 t2 c2, R2)) (h3 : pull j3 R2 = some (ptC b3 t3 c3, R3)) (h4 : pull j4 R3 = some (ptC b4 t4 c4, R4)) (h5 : pull j5 R4 = some (ptC b5 t5 c5, R5)) : pulls [j0, j1, j2, j3, j4, j5] C = some (expC [b0, b1, b2, b3, b4, b5] [(t0, c0), (t1, c1), (t2, c2), (t3, c3), (t4, c4), (t5, c5)], R5) := by simp [pulls, h0, h1, h2, h3, h4, h5, expC]
theorem eb7 {b0 b1 b2 b3 b4 b5 b6 t0 t1 t2 t3 t4 t5 t6 : Nat} {c0 c1 c2 c3 c4 c5 c6 : List Value} {j0 j1 j2 j3 j4 j5 j6 : Nat} {R0 R1 R2 R3 R4 R5 R6 : List Ass} (h0 : pull j0 C = some (ptC b0 t0 c0, R0)) (h1 : pull j1 R0 = some (ptC b1 t1 c1, R1)) (h2 : pull j2 R1 = some (ptC b2 t2 c2, R2)) (h3 : pull j3 R2 = some (ptC b3 t3 c3, R3)) (h4 : pull j4 R3 = some (ptC b4 t4 c4, R4)) (h5 : pull j5 R4 = some (ptC b5 t5 c5, R5)) (h6 : pull j6 R5 = some (ptC b6 t6 c6, R6)) : pulls [j0, j1, j2, j3, j4, j5, j6] C = some (expC [b0, b1, b2, b3, b4, b5, b6] [(t0, c0), (t1, c1), (t2, c2), (t3, c3), (t4, c4), (t5, c5), (t6, c6)], R6) := by simp [pulls, h0, h1, h2, h3, h4, h5, h6, expC]
theorem hEND {T' : Tm} {R : List Ass} {L1 : Bx} {js : List Nat} (hC : pulls js C = some (expC bs L1, R) := by first | exact eb0 | exact eb1 PU | exact eb2 PU PU | exact eb3 PU PU PU | exact eb4 PU PU PU PU | exact eb5 PU PU PU PU PU | exact eb6 PU PU PU PU PU PU | exact eb7 PU PU PU PU PU PU PU) (ht : backT L1.length X [] (T.length - T0.length) T T0 some = some T' := by conv => lhs; whnf) (k : DN X N W S0 Q .normal T' (L1 ++ L) R) (hl : bs.length = L1.length := by rfl)
    (hT : keep T ((expT bs T').map (·.1)) = keep (expT bs T') ((expT bs T').map (·.1)) := by kernel_rfl) (hn : boundedB (L1.length + L.length) T' = true := by kernel_rfl) (hr : Region.ready .any ops la = [] := by kernel_rfl) : HT (.loud []) X P N W S0 ops Q bs L0 Ks T0 f Ls la Kn T L C := by
  refine HDEND hr ?_
  rintro a w ⟨bs1, fps, ht, hb, hm⟩
  obtain ⟨xps, rps, hx, hrr, hperm⟩ := holds.pulls js hm.ch hC
  obtain ⟨hbx, rfl⟩ := holds_expC hl hx
  have hfl : (bs ++ rps.flatten).Perm fps.flatten := by
    have := flat_perm hperm
    simpa [map_one_flatten] using this
  have hall : ((bs ++ bs1) ++ rps.flatten).Perm (bs1 ++ fps.flatten) := by
    refine List.Perm.trans ?_ (hfl.append_left bs1)
    rw [← List.append_assoc]
    exact List.perm_append_comm.append_right _
  refine k a w ⟨bs ++ bs1, rps, ⟨ht.1, ht.2.1, fun i x hx => ?_⟩, by rw [List.length_append]; exact boundedB_ok hn, ⟨hm.fr, boxes_append hbx hm.bx, hrr, hall.nodup_iff.2 hm.nd, fun b hb => hm.new b (hall.subset hb)⟩⟩
  have h1 : lk (expT bs T') i = some (expS bs x) := by rw [lk_expT, hx]; rfl
  have h2 := ht.2.2 i _ (sub_ok hT i _ h1)
  rw [h2, den_expS]
/-- a box that the region writes: a load, a store -/
theorem hLW {t : TypeId} {x : Operand} {d b bt : Nat} {ty : TypeId} {j off : Nat} {cs : List Value} {v : Value}  [TB P]
    (hx : evo T x = some (.e (some ⟨b, 0, none⟩) 0 off) := by conv => lhs; whnf) (hC : C[j]? = some (ptC b bt cs) := by exact NT) (hv : ldB (TB.D P) t cs off some = some v := by conv => lhs; whnf)
    (k : HL X P N W S0 ops Q bs L0 Ks T0 f (i :: Ls) (la.setIfInBounds i true) Kn ((d, .v v) :: T) L C) (hR : KP (frz bs L0) Ks (i :: Ls) (la.setIfInBounds i true) C := by exact KP.mk)
    (ho : opAt ops T i = some (.load t x, some d, ty) := by kernel_rfl) (hd : d < N := by exact NL rfl) (hl : loadOf P t cs off = some v := by kernel_rfl) :
    HO (.op (.load t x) (some d) ty) i X P N W S0 ops Q bs L0 Ks T0 f Ls la Kn T L C :=
  LOADE t x d ty ho hd (some ⟨b, 0, none⟩) 0 off cs v hx (fun w hw => ptC_elem (hw.own j hC)) hl (hKEEP hR k)
def stB (D : OTab) (t bt : TypeId) (cs : List Value) (off : Nat) (v : Value) : Option (List Value) :=
  match off, lkn D.agg t with
  | 0, some n => match Nat.beq n cs.length with
    | true => cellsC v some
    | false => cellsC v (fun vs => putC 0 cs vs (fun cs' => mkC D bt cs' some))
  | o, _ => cellsC v (fun vs => putC o cs vs (fun cs' => mkC D bt cs' some))
theorem hSW {t : TypeId} {x y : Operand} {b bt : Nat} {ty : TypeId} {j off : Nat} {cs cs' : List Value} {v : Value} {R : List Ass} [TB P]
    (hx : evo T x = some (.e (some ⟨b, 0, none⟩) 0 off) := by conv => lhs; whnf) (hp : pull j C = some (ptC b bt cs, R) := by exact PU) (hy : evv T y = some v := by conv => lhs; whnf) (hv : stB (TB.D P) t bt cs off v = some cs' := by conv => lhs; whnf)
    (k : HL X P N W S0 ops Q bs L0 Ks T0 f (i :: Ls) (la.setIfInBounds i true) Kn T L (R ++ [ptC b bt cs'])) (hR : KP (frz bs L0) Ks (i :: Ls) (la.setIfInBounds i true) R := by exact KP.mk)
    (ho : opAt ops T i = some (.store t x y, none, ty) := by kernel_rfl) (hst : storeOf P t cs off v = some cs' := by kernel_rfl) :
    HO (.op (.store t x y) none ty) i X P N W S0 ops Q bs L0 Ks T0 f Ls la Kn T L C :=
  STOREC t x y ty ho j R b off bt cs cs' (by simp [pulls, hp]) v hx hy hst (hKEEP hR.app k)
/-- a loud one that the oracle reckons: a box is made, read, written -/
theorem oRUN1 {K : Go.Act → World → Prop} {T' : Tm} {L' : Bx} (h : runP P N ops 1 [i] T L = some (T', L')) (k : G N W S0 K T' L' C) : OP P N W S0 ops Q i K T L C := by
  simp only [runP] at h
  split at h
  · rename_i o hi
    split at h
    · rename_i T2 L2 h3
      simp only [Option.some.injEq, Prod.mk.injEq] at h
      obtain ⟨rfl, rfl⟩ := h
      exact step1_ok hi h3 k
    · cases h
  · cases h
theorem hONE [TB P] {o : Op} {d : Option Nat} {ty : TypeId} {T' : Tm} {L' : Bx}  (ho : orc1 (TB.D P) T L o (fun s L' => putK d s T (fun T' => some (T', L'))) (fun _ _ => none) = some (T', L') := by conv => lhs; whnf)
    (k : HL X P N W S0 ops Q bs L0 Ks T0 f (i :: Ls) (la.setIfInBounds i true) Kn T' L' C) (hC : KP (frz bs L0) Ks (i :: Ls) (la.setIfInBounds i true) C := by exact KP.mk) (h : runP P N ops 1 [i] T L = some (T', L') := by kernel_rfl) : HO (.op o d ty) i X P N W S0 ops Q bs L0 Ks T0 f Ls la Kn T L C := oRUN1 h (hKEEP hC k)
/-- i from 0 to n, one by one, with a row of its own in slot o, and what U says -/
def FORTO {α β : Type} (s o : Nat) (U : α → Tm) (T : Tm) (q : Nat × α × Option Addr × Nat × List β) : Tm := (s, I (q.1 : Int)) :: (o, .v (.slice q.2.2.1 q.2.2.2.2.length q.2.2.2.1)) :: (U q.2.1 ++ T)
def FORCO {α β : Type} (e : TypeId) (La : Lay β) (C0 : List Ass) (q : Nat × α × Option Addr × Nat × List β) : List Ass := C0 ++ [slA e La (.slice q.2.2.1 q.2.2.2.2.length q.2.2.2.1) q.2.2.2.2]
def FORIO {α β : Type} (n : Nat) (Inv : Nat → α → List β → Prop) (q : Nat × α × Option Addr × Nat × List β) : Prop := q.1 ≤ n ∧ Inv q.1 q.2.1 q.2.2.2.2
def FORMO {α β : Type} (n : Nat) (q : Nat × α × Option Addr × Nat × List β) : Nat := n - q.1
def ones : List Ass → List Nat
  | [] => []
  | _ :: C => 1 :: ones C
def rotJ : Nat → List Ass → List Nat
  | 0, C0 => ones C0 ++ [0]
  | j + 1, _ :: C0 => 0 :: rotJ j C0
  | _ + 1, [] => []
theorem pulls_ones (A : Ass) : ∀ (C0 : List Ass), pulls (ones C0 ++ [0]) (A :: C0) = some (C0 ++ [A], [])
  | [] => rfl
  | B :: C0 => by
    have h := pulls_ones A C0
    simp only [ones, List.cons_append, pulls, SX.pull, Option.map_some]
    simp [h]
theorem pulls_rot {A : Ass} : ∀ (j : Nat) {C C0 : List Ass}, pull j C = some (A, C0) → pulls (rotJ j C0) C = some (C0 ++ [A], [])
  | 0, [], _, h => by simp [pull] at h
  | 0, B :: C, C0, h => by
    simp only [pull, Option.some.injEq, Prod.mk.injEq] at h
    obtain ⟨rfl, rfl⟩ := h
    exact pulls_ones B C
  | j + 1, [], _, h => by simp [pull] at h
  | j + 1, B :: C, C0, h => by
    simp only [pull, Option.map_eq_some_iff] at h
    obtain ⟨⟨A', C1⟩, h1, h2⟩ := h
    simp only [Prod.mk.injEq] at h2
    obtain ⟨rfl, rfl⟩ := h2
    have h3 := pulls_rot j h1
    simp only [rotJ, pulls, pull]
    simp [h3]
theorem pulls_first : ∀ (C0 D : List Ass) {js : List Nat} {E R : List Ass}, pulls js D = some (E, R) → pulls (zeros C0 ++ js) (C0 ++ D) = some (C0 ++ E, R)
  | [], D, js, E, R, h => by simpa [zeros] using h
  | A :: C0, D, js, E, R, h => by
    have := pulls_first C0 D h
    simp only [zeros, List.cons_append, pulls, pull]
    simp [this]
theorem pull_last : ∀ (R2 : List Ass) (A : Ass), pull R2.length (R2 ++ [A]) = some (A, R2)
  | [], A => rfl
  | B :: R2, A => by
    have := pull_last R2 A
    simp only [List.length_cons, List.cons_append, pull, this]; rfl
theorem pulls_last (C0 R2 : List Ass) (A : Ass) : ∃ js R, pulls js (C0 ++ R2 ++ [A]) = some (C0 ++ [A], R) := by
  refine ⟨zeros C0 ++ [R2.length], R2, ?_⟩
  rw [List.append_assoc]
  exact pulls_first C0 (R2 ++ [A]) (by simp [pulls, pull_last])
theorem gLOOPC {c : Code} {ι : Type} (Tf : ι → Tm) (Lf : ι → Bx) (Cf : ι → List Ass) (Inv : ι → Prop) (m : ι → Nat) (j0 : ι) (h0 : Inv j0) (js : List Nat) (R : List Ass) (hC : pulls js C = some (Cf j0, R)) {L : Bx}
    (body : ∀ j, Inv j → CD X P N W S0 c (Exit.then (BKP N W S0 Tf Lf Cf Inv m j) Q) (Tf j) (Lf j) (Cf j)) (hT : keep T ((Tf j0).map (·.1)) = keep (Tf j0) ((Tf j0).map (·.1))) (hn : boundedB (Lf j0).length (Tf j0) = true) (hL : L.take (Lf j0).length = Lf j0) : CD X P N W S0 (.loop c) Q T L C := by
  have h := gLOOP (X := X) (P := P) (N := N) (W := W) (S0 := S0) (Q := Q) (T := Tf j0) (L := Lf j0) (C := Cf j0) Tf Lf Cf Inv m j0 h0 body rfl hn rfl rfl
  unfold CD at *
  intro a w hs
  exact h a w (hs.into hT hn hL hC)
theorem gFORO {c : Code} {L : Bx} {α β : Type} {e : TypeId} {La : Lay β} {a0 : Option Addr} {n0 c0 j : Nat} {xs0 : List β} {C0 : List Ass} (s n o : Nat) (U : α → Tm) (Inv : Nat → α → List β → Prop) (x0 : α) (hsl : lk T o = some (.v (.slice a0 n0 c0)) := by conv => lhs; whnf)
    (hp : pull j C = some (slA e La (.slice a0 n0 c0) xs0, C0) := by exact PU) (h0 : Inv 0 x0 xs0)
    (body : ∀ k x a c9 xs, k ≤ n → Inv k x xs → CD X P N W S0 c (Exit.then (BKP N W S0 (FORTO s o U T) (fun _ => L) (FORCO e La C0) (FORIO n Inv) (FORMO n) (k, x, a, c9, xs)) Q) ((s, I (k : Int)) :: (o, .v (.slice a xs.length c9)) :: (U x ++ T)) L (C0 ++ [slA e La (.slice a xs.length c9) xs]))
    (hn0 : n0 = xs0.length := by rfl) (hT : keep T ((FORTO s o U T (0, x0, a0, c0, xs0)).map (·.1)) = keep (FORTO s o U T (0, x0, a0, c0, xs0)) ((FORTO s o U T (0, x0, a0, c0, xs0)).map (·.1)) := by kernel_rfl) (hn : boundedB L.length (FORTO s o U T (0, x0, a0, c0, xs0)) = true := by kernel_rfl) : CD X P N W S0 (.loop c) Q T L C := by
  subst hn0
  exact gLOOPC (FORTO s o U T) (fun _ => L) (FORCO e La C0) (FORIO n Inv) (FORMO n) (0, x0, a0, c0, xs0) ⟨Nat.zero_le _, h0⟩ (rotJ j C0) [] (pulls_rot j hp) (fun q hk => body q.1 q.2.1 q.2.2.1 q.2.2.2.1 q.2.2.2.2 hk.1 hk.2) hT hn (by simp)
theorem gFOBACK {L L1 : Bx} {C1 R R2 : List Ass} {T1 : Tm} {α β : Type} {e : TypeId} {La : Lay β} {s n o k c9 c' n' j' : Nat} {U : α → Tm} {Inv : Nat → α → List β → Prop} {x x' : α} {a a' : Option Addr} {xs xs' : List β} {C0 : List Ass} (hsl : lk T1 o = some (.v (.slice a' n' c')) := by conv => lhs; whnf)
    (hU : keep T1 ((U x).map (·.1)) = some (U x') := by conv => lhs; whnf) (hp : pull j' C1 = some (slA e La (.slice a' n' c') xs', R) := by exact PU) (hlt : k < n) (h : Inv (k + 1) x' xs') (hn' : n' = xs'.length := by rfl) (hR : R = C0 ++ R2 := by rfl)
    (hT : keep T1 ((FORTO s o U T (k + 1, x', a', c', xs')).map (·.1)) = keep (FORTO s o U T (k + 1, x', a', c', xs')) ((FORTO s o U T (k + 1, x', a', c', xs')).map (·.1)) := by kernel_rfl)
    (hn : boundedB L.length (FORTO s o U T (k + 1, x', a', c', xs')) = true := by kernel_rfl) (hL : L1.take L.length = L := by kernel_rfl) :
    DN X N W S0 (Exit.then (BKP N W S0 (FORTO s o U T) (fun _ => L) (FORCO e La C0) (FORIO n Inv) (FORMO n) (k, x, a, c9, xs)) Q) .normal T1 L1 C1 := by
  subst hn'
  intro aa w hs
  refine ⟨(k + 1, x', a', c', xs'), ⟨by show k + 1 ≤ n; omega, h⟩, by show n - (k + 1) < n - k; omega, ?_⟩
  have h1 : Sat N W S0 T1 L1 (R ++ [slA e La (.slice a' xs'.length c') xs']) aa w := by
    obtain ⟨bs, fps, ht, hb, hm⟩ := hs
    obtain ⟨xps, rps, hx, hr, hperm⟩ := holds.pulls (rotJ j' R) hm.ch (pulls_rot j' hp)
    cases rps with
    | nil =>
      have hfl : xps.flatten.Perm fps.flatten := by simpa using flat_perm hperm
      have hnd := List.nodup_append.1 hm.nd
      exact ⟨bs, xps, ht, hb, ⟨hm.fr, hm.bx, hx, (List.Perm.append_left bs hfl).nodup_iff.2 hm.nd, fun b hbm => hm.new b ((List.Perm.append_left bs hfl).subset hbm)⟩⟩
    | cons _ _ => exact hr.elim
  subst hR
  obtain ⟨js, R9, h3⟩ := pulls_last C0 R2 (slA e La (.slice a' xs'.length c') xs')
  exact h1.into (js := js) (R := R9) hT hn hL h3
/-- i from n-1 down to 0, with a row of its own in slot o -/
def dv : Nat → Int
  | 0 => -1
  | k + 1 => (k : Int)
theorem dv_wr (k : Nat) (hk : k < 1000000000000) : wr ((k : Int) - 1) = dv k := by
  rw [wr_of (by omega) (by omega)]
  cases k with
  | zero => rfl
  | succ k => show ((k + 1 : Nat) : Int) - 1 = (k : Int); omega
def FORTD {β : Type} (s o : Nat) (T : Tm) (q : Nat × Option Addr × Nat × List β) : Tm := (s, I (dv q.1)) :: (o, .v (.slice q.2.1 q.2.2.2.length q.2.2.1)) :: T
def FORCD {β : Type} (e : TypeId) (La : Lay β) (C0 : List Ass) (q : Nat × Option Addr × Nat × List β) : List Ass := C0 ++ [slA e La (.slice q.2.1 q.2.2.2.length q.2.2.1) q.2.2.2]
def FORID {β : Type} (n : Nat) (Inv : Nat → List β → Prop) (q : Nat × Option Addr × Nat × List β) : Prop := q.1 ≤ n ∧ Inv q.1 q.2.2.2
def FORMD {β : Type} (q : Nat × Option Addr × Nat × List β) : Nat := q.1
theorem gFORDO {c : Code} {L : Bx} {β : Type} {e : TypeId} {La : Lay β} {a0 : Option Addr} {n0 c0 j : Nat} {xs0 : List β} {C0 : List Ass} (s n o : Nat) (hn9 : n < 1000000000000) (Inv : Nat → List β → Prop) (hs : lk T s = some (I (wr ((n : Int) - 1))) := by conv => lhs; whnf) (hsl : lk T o = some (.v (.slice a0 n0 c0)) := by conv => lhs; whnf)
    (hp : pull j C = some (slA e La (.slice a0 n0 c0) xs0, C0) := by exact PU) (h0 : Inv n xs0)
    (body0 : ∀ a c9 xs, Inv 0 xs → CD X P N W S0 c (Exit.then (BKP N W S0 (FORTD s o T) (fun _ => L) (FORCD e La C0) (FORID n Inv) FORMD (0, a, c9, xs)) Q) ((s, I (-1)) :: (o, .v (.slice a xs.length c9)) :: T) L (C0 ++ [slA e La (.slice a xs.length c9) xs]))
    (bodyS : ∀ (k : Nat) a c9 xs, k + 1 ≤ n → Inv (k + 1) xs → CD X P N W S0 c (Exit.then (BKP N W S0 (FORTD s o T) (fun _ => L) (FORCD e La C0) (FORID n Inv) FORMD (k + 1, a, c9, xs)) Q) ((s, I (k : Int)) :: (o, .v (.slice a xs.length c9)) :: T) L (C0 ++ [slA e La (.slice a xs.length c9) xs]))
    (hn0 : n0 = xs0.length := by rfl) (hT : keep ((s, I (dv n)) :: T) ((FORTD s o T (n, a0, c0, xs0)).map (·.1)) = keep (FORTD s o T (n, a0, c0, xs0)) ((FORTD s o T (n, a0, c0, xs0)).map (·.1)) := by kernel_rfl) (hn : ∀ z, boundedB L.length ((s, I z) :: (o, .v (.slice a0 n0 c0)) :: T) = true := by intro z; kernel_rfl) : CD X P N W S0 (.loop c) Q T L C := by
  subst hn0
  have h := gLOOPC (X := X) (P := P) (N := N) (W := W) (S0 := S0) (Q := Q) (T := (s, I (dv n)) :: T) (C := C) (L := L) (FORTD s o T) (fun _ => L) (FORCD e La C0) (FORID n Inv) FORMD (n, a0, c0, xs0) ⟨Nat.le_refl _, h0⟩ (rotJ j C0) [] (pulls_rot j hp) (fun q hk => by
    obtain ⟨k, a, c9, xs⟩ := q
    cases k with
    | zero => exact body0 a c9 xs hk.2
    | succ k => exact bodyS k a c9 xs hk.1 hk.2) hT (hn _) (by simp)
  unfold CD at *
  have e1 : vi (wr ((n : Int) - 1)) = vi (dv n) := by rw [dv_wr n hn9]
  intro a w hsat
  obtain ⟨bs, fps, ht, hb, hm⟩ := hsat
  refine h a w ⟨bs, fps, ⟨ht.1, ht.2.1, fun i x hx => ?_⟩, hb, hm⟩
  simp only [lk] at hx
  by_cases hk : s = i
  · subst hk
    simp at hx; subst hx
    have := ht.2.2 s _ hs
    rw [this]
    show some (vi _) = some (vi _)
    rw [e1]
  · have : (s == i) = false := by simpa using hk
    simp only [this, Bool.false_eq_true, if_false] at hx
    exact ht.2.2 i x hx
theorem gFDBACK {L L1 : Bx} {C1 R R2 : List Ass} {T1 : Tm} {β : Type} {e : TypeId} {La : Lay β} {s n o k c9 c' n' j' : Nat} {Inv : Nat → List β → Prop} {a a' : Option Addr} {xs xs' : List β} {C0 : List Ass} (hs : lk T1 s = some (I (wr ((k : Int) - 1))) := by conv => lhs; whnf) (hsl : lk T1 o = some (.v (.slice a' n' c')) := by conv => lhs; whnf)
    (hp : pull j' C1 = some (slA e La (.slice a' n' c') xs', R) := by exact PU) (hlt : k + 1 ≤ n) (hk9 : k < 1000000000000) (h : Inv k xs') (hn' : n' = xs'.length := by rfl) (hR : R = C0 ++ R2 := by rfl)
    (hT : keep ((s, I (dv k)) :: T1) ((FORTD s o T (k, a', c', xs')).map (·.1)) = keep (FORTD s o T (k, a', c', xs')) ((FORTD s o T (k, a', c', xs')).map (·.1)) := by kernel_rfl)
    (hn : boundedB L.length (FORTD s o T (k, a', c', xs')) = true := by kernel_rfl) (hL : L1.take L.length = L := by kernel_rfl) :
    DN X N W S0 (Exit.then (BKP N W S0 (FORTD s o T) (fun _ => L) (FORCD e La C0) (FORID n Inv) FORMD (k + 1, a, c9, xs)) Q) .normal T1 L1 C1 := by
  subst hn'
  intro aa w hsat
  refine ⟨(k, a', c', xs'), ⟨by show k ≤ n; omega, h⟩, by show k < k + 1; omega, ?_⟩
  have e1 : vi (wr ((k : Int) - 1)) = vi (dv k) := by rw [dv_wr k hk9]
  have h1 : Sat N W S0 ((s, I (dv k)) :: T1) L1 (R ++ [slA e La (.slice a' xs'.length c') xs']) aa w := by
    obtain ⟨bs, fps, ht, hb, hm⟩ := hsat
    obtain ⟨xps, rps, hx, hr, hperm⟩ := holds.pulls (rotJ j' R) hm.ch (pulls_rot j' hp)
    cases rps with
    | nil =>
      have hfl : xps.flatten.Perm fps.flatten := by simpa using flat_perm hperm
      refine ⟨bs, xps, ⟨ht.1, ht.2.1, fun i x hx => ?_⟩, hb, ⟨hm.fr, hm.bx, hx, (List.Perm.append_left bs hfl).nodup_iff.2 hm.nd, fun b hbm => hm.new b ((List.Perm.append_left bs hfl).subset hbm)⟩⟩
      simp only [lk] at hx
      by_cases hk : s = i
      · subst hk
        simp at hx; subst hx
        have := ht.2.2 s _ hs
        rw [this]
        show some (vi _) = some (vi _)
        rw [e1]
      · have : (s == i) = false := by simpa using hk
        simp only [this, Bool.false_eq_true, if_false] at hx
        exact ht.2.2 i x hx
    | cons _ _ => exact hr.elim
  subst hR
  obtain ⟨js, R9, h3⟩ := pulls_last C0 R2 (slA e La (.slice a' xs'.length c') xs')
  exact h1.into (js := js) (R := R9) hT hn hL h3
end rules
end SX
end Go.Proofs.YtejojcoaohlfbaaGreat
/- Parts of rows that are read. It imports no program. -/
namespace Go.Proofs.YtejojcoaohlfbaaGreat
namespace SX
set_option linter.unusedVariables false
set_option linter.unusedSimpArgs false
open Go Go.RowKit
section rules
variable {X : List Nat} {P : Program} {N : Nat} {W : World} {S0 : List Nat} {Q : Exit → Go.Act → World → Prop} {T : Tm} {L : Bx} {C : List Ass} {ops : Array Oper} {Kn : List (Nat × Nat)} {i : Nat} {bs : List Nat} {L0 : Bx} {Ks : Keys} {T0 : Tm} {f : Nat} {Ls : List Nat} {la : Array Bool} {R : List Ass}
variable {t : TypeId} {x lo : Operand} {d : Nat} {ty : TypeId} {a : Option Addr} {n cap : Nat} {kl : IntKind} {z e sz : Nat} {α : Type} {La : Lay α} {xs : List α}
theorem aCH [TB P] (hl : evv T lo = some (.int kl (z : Int)) := by conv => lhs; whnf) (hx : evv T x = some (.slice a n cap) := by conv => lhs; whnf) (he : lkn (TB.D P).row t = some (e, sz) := by conv => lhs; whnf) (hr : Rd La W a xs) (hn : n = xs.length := by rfl) (hc : n ≤ cap) (hz : z ≤ n)
    (k : ∀ a' : Option Addr, Rd La W a' (xs.take z) → (xs.take z).length ≤ cap → OPL X P N W S0 ops Q Kn (i + 1) ((d, .v (.slice a' (xs.take z).length cap)) :: T) L C) (hi : Nat.blt i ops.size = true := by rfl)
    (ho : opAt ops T i = some (.slice t x none (some lo) none, some d, ty) := by kernel_rfl) (hd : d < N := by exact NL rfl) (hu : P.underlying t = some (.slice e) := by kernel_rfl) (hs : (P.info? e).map (·.size) = some La.sz := by kernel_rfl) :
    AT (.op (.slice t x none (some lo) none) (some d) ty) X P N W S0 ops Q Kn i T L C := by
  subst hn
  refine opsOne (lt_of_blt hi) (CUTH t x lo d ty ho hd a _ cap kl z hx hl e La xs hu hs (by omega) (by omega) rfl hc fun a' h => ?_)
  have e1 : (xs.take z).length = z := by rw [List.length_take]; omega
  have := k a' (h W hr) (by omega)
  rw [e1] at this
  exact this
theorem aCL [TB P] (hl : evv T lo = some (.int kl (z : Int)) := by conv => lhs; whnf) (hx : evv T x = some (.slice a n cap) := by conv => lhs; whnf) (he : lkn (TB.D P).row t = some (e, sz) := by conv => lhs; whnf) (hr : Rd La W a xs) (hn : n = xs.length := by rfl) (hc : n ≤ cap) (hz : z ≤ n)
    (k : ∀ a' : Option Addr, Rd La W a' (xs.drop z) → (xs.drop z).length ≤ cap - z → OPL X P N W S0 ops Q Kn (i + 1) ((d, .v (.slice a' (xs.drop z).length (cap - z))) :: T) L C) (hi : Nat.blt i ops.size = true := by rfl)
    (ho : opAt ops T i = some (.slice t x (some lo) none none, some d, ty) := by kernel_rfl) (hd : d < N := by exact NL rfl) (hu : P.underlying t = some (.slice e) := by kernel_rfl) (hs : (P.info? e).map (·.size) = some La.sz := by kernel_rfl) :
    AT (.op (.slice t x (some lo) none none) (some d) ty) X P N W S0 ops Q Kn i T L C := by
  subst hn
  refine opsOne (lt_of_blt hi) (CUTL t x lo d ty ho hd a _ cap kl z hx hl e La xs hu hs (by omega) (by omega) rfl hc fun a' h => ?_)
  have e1 : (xs.drop z).length = xs.length - z := by rw [List.length_drop]
  have := k a' (h W hr) (by omega)
  rw [e1] at this
  exact this
theorem hCH [TB P] (hl : evv T lo = some (.int kl (z : Int)) := by conv => lhs; whnf) (hx : evv T x = some (.slice a n cap) := by conv => lhs; whnf) (he : lkn (TB.D P).row t = some (e, sz) := by conv => lhs; whnf) (hr : Rd La W a xs) (hn : n = xs.length := by rfl) (hc : n ≤ cap) (hz : z ≤ n)
    (k : ∀ a' : Option Addr, Rd La W a' (xs.take z) → (xs.take z).length ≤ cap → HL X P N W S0 ops Q bs L0 Ks T0 f (i :: Ls) (la.setIfInBounds i true) Kn ((d, .v (.slice a' (xs.take z).length cap)) :: T) L C) (hC : KP (frz bs L0) Ks Ls la C := by exact KP.mk)
    (hk : takeB ops la Ks i = true := by kernel_rfl)
    (ho : opAt ops T i = some (.slice t x none (some lo) none, some d, ty) := by kernel_rfl) (hd : d < N := by exact NL rfl) (hu : P.underlying t = some (.slice e) := by kernel_rfl) (hs : (P.info? e).map (·.size) = some La.sz := by kernel_rfl) :
    HT (.op i (.slice t x none (some lo) none) (some d) ty) X P N W S0 ops Q bs L0 Ks T0 (f + 1) Ls la Kn T L C := by
  subst hn
  obtain ⟨js9, h9⟩ := hC.pulls
  refine HDCUTH t x lo d ty ho hd a _ cap kl z hx hl e La xs hu hs (by omega) (by omega) rfl hc hk h9 fun a' h => ?_
  have e1 : (xs.take z).length = z := by rw [List.length_take]; omega
  have := k a' (h W hr) (by omega)
  rw [e1] at this
  exact this
theorem hCL [TB P] (hl : evv T lo = some (.int kl (z : Int)) := by conv => lhs; whnf) (hx : evv T x = some (.slice a n cap) := by conv => lhs; whnf) (he : lkn (TB.D P).row t = some (e, sz) := by conv => lhs; whnf) (hr : Rd La W a xs) (hn : n = xs.length := by rfl) (hc : n ≤ cap) (hz : z ≤ n)
    (k : ∀ a' : Option Addr, Rd La W a' (xs.drop z) → (xs.drop z).length ≤ cap - z → HL X P N W S0 ops Q bs L0 Ks T0 f (i :: Ls) (la.setIfInBounds i true) Kn ((d, .v (.slice a' (xs.drop z).length (cap - z))) :: T) L C) (hC : KP (frz bs L0) Ks Ls la C := by exact KP.mk)
    (hk : takeB ops la Ks i = true := by kernel_rfl)
    (ho : opAt ops T i = some (.slice t x (some lo) none none, some d, ty) := by kernel_rfl) (hd : d < N := by exact NL rfl) (hu : P.underlying t = some (.slice e) := by kernel_rfl) (hs : (P.info? e).map (·.size) = some La.sz := by kernel_rfl) :
    HT (.op i (.slice t x (some lo) none none) (some d) ty) X P N W S0 ops Q bs L0 Ks T0 (f + 1) Ls la Kn T L C := by
  subst hn
  obtain ⟨js9, h9⟩ := hC.pulls
  refine HDCUTL t x lo d ty ho hd a _ cap kl z hx hl e La xs hu hs (by omega) (by omega) rfl hc hk h9 fun a' h => ?_
  have e1 : (xs.drop z).length = xs.length - z := by rw [List.length_drop]
  have := k a' (h W hr) (by omega)
  rw [e1] at this
  exact this
end rules
end SX
end Go.Proofs.YtejojcoaohlfbaaGreat
/- What the functions on parties, queues and cabins come to, in plain Lean: the exact models. It imports no program. -/
namespace Go.Proofs.YtejojcoaohlfbaaGreat
namespace SX
set_option linter.unusedVariables false
set_option linter.unusedSimpArgs false
open Go Go.RowKit
def partyOk (r : Rules) (p : Party) (now : Int) : Bool :=
  rulesOk r && inB now 0 1000000 && inB p.id 1 999 && inB p.cabin 0 (wr (r.seats.length - 1)) && inB p.from' (-1) (wr (r.seats.length - 1)) && !(p.from' == p.cabin) &&
  inB p.size 1 r.size && inB p.tier 0 (wr (r.tiers - 1)) && inB p.since 0 now && inB p.turn 1 1000000 && inB p.asked 0 (wr (r.tries - 1)) &&
  ((p.state == 1 && inB p.until' 0 (wr (now + r.rest))) || (p.state == 2 && inB p.until' 1 (wr (now + r.window))))
def levelAt (r : Rules) (tier waited : Int) : Int := if 0 > wr (tier - wr (Int.tdiv waited r.period)) then 0 else wr (tier - wr (Int.tdiv waited r.period))
def levelOf (r : Rules) (p : Party) (now : Int) : Int := if partyOk r p now then levelAt r p.tier (wr (now - p.since)) else -1
def entryOk (r : Rules) (p : Party) (now : Int) : Bool := !(decide (levelOf r p now < 0)) && p.state == 1
def entryOf (r : Rules) (p : Party) (now : Int) : Entry := if entryOk r p now then ⟨levelOf r p now, p.turn, p.id, p.size⟩ else ⟨0, 0, 0, 0⟩
def ledgerOk (l : Ledger) : Bool := inB l.total 1 60 && inB l.free 0 l.total && inB l.held 0 l.total && inB l.sold 0 l.total && wr (wr (l.free + l.held) + l.sold) == l.total && inB l.tied 0 l.sold
theorem per_pos {r : Rules} {p : Party} {now : Int} (h : partyOk r p now = true) : 1 ≤ r.period := by
  have h9 : rulesOk r = true := by
    simp only [partyOk, Bool.and_eq_true] at h
    exact h.1.1.1.1.1.1.1.1.1.1.1
  simp [rulesOk, inB] at h9; omega
/-- an entry put into a row; a pin put into a list -/
def qIns : List Entry → Entry → List Entry
  | [], e => [e]
  | y :: ys, e => if entryLess y e then y :: qIns ys e else e :: y :: ys
def pIns : List Pin → Pin → List Pin
  | [], e => [e]
  | y :: ys, e => if pinLess y e then y :: pIns ys e else e :: y :: ys
theorem qIns_len : ∀ (l : List Entry) (e : Entry), (qIns l e).length = l.length + 1
  | [], e => rfl
  | y :: ys, e => by unfold qIns; split <;> simp [qIns_len ys e]
theorem pIns_len : ∀ (l : List Pin) (e : Pin), (pIns l e).length = l.length + 1
  | [], e => rfl
  | y :: ys, e => by unfold pIns; split <;> simp [pIns_len ys e]
def queueOf (r : Rules) : List Party → Int → Int → List Entry
  | [], _, _ => []
  | p :: ps, cabin, now => if entryOk r p now && p.cabin == cabin then qIns (queueOf r ps cabin now) (entryOf r p now) else queueOf r ps cabin now
def pinsGo : List Party → Int → List Pin → List Pin
  | [], _, out => out
  | p :: ps, cabin, out => pinsGo ps cabin (if p.state == 2 && p.cabin == cabin then pIns out ⟨p.until', p.id⟩ else out)
def heldGo : List Party → Int → Int → Int
  | [], _, n => n
  | p :: ps, cabin, n => heldGo ps cabin (if p.state == 2 && p.cabin == cabin && inB p.size 1 6 then wr (n + p.size) else n)
def tiedGo : List Party → Int → Int → Int
  | [], _, n => n
  | p :: ps, cabin, n => tiedGo ps cabin (if p.from' == cabin && inB p.size 1 6 then wr (n + p.size) else n)
def countGo : List Party → Int → Int → Int
  | [], _, n => n
  | p :: ps, cabin, n => countGo ps cabin (if p.cabin == cabin then wr (n + 1) else n)
end SX
end Go.Proofs.YtejojcoaohlfbaaGreat
/- A wheel that is right, in plain Lean. It imports no program. -/
namespace Go.Proofs.YtejojcoaohlfbaaGreat
namespace SX
set_option linter.unusedVariables false
set_option linter.unusedSimpArgs false
open Go Go.RowKit
def PinR (p : Pin) : Prop := inB p.at' 1 1000008 = true ∧ inB p.id 1 999 = true
def SpokeP (i : Nat) (l : List Pin) : Prop := ∀ (m : Nat) (x : Pin), l[m]? = some x → Int.tmod x.at' 9 = (i : Int) ∧ (0 < m → ∀ y, l[m - 1]? = some y → pinLess y x = true)
def WheelP (wh : Wheel) : Prop :=
  wh.spoke.length = 9 ∧ wh.spoke.flatten.length ≤ 10 ∧ (∀ p ∈ wh.spoke.flatten, PinR p) ∧ (wh.spoke.flatten.map (·.id)).Nodup ∧ ∀ (i : Nat) (l : List Pin), wh.spoke[i]? = some l → SpokeP i l
open Classical in
noncomputable def wheelOk (wh : Wheel) : Bool := decide (WheelP wh)
theorem wheelOk_t {wh : Wheel} (h : WheelP wh) : wheelOk wh = true := by simp [wheelOk, h]
theorem wheelOk_f {wh : Wheel} (h : ¬ WheelP wh) : wheelOk wh = false := by simp [wheelOk, h]
theorem wheelP_of {wh : Wheel} (h : wheelOk wh = true) : WheelP wh := by simpa [wheelOk] using h
theorem ids_no {l : List Pin} {i j : Nat} {x y : Pin} (hij : i < j) (hx : l[i]? = some x) (hy : l[j]? = some y) (he : x.id = y.id) : ¬ (l.map (·.id)).Nodup := by
  intro h
  rw [List.Nodup, List.pairwise_iff_getElem] at h
  obtain ⟨h1, rfl⟩ := List.getElem?_eq_some_iff.1 hx
  obtain ⟨h2, rfl⟩ := List.getElem?_eq_some_iff.1 hy
  have := h i j (by simpa using h1) (by simpa using h2) hij
  simp only [List.getElem_map] at this
  exact this he
end SX
end Go.Proofs.YtejojcoaohlfbaaGreat
/- Rows, cabins and houses that are right, in plain Lean: the exact models. It imports no program. -/
namespace Go.Proofs.YtejojcoaohlfbaaGreat
namespace SX
set_option linter.unusedVariables false
set_option linter.unusedSimpArgs false
open Go Go.RowKit
def EntryR (e : Entry) : Prop := inB e.level 0 4 = true ∧ inB e.turn 1 1000000 = true ∧ inB e.id 1 999 = true ∧ inB e.size 1 6 = true
/-- a row that is right -/
def QueueP (l : List Entry) : Prop :=
  l.length ≤ 10 ∧ ∀ (i : Nat) (e : Entry), l[i]? = some e → EntryR e ∧ (0 < i → ∀ y, l[i - 1]? = some y → entryLess y e = true) ∧ ∀ (j : Nat) (y : Entry), j < i → l[j]? = some y → y.id ≠ e.id
open Classical in
noncomputable def queueOk (l : List Entry) : Bool := decide (QueueP l)
theorem queueOk_t {l : List Entry} (h : QueueP l) : queueOk l = true := by simp [queueOk, h]
theorem queueP_of {l : List Entry} (h : queueOk l = true) : QueueP l := by simpa [queueOk] using h
/-- where an entry of this number stands first -/
def queueAt : List Entry → Int → Nat → Int
  | [], _, _ => -1
  | e :: es, id, k => if e.id == id then (k : Int) else queueAt es id (k + 1)
theorem queueAt_spec : ∀ (l : List Entry) (id : Int) (k : Nat), (queueAt l id k = -1 ∧ ∀ e ∈ l, e.id ≠ id) ∨ (∃ (i : Nat) (e : Entry), l[i]? = some e ∧ e.id = id ∧ queueAt l id k = ((k + i : Nat) : Int) ∧ ∀ (j : Nat) (y : Entry), j < i → l[j]? = some y → y.id ≠ id)
  | [], id, k => .inl ⟨rfl, fun e h => absurd h (List.not_mem_nil)⟩
  | e :: es, id, k => by
    unfold queueAt
    by_cases he : e.id = id
    · rw [if_pos (by simpa using he)]
      exact .inr ⟨0, e, rfl, he, rfl, fun j y h => absurd h (Nat.not_lt_zero _)⟩
    · rw [if_neg (by simpa using he)]
      rcases queueAt_spec es id (k + 1) with ⟨h1, h2⟩ | ⟨i, y, h1, h2, h3, h4⟩
      · refine .inl ⟨h1, fun z hz => ?_⟩
        rcases List.mem_cons.1 hz with rfl | hz
        · exact he
        · exact h2 z hz
      · refine .inr ⟨i + 1, y, by simpa using h1, h2, by rw [h3]; congr 1; omega, fun j z hj hz => ?_⟩
        cases j with
        | zero => simp at hz; subst hz; exact he
        | succ j => exact h4 j z (by omega) (by simpa using hz)
/-- the pins of a wheel in their order -/
def pinsSort (l : List Pin) : List Pin := l.foldl pIns []
noncomputable def pinsOf (wh : Wheel) : List Pin := if wheelOk wh = true then pinsSort wh.spoke.flatten else []
noncomputable def cabinOk (c : Cabin) : Bool := ledgerOk c.seats && queueOk c.row && wheelOk c.wheel
def sameRow : List Entry → List Entry → Bool
  | [], [] => true
  | a :: as, b :: bs => a.level == b.level && (a.turn == b.turn && (a.id == b.id && (a.size == b.size && true))) && sameRow as bs
  | _, _ => false
def samePins : List Pin → List Pin → Bool
  | [], [] => true
  | a :: as, b :: bs => a.at' == b.at' && (a.id == b.id && true) && samePins as bs
  | _, _ => false
theorem sameRow_iff : ∀ (a b : List Entry), sameRow a b = true ↔ a = b
  | [], [] => by simp [sameRow]
  | [], _ :: _ => by simp [sameRow]
  | _ :: _, [] => by simp [sameRow]
  | ⟨l1, t1, i1, s1⟩ :: as, ⟨l2, t2, i2, s2⟩ :: bs => by
    simp only [sameRow, Bool.and_eq_true, beq_iff_eq, Bool.and_true, sameRow_iff as bs, List.cons.injEq, Entry.mk.injEq]
theorem samePins_iff : ∀ (a b : List Pin), samePins a b = true ↔ a = b
  | [], [] => by simp [samePins]
  | [], _ :: _ => by simp [samePins]
  | _ :: _, [] => by simp [samePins]
  | ⟨a1, i1⟩ :: as, ⟨a2, i2⟩ :: bs => by
    simp only [samePins, Bool.and_eq_true, beq_iff_eq, Bool.and_true, samePins_iff as bs, List.cons.injEq, Pin.mk.injEq]
noncomputable def agrees (r : Rules) (c : Cabin) (list : List Party) (cabin now : Int) : Bool :=
  cabinOk c && sameRow c.row (queueOf r list cabin now) && samePins (pinsOf c.wheel) (pinsGo list cabin []) && c.seats.held == heldGo list cabin 0 && c.seats.tied == tiedGo list cabin 0
/-- parties that are right -/
def PartiesP (h : House) : Prop :=
  ∀ (i : Nat) (p : Party), h.parties[i]? = some p → partyOk h.rules p h.now = true ∧ p.turn < h.turn ∧ (0 < i → ∀ q, h.parties[i - 1]? = some q → q.id < p.id) ∧
    ∀ (j : Nat) (q : Party), j < i → h.parties[j]? = some q → q.turn ≠ p.turn ∧ ¬ (q.turn < p.turn ∧ p.since < q.since) ∧ ¬ (p.turn < q.turn ∧ q.since < p.since)
def JobsP (h : House) : Prop :=
  (∀ (i : Nat) (x : Int), h.todo[i]? = some x → inB x 0 (wr (h.cabins.length - 1)) = true ∧ ∀ (j : Nat) (y : Int), j < i → h.todo[j]? = some y → y ≠ x) ∧
  (∀ x ∈ h.jobs, inB x (-1) (wr (h.cabins.length - 1)) = true) ∧ (h.jobs.length : Int) = h.rules.crew
def HouseP (h : House) : Prop :=
  rulesOk h.rules = true ∧ inB h.now 0 1000000 = true ∧ inB h.turn 1 1000001 = true ∧ h.parties.length ≤ 40 ∧ h.cabins.length = h.rules.seats.length ∧ PartiesP h ∧ JobsP h ∧
  ∀ (k : Nat) (c : Cabin), h.cabins[k]? = some c → h.rules.seats[k]? = some c.seats.total ∧ agrees h.rules c h.parties k h.now = true ∧ countGo h.parties k 0 ≤ h.rules.room
open Classical in
noncomputable def houseOk (h : House) : Bool := decide (HouseP h)
theorem houseOk_t {h : House} (hp : HouseP h) : houseOk h = true := by simp [houseOk, hp]
theorem houseP_of {h : House} (hp : houseOk h = true) : HouseP h := by simpa [houseOk] using hp
end SX
end Go.Proofs.YtejojcoaohlfbaaGreat
/- Sorting by insertion, as the library does it at few elements, and what it comes to, in plain Lean. It imports no program. -/
namespace Go.Proofs.YtejojcoaohlfbaaGreat
namespace SX
set_option linter.unusedVariables false
set_option linter.unusedSimpArgs false
open Go Go.RowKit
section
variable {α : Type} (lt : α → α → Bool)
/-- ahead of the first that is not less; behind those that are not greater -/
def insL : List α → α → List α
  | [], e => [e]
  | y :: ys, e => if lt y e then y :: insL ys e else e :: y :: ys
def insR : List α → α → List α
  | [], e => [e]
  | y :: ys, e => if lt e y then e :: y :: ys else y :: insR ys e
/-- the j-th goes down while it is less than the one ahead of it -/
def sink : Nat → List α → List α
  | 0, xs => xs
  | j + 1, xs => match xs[j + 1]?, xs[j]? with
    | some y, some x => if lt y x then sink j ((xs.set (j + 1) x).set j y) else xs
    | _, _ => xs
def sortGo : Nat → Nat → List α → List α
  | 0, _, xs => xs
  | m + 1, i, xs => sortGo m (i + 1) (sink lt i xs)
structure Ord : Prop where
  as : ∀ a b, lt a b = true → lt b a = false
  nt : ∀ a b c, lt a c = true → lt a b = true ∨ lt b c = true
variable {lt}
theorem Ord.tr (h : Ord lt) {a b c : α} (h1 : lt a b = true) (h2 : lt b c = true) : lt a c = true := by
  rcases h.nt a c b h1 with h3 | h3
  · exact h3
  · rw [h.as b c h2] at h3; cases h3
theorem Ord.nn (h : Ord lt) {a b c : α} (h1 : lt a b = false) (h2 : lt b c = false) : lt a c = false := by
  cases h3 : lt a c with
  | false => rfl
  | true => rcases h.nt a b c h3 with h4 | h4 <;> simp_all
theorem ins_comm (h : Ord lt) (e z : α) : ∀ l, insL lt (insR lt l z) e = insR lt (insL lt l e) z
  | [] => by
    simp only [insR, insL]
  | y :: ys => by
    simp only [insR, insL]
    cases h1 : lt z y <;> cases h2 : lt y e <;> simp only [insR, insL, h1, h2, if_true, Bool.false_eq_true, if_false]
    · rw [h.nn h1 h2]
      simp
    · rw [ins_comm h e z ys]
    · rw [h.tr h1 h2]; simp
theorem foldr_snoc (h : Ord lt) (z : α) : ∀ l : List α, (l ++ [z]).foldr (fun e l => insL lt l e) [] = insR lt (l.foldr (fun e l => insL lt l e) []) z
  | [] => rfl
  | e :: l => by
    simp only [List.cons_append, List.foldr_cons]
    rw [foldr_snoc h z l, ins_comm h]
theorem foldl_insR (h : Ord lt) (l : List α) : ∀ m : List α, m.foldl (insR lt) (l.foldr (fun e l => insL lt l e) []) = (l ++ m).foldr (fun e l => insL lt l e) []
  | [] => by simp
  | z :: m => by
    rw [List.foldl_cons, ← foldr_snoc h z l, foldl_insR h (l ++ [z]) m]
    simp
theorem insR_len : ∀ (l : List α) (e : α), (insR lt l e).length = l.length + 1
  | [], e => rfl
  | y :: ys, e => by unfold insR; split <;> simp [insR_len ys e]
theorem insL_len : ∀ (l : List α) (e : α), (insL lt l e).length = l.length + 1
  | [], e => rfl
  | y :: ys, e => by unfold insL; split <;> simp [insL_len ys e]
theorem insR_mem : ∀ {l : List α} {e x : α}, x ∈ insR lt l e → x = e ∨ x ∈ l
  | [], e, x, h => by simp [insR] at h; exact .inl h
  | y :: ys, e, x, h => by
    unfold insR at h
    split at h
    · simpa using h
    · rcases List.mem_cons.1 h with rfl | h
      · simp
      · rcases insR_mem h with rfl | h
        · simp
        · simp [h]
abbrev Srt (lt : α → α → Bool) (l : List α) : Prop := l.Pairwise fun a b => lt b a = false
theorem Srt.ins (h : Ord lt) : ∀ {l : List α} {e : α}, Srt lt l → Srt lt (insR lt l e)
  | [], e, _ => by simp [insR, Srt]
  | y :: ys, e, hs => by
    have hs := List.pairwise_cons.1 hs
    unfold insR
    cases h1 : lt e y with
    | true =>
      simp only [if_true]
      refine List.pairwise_cons.2 ⟨fun b hb => ?_, List.pairwise_cons.2 hs⟩
      rcases List.mem_cons.1 hb with rfl | hb
      · exact h.as _ _ h1
      · cases h2 : lt b e with
        | false => rfl
        | true => have h3 := h.tr h2 h1; rw [hs.1 b hb] at h3; cases h3
    | false =>
      simp only [Bool.false_eq_true, if_false]
      refine List.pairwise_cons.2 ⟨fun b hb => ?_, Srt.ins h hs.2⟩
      rcases insR_mem hb with rfl | hb
      · exact h1
      · exact hs.1 b hb
theorem insR_snoc {x y : α} (h : lt y x = true) : ∀ A : List α, insR lt (A ++ [x]) y = insR lt A y ++ [x]
  | [] => by simp [insR, h]
  | a :: A => by
    simp only [List.cons_append, insR]
    split
    · rfl
    · rw [insR_snoc h A]; rfl
theorem insR_all {y : α} : ∀ {A : List α}, (∀ a ∈ A, lt y a = false) → insR lt A y = A ++ [y]
  | [], _ => rfl
  | a :: A, h => by
    unfold insR
    rw [h a (by simp)]
    simp [insR_all (A := A) fun b hb => h b (by simp [hb])]
theorem get_mid {A : List α} {y : α} {B : List α} : (A ++ y :: B)[A.length]? = some y := by simp
theorem sink_spec (h : Ord lt) (y : α) : ∀ (n : Nat) (A B : List α), A.length = n → Srt lt A → sink lt n (A ++ y :: B) = insR lt A y ++ B
  | 0, A, B, hn, hs => by
    have : A = [] := List.eq_nil_of_length_eq_zero hn
    subst this; rfl
  | n + 1, A, B, hn, hs => by
    obtain ⟨A', x, rfl⟩ : ∃ A' x, A = A' ++ [x] := by
      refine ⟨A.dropLast, A.getLast (by intro hh; simp [hh] at hn), ?_⟩
      exact (List.dropLast_concat_getLast (by intro hh; simp [hh] at hn)).symm
    have hn' : A'.length = n := by simpa using hn
    have e1 : ((A' ++ [x]) ++ y :: B)[n + 1]? = some y := by
      have := get_mid (A := A' ++ [x]) (y := y) (B := B)
      rw [List.length_append, hn'] at this
      exact this
    have e2 : ((A' ++ [x]) ++ y :: B)[n]? = some x := by
      rw [List.append_assoc, List.getElem?_append_right (by omega), hn', Nat.sub_self]; rfl
    have hs' := List.pairwise_append.1 hs
    unfold sink
    rw [e1, e2]
    dsimp only
    cases h1 : lt y x with
    | true =>
      simp only [if_true]
      have e3 : (((A' ++ [x]) ++ y :: B).set (n + 1) x).set n y = A' ++ y :: (x :: B) := by
        subst hn'
        rw [List.append_assoc, List.set_append_right _ _ (by omega), show A'.length + 1 - A'.length = 1 by omega]
        rw [List.set_append_right _ _ (by omega), Nat.sub_self]
        rfl
      rw [e3, sink_spec h y n A' (x :: B) hn' hs'.1, insR_snoc h1]
      simp
    | false =>
      simp only [Bool.false_eq_true, if_false]
      rw [insR_all]
      · rw [List.append_assoc (A' ++ [x]) [y] B]; rfl
      · intro a ha
        rcases List.mem_append.1 ha with ha | ha
        · exact h.nn h1 (hs'.2.2 a ha x (by simp))
        · simp at ha; subst ha; exact h1
theorem sortGo_spec (h : Ord lt) : ∀ (B S : List α), Srt lt S → sortGo lt B.length S.length (S ++ B) = B.foldl (insR lt) S
  | [], S, _ => by simp [sortGo]
  | y :: B, S, hs => by
    simp only [List.length_cons, sortGo, List.foldl_cons]
    rw [sink_spec h y S.length S B rfl hs]
    have h2 := sortGo_spec h B (insR lt S y) (hs.ins h)
    rw [insR_len] at h2
    exact h2
/-- few elements sorted by insertion, from the second on -/
theorem sortGo_eq (h : Ord lt) (l : List α) : sortGo lt (l.length - 1) 1 l = l.foldr (fun e l => insL lt l e) [] := by
  cases l with
  | nil => rfl
  | cons x l =>
    have h1 := sortGo_spec h l [x] (by simp [Srt])
    have h2 := foldl_insR h [x] l
    simp only [List.length_cons, Nat.add_sub_cancel]
    exact h1.trans h2
theorem sink_len : ∀ (n : Nat) (xs : List α), (sink lt n xs).length = xs.length
  | 0, xs => rfl
  | n + 1, xs => by
    unfold sink
    split
    · split
      · rw [sink_len n]; simp
      · rfl
    · rfl
theorem sortGo_len : ∀ (m i : Nat) (xs : List α), (sortGo lt m i xs).length = xs.length
  | 0, _, xs => rfl
  | m + 1, i, xs => by unfold sortGo; rw [sortGo_len m, sink_len]
theorem sink_step {xs : List α} {j : Nat} {x y : α} (h1 : xs[j]? = some y) (h2 : xs[j - 1]? = some x) (hj : 0 < j) (h : lt y x = true) : sink lt j xs = sink lt (j - 1) ((xs.set j x).set (j - 1) y) := by
  obtain ⟨n, rfl⟩ : ∃ n, j = n + 1 := ⟨j - 1, by omega⟩
  rw [Nat.add_sub_cancel] at h2 ⊢
  conv => lhs; unfold sink
  rw [h1, h2]
  simp [h]
theorem sink_stop {xs : List α} {j : Nat} {x y : α} (h1 : xs[j]? = some y) (h2 : xs[j - 1]? = some x) (hj : 0 < j) (h : lt y x = false) : sink lt j xs = xs := by
  obtain ⟨n, rfl⟩ : ∃ n, j = n + 1 := ⟨j - 1, by omega⟩
  rw [Nat.add_sub_cancel] at h2
  unfold sink
  rw [h1, h2]
  simp [h]
theorem sortGo_step {xs : List α} {n i : Nat} (h : i < n) : sortGo lt (n - i) i xs = sortGo lt (n - (i + 1)) (i + 1) (sink lt i xs) := by
  rw [show n - i = (n - (i + 1)) + 1 by omega]
  rfl
theorem sortGo_stop {xs : List α} {n i : Nat} (h : ¬ i < n) : sortGo lt (n - i) i xs = xs := by
  rw [show n - i = 0 by omega]
  rfl
/-- where no two differ that the order does not part -/
theorem insL_comm (h : Ord lt) (ht : ∀ a b, lt a b = false → lt b a = false → a = b) (a b : α) : ∀ l, insL lt (insL lt l a) b = insL lt (insL lt l b) a
  | [] => by
    simp only [insL]
    cases h1 : lt a b <;> cases h2 : lt b a <;> simp
    · rw [ht a b h1 h2]; simp
    · have := h.as a b h1; simp_all
  | y :: ys => by
    simp only [insL]
    cases h1 : lt y a <;> cases h2 : lt y b <;> simp only [insL, if_true, Bool.false_eq_true, if_false, h1, h2]
    · cases h3 : lt a b <;> cases h4 : lt b a <;> simp
      · rw [ht a b h3 h4]; simp
      · have := h.as a b h3; simp_all
    · have h3 : lt b a = false := by
        cases h4 : lt b a with
        | false => rfl
        | true => have := h.tr h2 h4; simp_all
      have h4 : lt a b = true := by
        rcases h.nt y a b h2 with h5 | h5
        · simp_all
        · exact h5
      simp [h3, h4, h2]
    · have h3 : lt a b = false := by
        cases h4 : lt a b with
        | false => rfl
        | true => have := h.tr h1 h4; simp_all
      have h4 : lt b a = true := by
        rcases h.nt y b a h1 with h5 | h5
        · simp_all
        · exact h5
      simp [h3, h4, h1]
    · rw [insL_comm h ht a b ys]
theorem foldl_insL (h : Ord lt) (ht : ∀ a b, lt a b = false → lt b a = false → a = b) : ∀ (l s : List α), l.foldl (insL lt) s = l.foldr (fun e l => insL lt l e) s
  | [], s => rfl
  | x :: l, s => by
    rw [List.foldl_cons, foldl_insL h ht l]
    have key : ∀ l : List α, l.foldr (fun e l => insL lt l e) (insL lt s x) = insL lt (l.foldr (fun e l => insL lt l e) s) x := by
      intro l
      induction l with
      | nil => rfl
      | cons y l ih => simp only [List.foldr_cons]; rw [ih, insL_comm h ht]
    rw [key]
    rfl
end
/-! ### The two orders -/
def cmpI (x y : Int) : Int := if x < y then -1 else if x > y then 1 else 0
def cmpEntry (a b : Entry) : Int := if cmpI a.level b.level ≠ 0 then cmpI a.level b.level else cmpI a.turn b.turn
def cmpPin (a b : Pin) : Int := if cmpI a.at' b.at' ≠ 0 then cmpI a.at' b.at' else cmpI a.id b.id
theorem cmpEntry_lt (a b : Entry) : decide (cmpEntry a b < 0) = entryLess a b := by
  rw [Bool.eq_iff_iff]
  simp only [cmpEntry, cmpI, entryLess, decide_eq_true_eq, Bool.or_eq_true, Bool.and_eq_true, beq_iff_eq]
  split <;> (repeat' split) <;> simp_all <;> omega
theorem cmpPin_lt (a b : Pin) : decide (cmpPin a b < 0) = pinLess a b := by
  rw [Bool.eq_iff_iff]
  simp only [cmpPin, cmpI, pinLess, decide_eq_true_eq, Bool.or_eq_true, Bool.and_eq_true, beq_iff_eq]
  split <;> (repeat' split) <;> simp_all <;> omega
theorem cmpPin_gt (a b : Pin) : decide (cmpPin a b > 0) = pinLess b a := by
  rw [Bool.eq_iff_iff]
  simp only [cmpPin, cmpI, pinLess, decide_eq_true_eq, Bool.or_eq_true, Bool.and_eq_true, beq_iff_eq]
  split <;> (repeat' split) <;> simp_all <;> omega
theorem entryOrd : Ord entryLess := ⟨fun a b h => by
  simp only [entryLess, Bool.or_eq_true, Bool.and_eq_true, decide_eq_true_eq, beq_iff_eq, Bool.or_eq_false_iff, Bool.and_eq_false_iff, decide_eq_false_iff_not, beq_eq_false_iff_ne] at h ⊢; omega, fun a b c h => by
  simp only [entryLess, Bool.or_eq_true, Bool.and_eq_true, decide_eq_true_eq, beq_iff_eq] at h ⊢; omega⟩
theorem pinOrd : Ord pinLess := ⟨fun a b h => by
  simp only [pinLess, Bool.or_eq_true, Bool.and_eq_true, decide_eq_true_eq, beq_iff_eq, Bool.or_eq_false_iff, Bool.and_eq_false_iff, decide_eq_false_iff_not, beq_eq_false_iff_ne] at h ⊢; omega, fun a b c h => by
  simp only [pinLess, Bool.or_eq_true, Bool.and_eq_true, decide_eq_true_eq, beq_iff_eq] at h ⊢; omega⟩
theorem pinTot (a b : Pin) (h1 : pinLess a b = false) (h2 : pinLess b a = false) : a = b := by
  obtain ⟨a1, a2⟩ := a
  obtain ⟨b1, b2⟩ := b
  simp only [pinLess, Bool.or_eq_false_iff, Bool.and_eq_false_iff, decide_eq_false_iff_not, beq_eq_false_iff_ne] at h1 h2
  simp only [Pin.mk.injEq]
  omega
theorem qIns_eq : ∀ (l : List Entry) (e : Entry), qIns l e = insL entryLess l e
  | [], e => rfl
  | y :: ys, e => by simp only [qIns, insL, qIns_eq ys e]
theorem pIns_eq : ∀ (l : List Pin) (e : Pin), pIns l e = insL pinLess l e
  | [], e => rfl
  | y :: ys, e => by simp only [pIns, insL, pIns_eq ys e]
theorem pIns_eq' : pIns = insL pinLess := funext fun l => funext fun e => pIns_eq l e
/-- the impl's way: collect, then sort -/
def queueRaw (r : Rules) : List Party → Int → Int → List Entry
  | [], _, _ => []
  | p :: ps, cabin, now => if entryOk r p now && p.cabin == cabin then entryOf r p now :: queueRaw r ps cabin now else queueRaw r ps cabin now
theorem queueOf_raw (r : Rules) (cabin now : Int) : ∀ list : List Party, queueOf r list cabin now = (queueRaw r list cabin now).foldr (fun e l => insL entryLess l e) []
  | [] => rfl
  | p :: ps => by
    unfold queueOf queueRaw
    split
    · rw [List.foldr_cons, qIns_eq, queueOf_raw r cabin now ps]
    · exact queueOf_raw r cabin now ps
theorem queue_sorted (r : Rules) (list : List Party) (cabin now : Int) : sortGo entryLess ((queueRaw r list cabin now).length - 1) 1 (queueRaw r list cabin now) = queueOf r list cabin now := by
  rw [sortGo_eq entryOrd, queueOf_raw]
def pinsRaw : List Party → Int → List Pin
  | [], _ => []
  | p :: ps, cabin => if p.state == 2 && p.cabin == cabin then ⟨p.until', p.id⟩ :: pinsRaw ps cabin else pinsRaw ps cabin
theorem pinsGo_raw (cabin : Int) : ∀ (list : List Party) (out : List Pin), pinsGo list cabin out = (pinsRaw list cabin).foldl (insL pinLess) out
  | [], out => rfl
  | p :: ps, out => by
    unfold pinsGo pinsRaw
    rw [pinsGo_raw cabin ps]
    split
    · rw [List.foldl_cons, pIns_eq]
    · rfl
theorem pins_sorted (list : List Party) (cabin : Int) : sortGo pinLess ((pinsRaw list cabin).length - 1) 1 (pinsRaw list cabin) = pinsGo list cabin [] := by
  rw [sortGo_eq pinOrd, pinsGo_raw, foldl_insL pinOrd pinTot]
theorem pinsSort_sorted (l : List Pin) : sortGo pinLess (l.length - 1) 1 l = pinsSort l := by
  rw [sortGo_eq pinOrd, pinsSort, pIns_eq', foldl_insL pinOrd pinTot]
/-! ### How many there are -/
theorem queueRaw_len (r : Rules) (cabin now : Int) : ∀ (list : List Party) (n : Int), 0 ≤ n → n + list.length ≤ 9223372036854775807 → n + (queueRaw r list cabin now).length ≤ countGo list cabin n
  | [], n, _, _ => by simp [queueRaw, countGo]
  | p :: ps, n, h, hl => by
    unfold countGo queueRaw
    simp only [List.length_cons] at hl
    by_cases hc : p.cabin = cabin
    · rw [show (if (p.cabin == cabin) = true then wr (n + 1) else n) = n + 1 by rw [if_pos (by simpa using hc), wr_of (by omega) (by omega)]]
      have := queueRaw_len r cabin now ps (n + 1) (by omega) (by omega)
      split
      · simp only [List.length_cons]; omega
      · omega
    · rw [show (if (p.cabin == cabin) = true then wr (n + 1) else n) = n from if_neg (by simpa using hc), if_neg (by simp [hc])]
      exact queueRaw_len r cabin now ps n h (by omega)
theorem pinsRaw_len (cabin : Int) : ∀ (list : List Party) (n : Int), 0 ≤ n → n + list.length ≤ 9223372036854775807 → n + (pinsRaw list cabin).length ≤ countGo list cabin n
  | [], n, _, _ => by simp [pinsRaw, countGo]
  | p :: ps, n, h, hl => by
    unfold countGo pinsRaw
    simp only [List.length_cons] at hl
    by_cases hc : p.cabin = cabin
    · rw [show (if (p.cabin == cabin) = true then wr (n + 1) else n) = n + 1 by rw [if_pos (by simpa using hc), wr_of (by omega) (by omega)]]
      have := pinsRaw_len cabin ps (n + 1) (by omega) (by omega)
      split
      · simp only [List.length_cons]; omega
      · omega
    · rw [show (if (p.cabin == cabin) = true then wr (n + 1) else n) = n from if_neg (by simpa using hc), if_neg (by simp [hc])]
      exact pinsRaw_len cabin ps n h (by omega)
/-! ### The first of which something holds -/
def idxF {α : Type} (q : α → Bool) : List α → Nat → Int
  | [], _ => -1
  | e :: es, k => if q e then (k : Int) else idxF q es (k + 1)
theorem idxF_none {α : Type} {q : α → Bool} : ∀ (l : List α) (k : Nat), (idxF q l k = -1 ↔ ∀ e ∈ l, q e = false) ∧ (idxF q l k = -1 ∨ 0 ≤ idxF q l k)
  | [], k => ⟨⟨fun _ e h => absurd h List.not_mem_nil, fun _ => rfl⟩, .inl rfl⟩
  | e :: es, k => by
    unfold idxF
    obtain ⟨h1, h2⟩ := idxF_none (q := q) es (k + 1)
    cases hq : q e with
    | true => simp only [if_true]; exact ⟨⟨fun h => by omega, fun h => by have := h e (by simp); simp_all⟩, .inr (by omega)⟩
    | false =>
      simp only [Bool.false_eq_true, if_false]
      refine ⟨h1.trans ⟨fun h x hx => ?_, fun h x hx => h x (by simp [hx])⟩, h2⟩
      rcases List.mem_cons.1 hx with rfl | hx
      · exact hq
      · exact h x hx
theorem idxF_lt {α : Type} {q : α → Bool} : ∀ (l : List α) (k : Nat), idxF q l k < (k : Int) + l.length ∨ idxF q l k = -1
  | [], k => .inr rfl
  | e :: es, k => by
    unfold idxF
    have h := idxF_lt (q := q) es (k + 1)
    simp only [List.length_cons]
    split <;> omega
theorem idxF_any {α : Type} (q : α → Bool) (l : List α) : decide (idxF q l 0 ≥ 0) = l.any q := by
  obtain ⟨h1, h2⟩ := idxF_none (q := q) l 0
  rw [Bool.eq_iff_iff]
  simp only [decide_eq_true_eq, List.any_eq_true]
  constructor
  · intro h
    rcases Classical.em (∃ x, x ∈ l ∧ q x = true) with h3 | h3
    · exact h3
    · have := h1.2 fun e he => by
        cases hq : q e with
        | false => rfl
        | true => exact absurd ⟨e, he, hq⟩ h3
      omega
  · rintro ⟨x, hx, hq⟩
    rcases h2 with h2 | h2
    · have := h1.1 h2 x hx; simp_all
    · exact h2
theorem queueAt_idx (id : Int) : ∀ (l : List Entry) (k : Nat), queueAt l id k = idxF (fun e => e.id == id) l k
  | [], k => rfl
  | e :: es, k => by simp only [queueAt, idxF, queueAt_idx id es (k + 1)]
/-! ### Levels, the other way -/
def levelI (r : Rules) (tier waited : Int) : Int := if rulesOk r && inB tier 0 (wr (r.tiers - 1)) && !decide (waited < 0) then levelAt r tier waited else -1
theorem levelAt_nn (r : Rules) (tier waited : Int) : 0 ≤ levelAt r tier waited := by unfold levelAt; split <;> omega
theorem levelAt_max {r : Rules} {tier waited : Int} : (if wr (tier - wr (Int.tdiv waited r.period)) > 0 then wr (tier - wr (Int.tdiv waited r.period)) else 0) = levelAt r tier waited := by
  unfold levelAt; split <;> split <;> omega
theorem levelI_of {r : Rules} {p : Party} {now : Int} (h : partyOk r p now = true) : levelI r p.tier (wr (now - p.since)) = levelAt r p.tier (wr (now - p.since)) := by
  have h9 := h
  simp only [partyOk, Bool.and_eq_true] at h9
  obtain ⟨⟨⟨⟨⟨⟨⟨⟨⟨⟨⟨h1, h2⟩, _⟩, _⟩, _⟩, _⟩, _⟩, h3⟩, h4⟩, _⟩, _⟩, _⟩ := h9
  have h5 : ¬ wr (now - p.since) < 0 := by
    simp only [inB, Bool.and_eq_true, decide_eq_true_eq] at h2 h4
    rw [wr_of (by omega) (by omega)]; omega
  rw [levelI, if_pos]
  simp [h1, h3, h5]
theorem levelOf_neg (r : Rules) (p : Party) (now : Int) : decide (levelOf r p now < 0) = !partyOk r p now := by
  unfold levelOf
  have := levelAt_nn r p.tier (wr (now - p.since))
  cases h : partyOk r p now with
  | true => simp only [if_true, Bool.not_true, decide_eq_false_iff_not]; omega
  | false => simp
theorem entryOk_iff (r : Rules) (p : Party) (now : Int) : entryOk r p now = (partyOk r p now && p.state == 1) := by simp [entryOk, levelOf_neg]
set_option maxRecDepth 10000 in
def len8tab : List UInt8 := [0, 1, 2, 2, 3, 3, 3, 3, 4, 4, 4, 4, 4, 4, 4, 4, 5, 5, 5, 5, 5, 5, 5, 5, 5, 5, 5, 5, 5, 5, 5, 5, 6, 6, 6, 6, 6, 6, 6, 6, 6, 6, 6, 6, 6, 6, 6, 6, 6, 6, 6, 6, 6, 6, 6, 6, 6, 6, 6, 6, 6, 6, 6, 6, 7, 7, 7, 7, 7, 7, 7, 7, 7, 7, 7, 7, 7, 7, 7, 7, 7, 7, 7, 7, 7, 7, 7, 7, 7, 7, 7, 7, 7, 7, 7, 7, 7, 7, 7, 7, 7, 7, 7, 7, 7, 7, 7, 7, 7, 7, 7, 7, 7, 7, 7, 7, 7, 7, 7, 7, 7, 7, 7, 7, 7, 7, 7, 7, 8, 8, 8, 8, 8, 8, 8, 8, 8, 8, 8, 8, 8, 8, 8, 8, 8, 8, 8, 8, 8, 8, 8, 8, 8, 8, 8, 8, 8, 8, 8, 8, 8, 8, 8, 8, 8, 8, 8, 8, 8, 8, 8, 8, 8, 8, 8, 8, 8, 8, 8, 8, 8, 8, 8, 8, 8, 8, 8, 8, 8, 8, 8, 8, 8, 8, 8, 8, 8, 8, 8, 8, 8, 8, 8, 8, 8, 8, 8, 8, 8, 8, 8, 8, 8, 8, 8, 8, 8, 8, 8, 8, 8, 8, 8, 8, 8, 8, 8, 8, 8, 8, 8, 8, 8, 8, 8, 8, 8, 8, 8, 8, 8, 8, 8, 8, 8, 8, 8, 8, 8, 8, 8, 8, 8, 8, 8, 8]
theorem len8_len : len8tab.length = 256 := by decide +kernel
theorem sameRow_ne {a b : List Entry} (h : a.length ≠ b.length) : sameRow a b = false := by
  cases hs : sameRow a b with
  | false => rfl
  | true => rw [(sameRow_iff a b).1 hs] at h; exact absurd rfl h
theorem samePins_ne {a b : List Pin} (h : a.length ≠ b.length) : samePins a b = false := by
  cases hs : samePins a b with
  | false => rfl
  | true => rw [(samePins_iff a b).1 hs] at h; exact absurd rfl h
end SX
end Go.Proofs.YtejojcoaohlfbaaGreat
/- Rows and wheels: what the two ways of asking come to, in plain Lean. It imports no program. -/
namespace Go.Proofs.YtejojcoaohlfbaaGreat
namespace SX
set_option linter.unusedVariables false
set_option linter.unusedSimpArgs false
open Go Go.RowKit
theorem take_get {α : Type} {l : List α} {k j : Nat} {x : α} (h : (l.take k)[j]? = some x) : j < k ∧ l[j]? = some x := by
  rw [List.getElem?_take] at h
  split at h
  · exact ⟨by assumption, h⟩
  · cases h
theorem get_take {α : Type} {l : List α} {k j : Nat} {x : α} (hj : j < k) (h : l[j]? = some x) : x ∈ l.take k := by
  refine List.mem_of_getElem? (i := j) ?_
  rw [List.getElem?_take, if_pos hj]; exact h
theorem queueAt_t {l : List Entry} {k : Nat} {id : Int} (h : queueAt (l.take k) id 0 ≥ 0) : ∃ j e, j < k ∧ l[j]? = some e ∧ e.id = id := by
  rcases queueAt_spec (l.take k) id 0 with ⟨h1, _⟩ | ⟨i, e, h1, h2, h3, h4⟩
  · omega
  · obtain ⟨h5, h6⟩ := take_get h1
    exact ⟨i, e, h5, h6, h2⟩
theorem queueAt_n {l : List Entry} {k : Nat} {id : Int} (h : ¬ queueAt (l.take k) id 0 ≥ 0) : ∀ (j : Nat) (e : Entry), j < k → l[j]? = some e → e.id ≠ id := by
  intro j e hj he
  rcases queueAt_spec (l.take k) id 0 with ⟨_, h2⟩ | ⟨i, e', h1, h2, h3, h4⟩
  · exact h2 e (get_take hj he)
  · omega
theorem queueAt_at {l : List Entry} {k : Nat} {e : Entry} (hk : l[k]? = some e) : queueAt l e.id 0 = k ↔ ∀ (j : Nat) (y : Entry), j < k → l[j]? = some y → y.id ≠ e.id := by
  rcases queueAt_spec l e.id 0 with ⟨_, h2⟩ | ⟨i, e', h1, h2, h3, h4⟩
  · exact absurd rfl (h2 e (List.mem_of_getElem? hk))
  · rw [h3]
    constructor
    · intro h
      have : i = k := by omega
      subst this; exact h4
    · intro h
      have h5 : ¬ i < k := fun hlt => h i e' hlt h1 h2
      have h6 : ¬ k < i := fun hlt => h4 k e hlt hk rfl
      omega
/-! ### Keys -/
def keysOf (l : List Pin) (ks : List Int) : List Int := l.foldl (fun ks p => insK ks p.id) ks
theorem keysOf_snoc (l : List Pin) (p : Pin) (ks : List Int) : keysOf (l ++ [p]) ks = insK (keysOf l ks) p.id := by simp [keysOf]
theorem keysOf_len : ∀ (l : List Pin) (ks : List Int), (keysOf l ks).length ≤ ks.length + l.length
  | [], ks => by simp [keysOf]
  | p :: l, ks => by
    have := keysOf_len l (insK ks p.id)
    have h2 : (insK ks p.id).length ≤ ks.length + 1 := by unfold insK; split <;> simp
    simp only [keysOf, List.foldl_cons, List.length_cons] at *
    omega
theorem keysOf_iff : ∀ (l : List Pin) (ks : List Int), (keysOf l ks).length = ks.length + l.length ↔ (l.map (·.id)).Nodup ∧ ∀ p ∈ l, p.id ∉ ks
  | [], ks => by simp [keysOf]
  | p :: l, ks => by
    have ih := keysOf_iff l (insK ks p.id)
    have hle := keysOf_len l (insK ks p.id)
    have hun : keysOf (p :: l) ks = keysOf l (insK ks p.id) := rfl
    rw [hun]
    by_cases hp : p.id ∈ ks
    · have h2 : (insK ks p.id).length = ks.length := by rw [insK, if_pos hp]
      simp only [List.length_cons]
      constructor
      · intro h; omega
      · rintro ⟨_, h⟩; exact absurd hp (h p (by simp))
    · have h2 : (insK ks p.id).length = ks.length + 1 := by rw [insK, if_neg hp]; simp
      rw [h2] at ih hle
      simp only [List.length_cons, List.map_cons, List.nodup_cons]
      rw [show ks.length + (l.length + 1) = ks.length + 1 + l.length by omega, ih]
      have hm : ∀ x, x ∈ insK ks p.id ↔ x ∈ ks ∨ x = p.id := by intro x; rw [insK, if_neg hp]; simp
      constructor
      · rintro ⟨h3, h4⟩
        refine ⟨⟨fun hin => ?_, h3⟩, fun q hq => ?_⟩
        · obtain ⟨q, hq, hqe⟩ := List.mem_map.1 hin
          exact h4 q hq ((hm _).2 (.inr hqe))
        · rcases List.mem_cons.1 hq with rfl | hq
          · exact hp
          · exact fun hk => h4 q hq ((hm _).2 (.inl hk))
      · rintro ⟨⟨h3, h4⟩, h5⟩
        refine ⟨h4, fun q hq hk => ?_⟩
        rcases (hm _).1 hk with hk | hk
        · exact h5 q (by simp [hq]) hk
        · exact h3 (List.mem_map.2 ⟨q, hq, hk⟩)
theorem keysOf_nodup (l : List Pin) : (keysOf l []).length = l.length ↔ (l.map (·.id)).Nodup := by
  have := keysOf_iff l []
  simpa using this
/-! ### Wheels -/
def SpokeW (i : Nat) (l : List Pin) (n : Nat) : Prop := ∀ (m : Nat) (x : Pin), m < n → l[m]? = some x → PinR x ∧ Int.tmod x.at' 9 = (i : Int) ∧ (0 < m → ∀ y, l[m - 1]? = some y → pinLess x y = false)
theorem spokeP_of {i : Nat} {l : List Pin} (hw : SpokeW i l l.length) (hn : (l.map (·.id)).Nodup) : SpokeP i l := by
  intro m x hx
  have hm : m < l.length := (List.getElem?_eq_some_iff.1 hx).1
  obtain ⟨_, h1, h2⟩ := hw m x hm hx
  refine ⟨h1, fun h0 y hy => ?_⟩
  have h3 := h2 h0 y hy
  cases h4 : pinLess y x with
  | true => rfl
  | false =>
    have h5 := pinTot x y h3 h4
    exact absurd hn (ids_no (i := m - 1) (j := m) (by omega) hy hx (by rw [h5]))
theorem spokeW_of {i : Nat} {l : List Pin} (hp : SpokeP i l) (hr : ∀ p ∈ l, PinR p) (n : Nat) : SpokeW i l n := fun m x _ hx =>
  ⟨hr x (List.mem_of_getElem? hx), (hp m x hx).1, fun h0 y hy => pinOrd.as _ _ ((hp m x hx).2 h0 y hy)⟩
theorem nodup_spoke {wh : Wheel} (hn : (wh.spoke.flatten.map (·.id)).Nodup) {i : Nat} {l : List Pin} (hl : wh.spoke[i]? = some l) : (l.map (·.id)).Nodup := by
  refine hn.sublist (List.Sublist.map _ ?_)
  exact List.sublist_flatten_of_mem (List.mem_of_getElem? hl)
theorem wheelP_weak {wh : Wheel} : WheelP wh ↔ wh.spoke.length = 9 ∧ (∀ (i : Nat) (l : List Pin), i < wh.spoke.length → wh.spoke[i]? = some l → SpokeW i l l.length) ∧ wh.spoke.flatten.length ≤ 10 ∧ (keysOf wh.spoke.flatten []).length = wh.spoke.flatten.length := by
  rw [keysOf_nodup]
  constructor
  · rintro ⟨h1, h2, h3, h4, h5⟩
    exact ⟨h1, fun i l _ hl => spokeW_of (h5 i l hl) (fun p hp => h3 p (List.mem_flatten.2 ⟨l, List.mem_of_getElem? hl, hp⟩)) _, h2, h4⟩
  · rintro ⟨h1, h2, h3, h4⟩
    refine ⟨h1, h3, fun p hp => ?_, h4, fun i l hl => spokeP_of (h2 i l (List.getElem?_eq_some_iff.1 hl).1 hl) (nodup_spoke h4 hl)⟩
    obtain ⟨l, hl, hpl⟩ := List.mem_flatten.1 hp
    obtain ⟨i, hi⟩ := List.mem_iff_getElem?.1 hl
    obtain ⟨m, hm⟩ := List.mem_iff_getElem?.1 hpl
    exact (h2 i l (List.getElem?_eq_some_iff.1 hi).1 hi m p (List.getElem?_eq_some_iff.1 hm).1 hm).1
theorem flat_take {α : Type} {xss : List (List α)} {k : Nat} {x : List α} (h : xss[k]? = some x) : (xss.take (k + 1)).flatten = (xss.take k).flatten ++ x := by
  rw [List.take_add_one, h]; simp
theorem flat_take_le {α : Type} (xss : List (List α)) (k : Nat) : (xss.take k).flatten.length ≤ xss.flatten.length := by
  have : xss.flatten = (xss.take k).flatten ++ (xss.drop k).flatten := by rw [← List.flatten_append, List.take_append_drop]
  rw [this, List.length_append]; omega
theorem flat_take_le2 {α : Type} {xss : List (List α)} {k : Nat} {x : List α} (h : xss[k]? = some x) : (xss.take k).flatten.length + x.length ≤ xss.flatten.length := by
  have := flat_take_le xss (k + 1)
  rw [flat_take h, List.length_append] at this; exact this
theorem wheelOk_eq {wh : Wheel} {b : Bool} (h : b = true ↔ WheelP wh) : b = wheelOk wh := by
  cases b with
  | true => exact (wheelOk_t (h.1 rfl)).symm
  | false => exact (wheelOk_f fun hw => by cases h.2 hw).symm
/-! ### Houses -/
open Classical in
noncomputable def partiesOk (h : House) : Bool := decide (PartiesP h)
open Classical in
noncomputable def jobsOk (h : House) : Bool := decide (JobsP h)
noncomputable def hasCab (h : House) (cabin : Int) : Bool := houseOk h && inB cabin 0 (wr (h.cabins.length - 1))
end SX
end Go.Proofs.YtejojcoaohlfbaaGreat
/- What the laws do with a house: copy it, mark it, compare it, weigh it; in plain Lean. It imports no program. -/
namespace Go.Proofs.YtejojcoaohlfbaaGreat
namespace SX
set_option linter.unusedVariables false
set_option linter.unusedSimpArgs false
open Go Go.RowKit
/-! ### Elements that hold slices -/
theorem nestRepN {α : Type} {e e' : TypeId} {L : Lay α} {a : Option Addr} {n c : Nat} {x : List α} : ∀ w fps, holds w [slA e L (.slice a n c) x] fps → (sl e L).rep true w [.slice a n c] x fps.flatten := by
  intro w fps h
  match fps, h with
  | [f], ⟨h1, _⟩ =>
    have hn := (SlO.lenE ⟨f, h1⟩).1
    subst hn
    exact ⟨a, c, rfl, by simp only [if_true, List.flatten_cons, List.flatten_nil, List.append_nil]; exact h1⟩
theorem cabinRepN {e1 e2 e3 : TypeId} {c : Cabin} {a1 a2 : Option Addr} {n1 n2 c1 c2 : Nat} : ∀ w fps, holds w [slA e1 entryL (.slice a1 n1 c1) c.row, slA e2 (sl e3 pinL) (.slice a2 n2 c2) c.wheel.spoke] fps →
    (cabinLx e1 e2 e3).rep true w [vi c.seats.total, vi c.seats.free, vi c.seats.held, vi c.seats.sold, vi c.seats.tied, .slice a1 n1 c1, .slice a2 n2 c2] c fps.flatten := by
  intro w fps h
  match fps, h with
  | [f1, f2], ⟨h1, h2, _⟩ =>
    have hn1 := (SlO.lenE ⟨f1, h1⟩).1
    have hn2 := (SlO.lenE ⟨f2, h2⟩).1
    subst hn1; subst hn2
    exact cabinRep w [f1, f2] ⟨h1, h2, trivial⟩
theorem cabinHun {e1 e2 e3 : TypeId} {x : Cabin} : ∀ w cs f, (cabinLx e1 e2 e3).rep true w cs x f → ∃ (i : HH × HH) (fps : List (List Nat)), cs = [vi x.seats.total, vi x.seats.free, vi x.seats.held, vi x.seats.sold, vi x.seats.tied, .slice i.1.1 x.row.length i.1.2, .slice i.2.1 x.wheel.spoke.length i.2.2] ∧
    holds w [slA e1 entryL (.slice i.1.1 x.row.length i.1.2) x.row, slA e2 (sl e3 pinL) (.slice i.2.1 x.wheel.spoke.length i.2.2) x.wheel.spoke] fps ∧ fps.flatten = f := by
  rintro w cs f ⟨d1, d2, f1, f2, rfl, rfl, ⟨rfl, rfl⟩, d3, d4, f3, f4, rfl, rfl, ⟨a1, c1, rfl, h1⟩, ⟨a2, c2, rfl, h2⟩⟩
  simp only [if_true] at h1 h2
  exact ⟨((a1, c1), (a2, c2)), [f3, f4], rfl, ⟨h1, h2, trivial⟩, by simp⟩
/-! ### Marks -/
/-! ### Sizes -/
def CabinSz (c : Cabin) : Prop := c.row.length ≤ 1048576 ∧ c.wheel.spoke.length ≤ 1048576 ∧ c.wheel.spoke.flatten.length ≤ 1048576
def HouseSz (h : House) : Prop := h.rules.seats.length ≤ 1048576 ∧ h.parties.length ≤ 1048576 ∧ h.cabins.length ≤ 1048576 ∧ h.todo.length ≤ 1048576 ∧ h.jobs.length ≤ 1048576 ∧ ∀ c ∈ h.cabins, CabinSz c
/-! ### Comparing -/
end SX
end Go.Proofs.YtejojcoaohlfbaaGreat
