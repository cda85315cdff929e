/- The laws' small parts: a byte, how often a number stands, rows. -/
import Derived.Test.YtejojcoaohlfbaaGreatA9
import Derived.Test.YtejojcoaohlfbaaGreatMdc2
import Derived.Test.YtejojcoaohlfbaaGreatSx9
import Derived.Test.YtejojcoaohlfbaaGreatMdly
import Derived.Test.YtejojcoaohlfbaaGreatMdlm
namespace Go.Proofs.YtejojcoaohlfbaaGreat
namespace SX
open Go Go.RowKit
set_option linter.unusedVariables false
set_option linter.unusedSimpArgs false
set_option maxRecDepth 10000
set_option maxHeartbeats 1000000
attribute [local irreducible] CD DN OPL AT QL QT CND RETG BKP HL HT HO slA slHo slP ptC pull pulls
instance zdN : HC 151 (∀ (W : World) (a b : Int),Sp W [] 151 #[vi a, vi b] (RV (vi (if a < b then a else b)))) := by
 refine ⟨fun W a b => gENT (vs := [_, _]) Tryz.func151 ?_⟩
 repeat' first | refine ST ?_ | intro _ | apply And.intro
 all_goals simp [*]
end SX
end Go.Proofs.YtejojcoaohlfbaaGreat
namespace Go.Proofs.YtejojcoaohlfbaaGreat
namespace SX
set_option linter.unusedVariables false
set_option linter.unusedSimpArgs false
open Go Go.RowKit
section rules
variable {X : List Nat} {P : Program} {N : Nat} {W : World} {S0 : List Nat} {Q : Exit → Go.Act → World → Prop} {T : Tm} {L : Bx} {C : List Ass} {ops : Array Oper} {Kn : List (Nat × Nat)} {i : Nat}
end rules
section rules
variable {X : List Nat} {P : Program} {N : Nat} {W : World} {S0 : List Nat} {Q : Exit → Go.Act → World → Prop} {T T1 : Tm} {L L1 : Bx} {C C1 : List Ass}
def JT9 {α : Type} (U : α → Tm) (T : Tm) (x : α) : Tm := U x ++ T
end rules
def zJ (p : Prop) : Prop := p
theorem zak {p : Prop} (h : zJ p) : p := h
section rules
variable {X : List Nat} {P : Program} {N : Nat} {W : World} {S0 : List Nat} {Q : Exit → Go.Act → World → Prop} {T T1 : Tm} {L L1 : Bx} {C C1 : List Ass}
def JS9 (N : Nat) (W : World) (S0 : List Nat) {α : Type} (Tf : α → Tm) (Lf : α → Bx) (Cf : α → List Ass) (Inv : α → Prop) : Go.Act → World → Prop := fun a w => ∃ x, Inv x ∧ Sat N W S0 (Tf x) (Lf x) (Cf x) a w
def JC9 {α : Type} (C0 : List Ass) (O : α → List Ass) (x : α) : List Ass := C0 ++ O x
theorem zd1 {α : Type} {U : α → Tm} {Lf : α → Bx} {Inv : α → Prop} {O : α → List Ass} {C0 R R2 : List Ass} {js js2 : List Nat} (ks : List Nat) (x' : α) (hU : keep T1 ks = some (U x') := by conv => lhs; whnf) (hp : pulls js C1 = some (O x', R)) (hp2 : pulls js2 R = some (C0, R2)) (h : Inv x')
 (hT : keep T1 ((JT9 U T x').map (·.1)) = keep (JT9 U T x') ((JT9 U T x').map (·.1)) := by kernel_rfl) (hn : boundedB (Lf x').length (JT9 U T x') = true := by kernel_rfl) (hL : L1.take (Lf x').length = Lf x' := by kernel_rfl) : DN X N W S0 (Exit.then (JS9 N W S0 (JT9 U T) Lf (JC9 C0 O) Inv) Q) .normal T1 L1 C1 := by
 unfold DN
 intro aa w hs
 have hperm : C1.Perm ((C0 ++ O x') ++ R2) := by
  refine (pulls_perm hp).trans ?_
  refine ((pulls_perm hp2).append_left _).trans ?_
  rw [← List.append_assoc]
  exact List.perm_append_comm.append_right R2
 have h1 := hs.turn (T1 := T1) (fun _ => rfl) id rfl hperm
 exact ⟨x', h, h1.into (js := zeros (C0 ++ O x')) (R := R2) hT hn hL (pulls_zeros _ _)⟩
theorem zd0 {α : Type} {Tf : α → Tm} {Lf : α → Bx} {Cf : α → List Ass} {Inv : α → Prop} (k : DN X N W S0 (Exit.then (JS9 N W S0 Tf Lf Cf Inv) Q) .normal T L C) : DN X N W S0 (Exit.then (JS9 N W S0 Tf Lf Cf Inv) Q) .normal T L C := k
variable {ops : Array Oper} {Kn : List (Nat × Nat)} {i : Nat} {bs : List Nat} {L0 : Bx} {Ks : Keys} {T0 : Tm} {f : Nat} {Ls : List Nat} {la : Array Bool}
end rules
section rules
variable {X : List Nat} {P : Program} {N : Nat} {W : World} {S0 : List Nat} {Q : Exit → Go.Act → World → Prop} {T T1 : Tm} {L L1 : Bx} {C C1 : List Ass}
variable {ops : Array Oper} {Kn : List (Nat × Nat)} {i : Nat}
theorem gJX {ops : Array Oper} {q : Bool} {y : Code} {α : Type} (r : Nat) (U : α → Tm) (Lf : α → Bx) (O : α → List Ass) (Inv : α → Prop)
 (k1 : CD X P N W S0 (.region r ops q) (Exit.then (JS9 N W S0 (JT9 U T) Lf (JC9 C O) Inv) Q) T L C) (k2 : ∀ z, Inv z → CD X P N W S0 y Q (U z ++ T) (Lf z) (C ++ O z)) : CD X P N W S0 (.seq (.region r ops q) y) Q T L C := by
 unfold CD at *
 exact zdU (JT9 U T) Lf (JC9 C O) Inv k1 k2
theorem zcC {ops : Array Oper} {q : Bool} {y : Code} (r : Nat) (k : CD X P N W S0 (.seq (.region r ops q) y) Q T L C) : CD X P N W S0 (.seq (.region r ops q) y) Q T L C := k
theorem zdW {e : Exit} {A : Ass} {R : List Ass} {j : Nat} (hp : pull j C = some (A, R)) (k : DN X N W S0 Q e T L R) (hn : boundedB L.length T = true := by kernel_rfl) : DN X N W S0 Q e T L C := by
 unfold DN at *
 intro aa w hs
 have hperm : C.Perm (R ++ [A]) := (pulls_perm (js := [j]) (show pulls [j] C = some ([A], R) by simp [pulls, hp])).trans List.perm_append_comm
 have h1 := hs.turn (T1 := T) (fun _ => rfl) id rfl hperm
 exact k aa w (h1.into (js := zeros R) (R := [A]) rfl hn List.take_length (pulls_zeros _ _))
theorem zdT {c : Code} {a : Option Addr} {n cap j : Nat} {e : TypeId} {α : Type} {La : Lay α} {xs : List α} (hC : C[j]? = some (slA e La (.slice a n cap) xs) := by exact NT) (k : n = xs.length ∧ xs.length ≤ 9223372036854775807 → CD X P N W S0 c Q T L C) : CD X P N W S0 c Q T L C := by
 unfold CD at *
 exact FACT (n = xs.length ∧ xs.length ≤ 9223372036854775807) (fun w hw => SlO.lenE (hw.own j hC)) k
theorem cKP {c : Code} {O R : List Ass} {js : List Nat} (hp : pulls js C = some (O, R)) (k : CD X P N W S0 c Q T L O) (hn : boundedB L.length T = true := by kernel_rfl) : CD X P N W S0 c Q T L C := by
 unfold CD at *
 intro aa w hs
 have h1 := hs.turn (T1 := T) (fun _ => rfl) id rfl (pulls_perm hp)
 exact k aa w (h1.into (js := zeros O) (R := R) rfl hn List.take_length (pulls_zeros _ _))
end rules
set_option maxRecDepth 10000
set_option maxHeartbeats 1000000
attribute [local irreducible] CD DN OPL AT QL QT CND RETG BKP HL HT HO slA slHo slP ptC pull pulls curO keepA RWk IsCur
abbrev cuA (d : Kd) (p : Value) : Ass := curO d 191 p
abbrev WI (P : Int → Prop) (O : List Ass) : Res := RWk (α := Int) (ι := Unit) P (fun x _ => vi x) (fun _ _ => []) O
abbrev WB (O : List Ass) : Res := RWk (α := Bool) (ι := Unit) (fun _ => True) (fun x _ => .bool x) (fun _ _ => []) O
abbrev zcb (O : List Ass) : Res := RWk (α := Party) (ι := Unit) (fun _ => True) (fun x _ => .agg (partyE x).toArray) (fun _ _ => []) O
abbrev zc5 (O : List Ass) : Res := RWk (α := Entry) (ι := Unit) (fun _ => True) (fun x _ => .agg (entryE x).toArray) (fun _ _ => []) O
abbrev zdZ (O : List Ass) : Res := RWk (α := Pin) (ι := Unit) (fun _ => True) (fun x _ => .agg (pinE x).toArray) (fun _ _ => []) O
abbrev zdB (O : List Ass) : Res := RWk (α := Ledger) (ι := Unit) (fun _ => True) (fun x _ => .agg (ledgerE x).toArray) (fun _ _ => []) O
abbrev WRu (P : Rules → Prop) (O : List Ass) : Res := RWk (α := Rules) (ι := HH) P (fun x p => .agg #[.slice p.1 x.seats.length p.2, vi x.tiers, vi x.room, vi x.size, vi x.period, vi x.window, vi x.rest, vi x.tries, vi x.crew]) (fun x p => [slA 3 intL (.slice p.1 x.seats.length p.2) x.seats]) O
instance zdM : HC 104 (∀ (W : World) (d : Kd) (v : Value), zaH v d →Sp W [keepA d] 104 #[v] (RWk (α := Nat) (ι := Unit) (fun b => IsCur (.pointer (some ⟨b, 0, none⟩)) d) (fun b _ => .pointer (some ⟨b, 0, none⟩)) (fun b _ => [cuA d (.pointer (some ⟨b, 0, none⟩))]) [])) := by
 refine ⟨fun W d v hv => ?_⟩
 refine gENTO (vs := [_]) Tryz.func104 (fun S0 => cKV (d := d) (k := fun hok => ?_))
 obtain ⟨a, c, xs, e, hc, hs⟩ := hok
 obtain ⟨W0, f0, v0⟩ := d
 dsimp only at e hs hv
 subst hv
 subst e
 have hln := hs.1
 simp only [maxLen] at hln
 repeat' first | refine STD ?_ | refine ST ?_ | refine ST2 ?_ | intro _ | apply And.intro
 refine gFORA 4 xs.length (fun h : Int => [(3, .v (vi h))]) (fun _ _ => True) (wr (28285 + (xs.length : Int))) trivial fun k h hk _ => ?_
 repeat' first | (refine idAT ?_; refine aIx ?_; refine aIK (hs := hs) (hz := by omega) (k := ?_)) | (refine idAT ?_; refine aLd ?_; refine aLK (hs := hs) (hz := by omega) (k := ?_)) | refine STD ?_ | refine ST ?_ | refine ST2 ?_ | intro _ | apply And.intro
 · trivial
 all_goals
  refine cOP (k := fun bs hb => ?_)
  obtain ⟨b, rfl⟩ := len1 hb
  simp only [expT, expS, expC, List.getElem?_cons_zero, List.getElem?_cons_succ, List.cons_append, List.nil_append]
  refine cPV (d := 2) (b := b) rfl (cCC (d := ⟨W0, f0, .slice a xs.length c⟩) (b := b) (hi := Int.le_refl 0) (k := ?_))
  repeat' first | refine STD ?_ | refine ST ?_ | intro _ | apply And.intro
  all_goals exact rWN b () zcM (plS PU pl0)
instance zdo : HC 218 (∀ (W : World) (d : Kd) (p : Value), IsCur p d →Sp W [cuA d p] 218 #[p] (WI (fun x => 0 ≤ x ∧ x < 256) [cuA d p])) := by
 refine ⟨fun W d p _ => ?_⟩
 refine gENTO (vs := [_]) Tryz.func218 (fun S0 => cOC (hp := pu0) (k := fun b i h hp hi => cKV (d := d) (k := fun hok => ?_)))
 obtain ⟨a, c, xs, e, hc, hs⟩ := hok
 subst hp
 obtain ⟨W0, f0, v0⟩ := d
 dsimp only at e hs
 subst e
 have hln := hs.1
 simp only [maxLen] at hln
 refine cVP (d := 0) rfl ?_
 repeat' first | (refine idAT ?_; refine aIx ?_; refine zdx (d := ⟨W0, f0, .slice a xs.length c⟩) (hs := hs) (h0 := by omega) (hz := by omega) (k := ?_)) | (refine idAT ?_; refine aLd ?_; refine aLK (d := ⟨W0, f0, .slice a xs.length c⟩) (hs := hs) (hz := by omega) (k := ?_)) | (refine idQT ?_; refine qIx ?_; refine qIX (ha := hs.isS (by omega)) (h0 := by omega) (hn := by omega) (k := ?_)) | (refine idQT ?_; refine qLd ?_; refine qLK (d := ⟨W0, f0, .slice a xs.length c⟩) (hs := hs) (hz := by omega) (k := ?_)) | (refine idRN ?_; refine cCC (d := ⟨W0, f0, .slice a xs.length c⟩) (b := b) (hi := by first | assumption | (rw [wr_of (by omega) (by omega)]; omega)) (k := ?_)) | refine STD ?_ | refine ST ?_ | refine ST2 ?_ | intro _ | apply And.intro
 all_goals first | exact (zcd _).1 | exact (zcd _).2
theorem zdC {x y z w : Int} (h1 : 0 ≤ x ∧ x < 256) (h2 : 0 ≤ y ∧ y < 256) (h3 : 0 ≤ z ∧ z < 256) (h4 : 0 ≤ w ∧ w < 256) : 0 ≤ wr (wr (wr (wr (x * 16777216) + wr (y * 65536)) + wr (z * 256)) + w) := by
 rw [wr_of (x := x * 16777216) (by omega) (by omega), wr_of (x := y * 65536) (by omega) (by omega), wr_of (x := z * 256) (by omega) (by omega), wr_of (x := x * 16777216 + y * 65536) (by omega) (by omega), wr_of (x := x * 16777216 + y * 65536 + z * 256) (by omega) (by omega), wr_of (by omega) (by omega)]
 omega
instance zdf : HC 109 (∀ (W : World) (d : Kd) (p : Value) (n : Int), IsCur p d →Sp W [cuA d p] 109 #[p, vi n] (WI (fun x => 0 ≤ x ∧ (0 < n → x < n)) [cuA d p])) := by
 refine ⟨fun W d p n _ => ?_⟩
 refine gENTO (vs := [_, _]) Tryz.func109 (fun S0 => ?_)
 repeat' first | refine STD ?_ | refine ST ?_ | refine ST2 ?_ | intro _ | apply And.intro
 all_goals first | omega | exact Int.tmod_nonneg _ (by omega) | exact Int.tmod_nonneg _ (zdC ‹_› ‹_› ‹_› ‹_›) | exact Int.tmod_lt_of_pos _ ‹_›
instance zdr : HC 106 (∀ (W : World) (d : Kd) (p : Value) (n : Int), IsCur p d →Sp W [cuA d p] 106 #[p, vi n] (WB [cuA d p])) := by
 refine ⟨fun W d p n _ => ?_⟩
 refine gENTO (vs := [_, _]) Tryz.func106 (fun S0 => ?_)
 repeat' first | refine STD ?_ | refine ST ?_ | refine ST2 ?_ | intro _ | apply And.intro
 all_goals trivial
instance zcI : HC 212 (∀ (W : World) (d : Kd) (p v : Value) (l : List Int) (pre : List Ass), IsCur p d → SO9 3 intL v l pre → 0 < l.length →Sp W (cuA d p :: pre) 212 #[p, v] (WI (fun _ => True) [cuA d p])) := by
 refine ⟨fun W d p v l pre _ ⟨a, c, e1, e2⟩ hl => ?_⟩
 subst e1 e2
 refine gENTO (vs := [_, _]) Tryz.func212 (fun S0 => ?_)
 repeat' first | refine STD ?_ | refine ST ?_ | refine ST2 ?_ | intro _ | apply And.intro
 all_goals first | trivial
end SX
end Go.Proofs.YtejojcoaohlfbaaGreat
namespace Go.Proofs.YtejojcoaohlfbaaGreat
namespace SX
open Go Go.RowKit
set_option linter.unusedVariables false
set_option linter.unusedSimpArgs false
set_option maxRecDepth 10000
set_option maxHeartbeats 1000000
attribute [local irreducible] CD DN OPL AT QL QT CND RETG BKP HL HT HO slA slHo slP ptC pull pulls
abbrev RKt (d : Kd) : Res := ⟨Unit, fun _ => .bool true, fun _ => [keepA d]⟩
theorem rKT {d : Kd} {b : Bool} {C R : List Ass} {js : List Nat} (h : b = true) (hp : pulls js C = some ([keepA d], R) := by exact plS PU pl0) : RETG (.bool b) (RKt d) C := rEX () hp (by rw [h])
instance zdR : HC 32 (∀ (W : World) (a : Option Addr) (n c : Nat),Sp W [] 32 #[.slice a n c] (RV (.bool (decide ((n : Int) > 1048576))))) := by
 refine ⟨fun W a n c => gENT (vs := [_]) Tryz.func32 ?_⟩
 repeat' first | refine ST ?_ | intro _ | apply And.intro
 all_goals first | rfl
instance zcF : HC 55 (∀ (W : World) (x y : List Int) (v w : Value), Rs intL W v x → Rs intL W w y →Sp W [] 55 #[v, w] (RV (.bool (eqInts x y)))) := by
 refine ⟨fun W x y v w ⟨a, c, e1, hc, hr⟩ ⟨a2, c2, e2, hc2, hr2⟩ => ?_⟩
 subst e1 e2
 have hl := hr.len; have hl2 := hr2.len
 refine gENT (vs := [_, _]) Tryz.func55 ?_
 repeat' first | refine ST ?_ | intro _ | apply And.intro
 · rw [eqInts_ne (by omega)]
 refine gFOR 5 x.length (fun k => eqInts x y = eqInts (x.drop k) (y.drop k)) rfl fun k hk hv => ?_
 repeat' first | refine ST ?_ | intro _ | apply And.intro
 all_goals grind [eqInts, List.drop_eq_getElem_cons]
attribute [local irreducible] curO keepA RWk IsCur zaH
theorem zbR {x : Int} (h : 0 ≤ x) : 0 ≤ Int.tmod x 256 ∧ Int.tmod x 256 < 256 := ⟨Int.tmod_nonneg _ h, Int.tmod_lt_of_pos _ (by omega)⟩
theorem za4 (x : UInt8) : 0 ≤ (x.toNat : Int) ∧ (x.toNat : Int) < 256 := by have := x.toNat_lt; omega
theorem zck (x : UInt8) : IntKind.wrap .i64 (x.toNat : Int) = (x.toNat : Int) := wrap_of (by have := za4 x; omega) (by have := za4 x; omega)
theorem zcg {z : Int} {n : Nat} (h0 : 0 ≤ z) (h1 : z ≤ 1048576) (hn : n ≤ 2 ^ 62) : 0 ≤ wr (wr (z * 7) + (n : Int)) := by
 rw [wr_of (x := z * 7) (by omega) (by omega), wr_of (by omega) (by omega)]
 omega
instance zdQ : HC 59 (∀ (W : World) (d : Kd) (v : Value) (z : Int), zaH v d → 0 ≤ z → z ≤ 1048576 →Sp W [keepA d] 59 #[v, vi z] (WI (fun x => (∀ a n c, v = .slice a n c → n ≤ 1048576) → 0 ≤ x ∧ x < 256) [keepA d])) := by
 refine ⟨fun W d v z hv h0 h1 => ?_⟩
 refine gENTO (vs := [_, _]) Tryz.func59 (fun S0 => cKV (d := d) (k := fun hok => ?_))
 obtain ⟨a, c, xs, e, hc, hs⟩ := hok
 obtain ⟨W0, f0, v0⟩ := d
 dsimp only at e hs
 have e2 : v = .slice a xs.length c := (show v0 = v from by unfold zaH at hv; exact hv).symm.trans e
 subst e
 subst e2
 have hln : (∀ a' n' c', Value.slice a xs.length c = .slice a' n' c' → n' ≤ 1048576) → xs.length ≤ 2 ^ 62 := fun hb9 => by have := hb9 _ _ _ rfl; omega
 have hlm := hs.1
 simp only [maxLen] at hlm
 repeat' first | (refine idAT ?_; refine aIx ?_; refine zdx (d := ⟨W0, f0, .slice a xs.length c⟩) (hs := hs) (h0 := by omega) (hz := by omega) (k := ?_)) | (refine idAT ?_; refine aLd ?_; refine aLK (d := ⟨W0, f0, .slice a xs.length c⟩) (hs := hs) (hz := by omega) (k := ?_)) | (refine idQT ?_; refine qIx ?_; refine qIX (ha := hs.isS (by omega)) (h0 := by omega) (hn := by omega) (k := ?_)) | (refine idQT ?_; refine qLd ?_; refine qLK (d := ⟨W0, f0, .slice a xs.length c⟩) (hs := hs) (hz := by omega) (k := ?_)) | refine STD ?_ | refine ST ?_ | refine ST2 ?_ | intro _ | apply And.intro
 all_goals first
  | (rw [zck]; exact (za4 _).1)
  | (rw [zck]; exact (za4 _).2)
  | exact (zbR (x := wr (wr (z * 7) + (xs.length : Int))) (zcg h0 h1 (hln (by assumption)))).1
  | exact (zbR (x := wr (wr (z * 7) + (xs.length : Int))) (zcg h0 h1 (hln (by assumption)))).2
def zy (z : Int) : List Int → Int → Int
 | [], n => n
 | x :: xs, n => if x = z then zy z xs (n + 1) else zy z xs n
theorem zP (z : Int) : ∀ (l : List Int) (n : Int), 0 ≤ n → (0 < zy z l n ↔ 0 < n ∨ z ∈ l)
 | [], n, _ => by simp [zy]
 | x :: xs, n, h => by
  have h1 := zP z xs n h; have h2 := zP z xs (n + 1) (by omega)
  simp only [zy, List.mem_cons]
  split
  · rename_i he
    rw [h2]
    constructor
    · intro _; exact .inr (.inl he.symm)
    · intro _; exact .inl (by omega)
  · rename_i he
    rw [h1]
    constructor
    · rintro (h | h)
      · exact .inl h
      · exact .inr (.inr h)
    · rintro (h | h | h)
      · exact .inl h
      · exact absurd h.symm he
      · exact .inr h
instance zdI : HC 156 (∀ (W : World) (l : List Int) (v : Value) (z : Int), Rs intL W v l →Sp W [] 156 #[v, vi z] (RV (vi (zy z l 0)))) := by
 refine ⟨fun W l v z ⟨a, c, e, hc, hr⟩ => ?_⟩
 subst e
 have hl := hr.len
 refine gENT (vs := [_, _]) Tryz.func156 ?_
 repeat' first | refine ST ?_ | intro _ | apply And.intro
 refine gFORA 6 l.length (fun n : Int => [(5, .v (vi n))]) (fun k n => 0 ≤ n ∧ n ≤ (k : Int) ∧ zy z l 0 = zy z (l.drop k) n) 0 ⟨by omega, by omega, rfl⟩ fun k n hk hv => ?_
 obtain ⟨h0, h1, h2⟩ := hv
 by_cases hkl : k < l.length
 · rw [List.drop_eq_getElem_cons hkl, zy] at h2
   have hw : wr (n + 1) = n + 1 := wr_of (by omega) (by omega)
   repeat' first | refine ST ?_ | intro _ | apply And.intro
   all_goals first | (exfalso; omega) | omega | (rw [h2, if_pos ‹_›, hw]; done) | (rw [h2, if_neg ‹_›]; done)
 · rw [List.drop_eq_nil_of_le (by omega), zy] at h2
   repeat' first | refine ST ?_ | intro _ | apply And.intro
   all_goals first | (exfalso; omega) | (rw [h2]; done)
instance zdm : HC 61 (∀ (W : World) (l : List Int) (v : Value) (z : Int), Rs intL W v l →Sp W [] 61 #[v, vi z] (RV (.bool (decide (z ∈ l))))) := by
 refine ⟨fun W l v z ⟨a, c, e, hc, hr⟩ => ?_⟩
 subst e
 have hp := zP z l 0 (by omega)
 have he : decide (z ∈ l) = decide (zy z l 0 > 0) := by rw [decide_eq_decide]; constructor <;> intro h <;> first | exact hp.2 (.inr h) | exact (hp.1 h).resolve_left (by omega)
 rw [he]
 refine gENT (vs := [_, _]) Tryz.func61 ?_
 repeat' first | refine ST ?_ | intro _ | apply And.intro
 all_goals first | rfl
instance zcO : HC 62 (∀ (W : World) (x y : List Entry) (v w : Value), Rs entryL W v x → Rs entryL W w y → x = y →Sp W [] 62 #[v, w] (RV (.bool true))) := by
 refine ⟨fun W x y v w ⟨a, c, e1, hc, hr⟩ ⟨a2, c2, e2, hc2, hr2⟩ hxy => ?_⟩
 subst e1 e2 hxy
 have hl := hr.len
 refine gENT (vs := [_, _]) Tryz.func62 ?_
 repeat' first | refine ST ?_ | intro _ | apply And.intro
 all_goals first | (exfalso; omega) | skip
 refine gFOR 5 x.length (fun _ => True) trivial fun k hk _ => ?_
 repeat' first | exact absurd rfl ‹_ ≠ _› | refine ST ?_ | intro _ | apply And.intro
 all_goals first | (exfalso; omega) | rfl | trivial | (exfalso; simp at *; done)
end SX
end Go.Proofs.YtejojcoaohlfbaaGreat
