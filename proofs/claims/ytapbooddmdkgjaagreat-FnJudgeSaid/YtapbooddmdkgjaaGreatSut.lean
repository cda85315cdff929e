/- Texts of this claim, put together by program. -/
import Derived.Test.YtapbooddmdkgjaaGreatSxp
import Derived.Test.YtapbooddmdkgjaaGreatSxc
/- Boxes whose addresses are named; closures. It imports no program. -/
namespace Go.Proofs.YtapbooddmdkgjaaGreat
namespace SX
set_option linter.unusedVariables false
set_option linter.unusedSimpArgs false
open Go Go.RowKit
section rules
variable {X : List Nat} {P : Program} {N : Nat} {W : World} {S0 : List Nat} {Q : Exit → Go.Act → World → Prop} {T : Tm} {L : Bx} {C : List Ass} {ops : Array Oper} {Kn : List (Nat × Nat)} {i : Nat}
/-- a load out of a box that is named; a store -/
theorem aLP {t : TypeId} {x : Operand} {d b bt : Nat} {ty : TypeId} {j off : Nat} {cs : List Value} {v : Value} [TB P]
    (hx : evo T x = some (.e (some ⟨b, 0, none⟩) 0 off) := by conv => lhs; whnf) (hC : C[j]? = some (ptC b bt cs) := by exact NT) (hv : ldB (TB.D P) t cs off some = some v := by conv => lhs; whnf) (k : OPL X P N W S0 ops Q Kn (i + 1) ((d, .v v) :: T) L C)
    (hi : Nat.blt i ops.size = true := by rfl) (ho : opAt ops T i = some (.load t x, some d, ty) := by kernel_rfl) (hd : d < N := by exact NL rfl) (hl : loadOf P t cs off = some v := by kernel_rfl) :
    AT (.op (.load t x) (some d) ty) X P N W S0 ops Q Kn i T L C := opsOne (lt_of_blt hi) (LOADE t x d ty ho hd (some ⟨b, 0, none⟩) 0 off cs v hx (fun w hw => ptC_elem (hw.own j hC)) hl k)
theorem qLP {t : TypeId} {x : Operand} {d b bt : Nat} {ty : TypeId} {j off : Nat} {cs : List Value} {v : Value} [TB P]
    (hx : evo T x = some (.e (some ⟨b, 0, none⟩) 0 off) := by conv => lhs; whnf) (hC : C[j]? = some (ptC b bt cs) := by exact NT) (hv : ldB (TB.D P) t cs off some = some v := by conv => lhs; whnf) (k : QL X P N W S0 ops Q Kn (i + 1) ((d, .v v) :: T) L C)
    (ho : opAt ops T i = some (.load t x, some d, ty) := by kernel_rfl) (hd : d < N := by exact NL rfl) (hl : loadOf P t cs off = some v := by kernel_rfl) :
    QT (.op (.load t x) (some d) ty) X P N W S0 ops Q Kn i T L C := QLOADE t x d ty ho hd (some ⟨b, 0, none⟩) 0 off cs v hx (fun w hw => ptC_elem (hw.own j hC)) hl k
theorem aSP {t : TypeId} {x y : Operand} {b bt : Nat} {ty : TypeId} {j off : Nat} {cs cs' : List Value} {v : Value} {R : List Ass} [TB P]
    (hx : evo T x = some (.e (some ⟨b, 0, none⟩) 0 off) := by conv => lhs; whnf) (hp : pull j C = some (ptC b bt cs, R) := by exact PU) (hy : evv T y = some v := by conv => lhs; whnf) (hv : stB (TB.D P) t bt cs off v = some cs' := by conv => lhs; whnf)
    (k : OPL X P N W S0 ops Q Kn (i + 1) T L (R ++ [ptC b bt cs'])) (hi : Nat.blt i ops.size = true := by rfl) (ho : opAt ops T i = some (.store t x y, none, ty) := by kernel_rfl) (hst : storeOf P t cs off v = some cs' := by kernel_rfl) :
    AT (.op (.store t x y) none ty) X P N W S0 ops Q Kn i T L C := opsOne (lt_of_blt hi) (STOREC t x y ty ho j R b off bt cs cs' (by simp [pulls, hp]) v hx hy hst k)
/-- what lies in the caller's memory is read -/
theorem aLW {t : TypeId} {x : Operand} {d b : Nat} {ty : TypeId} {off : Nat} {cs : List Value} {v : Value} [TB P]
    (hx : evo T x = some (.e (some ⟨b, 0, none⟩) 0 off) := by conv => lhs; whnf) (he : ElemAt W (some ⟨b, 0, none⟩) 0 cs) (hv : ldB (TB.D P) t cs off some = some v := by conv => lhs; whnf) (k : OPL X P N W [] ops Q Kn (i + 1) ((d, .v v) :: T) L C)
    (hi : Nat.blt i ops.size = true := by rfl) (ho : opAt ops T i = some (.load t x, some d, ty) := by kernel_rfl) (hd : d < N := by exact NL rfl) (hl : loadOf P t cs off = some v := by kernel_rfl) :
    AT (.op (.load t x) (some d) ty) X P N W [] ops Q Kn i T L C := opsOne (lt_of_blt hi) (LOADE t x d ty ho hd (some ⟨b, 0, none⟩) 0 off cs v hx (fun w hw j hj => ElemAt.fr he hw.fr j hj) hl k)
variable {bs : List Nat} {L0 : Bx} {Ks : Keys} {T0 : Tm} {f : Nat} {Ls : List Nat} {la : Array Bool}
theorem hLWd {t : TypeId} {x : Operand} {d b : Nat} {ty : TypeId} {off : Nat} {cs : List Value} {v : Value} [TB P]
    (hx : evo T x = some (.e (some ⟨b, 0, none⟩) 0 off) := by conv => lhs; whnf) (he : ∀ w, At W S0 (frz bs L0) w → ElemAt w (some ⟨b, 0, none⟩) 0 cs) (hv : ldB (TB.D P) t cs off some = some v := by conv => lhs; whnf)
    (k : HL X P N W S0 ops Q bs L0 Ks T0 f (i :: Ls) (la.setIfInBounds i true) Kn ((d, .v v) :: T) L C) (hC : KP (frz bs L0) Ks Ls la C := by exact KP.mk)
    (hk : takeB ops la Ks i = true := by kernel_rfl) (ho : opAt ops T i = some (.load t x, some d, ty) := by kernel_rfl) (hd : d < N := by exact NL rfl) (hl : loadOf P t cs off = some v := by kernel_rfl) :
    HT (.op i (.load t x) (some d) ty) X P N W S0 ops Q bs L0 Ks T0 (f + 1) Ls la Kn T L C := hC.pulls.elim fun _ h9 => HDLOADE t x d ty ho hd (some ⟨b, 0, none⟩) 0 off cs v hx he hl hk h9 k
/-- a closure is made, over boxes that are named -/
def capO {R : Type} (T : Tm) : List Operand → (List Value → Option R) → Option R
  | [], k => k []
  | x :: xs, k => match evo T x with
    | some (.e (some ⟨b, 0, none⟩) 0 0) => capO T xs (fun l => k (.pointer (some ⟨b, 0, none⟩) :: l))
    | some (.v v) => capO T xs (fun l => k (v :: l))
    | _ => none
theorem capO_ok {T : Tm} {a : Go.Act} {bs : List Nat} (hev : ∀ x s, evo T x = some s → a.eval x = den bs s) : ∀ (xs : List Operand) (k : List Value → Option (List Value)) (vs : List Value), capO T xs k = some vs → ∃ l, k l = some vs ∧ xs.map a.eval = l
  | [], k, vs, h => ⟨[], h, rfl⟩
  | x :: xs, k, vs, h => by
    simp only [capO] at h
    split at h
    · rename_i b hx
      obtain ⟨l, h1, h2⟩ := capO_ok hev xs _ vs h
      refine ⟨_, h1, ?_⟩
      rw [List.map_cons, h2, hev _ _ hx]
      simp [den, addrOf, add_lit]
    · rename_i v hx
      obtain ⟨l, h1, h2⟩ := capO_ok hev xs _ vs h
      refine ⟨_, h1, ?_⟩
      rw [List.map_cons, h2, hev _ _ hx]
      rfl
    · cases h
theorem aMF {fn : FuncId} {caps : Array Operand} {d : Nat} {ty : TypeId} {vs : List Value} (hv : capO T caps.toList some = some vs := by conv => lhs; whnf) (k : OPL X P N W S0 ops Q Kn (i + 1) ((d, .v (.func (.func fn) #[] vs.toArray)) :: T) L C)
    (hv' : capO T caps.toList some = some vs := by rfl) (hi : Nat.blt i ops.size = true := by rfl) (ho : opAt ops T i = some (.makeFunc (.func fn) #[] caps, some d, ty) := by kernel_rfl) (hd : d < N := by exact NL rfl) :
    AT (.op (.makeFunc (.func fn) #[] caps) (some d) ty) X P N W S0 ops Q Kn i T L C :=
  opsOne (lt_of_blt hi) (RUNV _ d ty ho hd _ (by
    intro a o bs w hev hop _ _
    obtain ⟨l, h1, h2⟩ := capO_ok hev _ _ _ hv'
    simp only [Option.some.injEq] at h1
    subst h1
    have h3 : caps.map a.eval = l.toArray := by
      apply Array.toList_inj.1
      rw [Array.toList_map, h2]
    simp [execOp, hop, Instr.makeFunc, Sem.run_pure, h3, den]) k)
theorem cOP {c : Code} (k : ∀ bs : List Nat, bs.length = L.length → CD X P N W S0 c Q (expT bs T) [] (expC bs L ++ C)) : CD X P N W S0 c Q T L C := EXPORT (K := c.wp P Q) k
theorem oOP (k : ∀ bs : List Nat, bs.length = L.length → OPL X P N W S0 ops Q Kn i (expT bs T) [] (expC bs L ++ C)) : OPL X P N W S0 ops Q Kn i T L C := EXPORT k
theorem tOP {x : Nx} (k : ∀ bs : List Nat, bs.length = L.length → AT x X P N W S0 ops Q Kn i (expT bs T) [] (expC bs L ++ C)) : AT x X P N W S0 ops Q Kn i T L C := EXPORT k
/-- a pointer to a box that is named, as a value -/
theorem oPV {d b : Nat} (hd : lk T d = some (.e (some ⟨b, 0, none⟩) 0 0)) (k : OPL X P N W S0 ops Q Kn i ((d, .v (.pointer (some ⟨b, 0, none⟩))) :: T) L C) : OPL X P N W S0 ops Q Kn i T L C := ASV hd k
theorem gVP {K : Go.Act → World → Prop} {d b : Nat} (hd : lk T d = some (.v (.pointer (some ⟨b, 0, none⟩)))) (k : G N W S0 K ((d, .e (some ⟨b, 0, none⟩) 0 0) :: T) L C) : G N W S0 K T L C := by
  rintro a w ⟨bs, fps, ht, hb, hm⟩
  refine k a w ⟨bs, fps, ⟨ht.1, ht.2.1, fun i x hx => ?_⟩, hb, hm⟩
  simp only [lk] at hx
  by_cases hk : d = i
  · subst hk
    simp at hx; subst hx
    have := ht.2.2 d _ hd
    rw [this]
    simp [den, addrOf, add_lit]
  · have : (d == i) = false := by simpa using hk
    simp only [this, Bool.false_eq_true, if_false] at hx
    exact ht.2.2 i x hx
theorem oVP {d b : Nat} (hd : lk T d = some (.v (.pointer (some ⟨b, 0, none⟩)))) (k : OPL X P N W S0 ops Q Kn i ((d, .e (some ⟨b, 0, none⟩) 0 0) :: T) L C) : OPL X P N W S0 ops Q Kn i T L C := gVP hd k
theorem cVP {c : Code} {d b : Nat} (hd : lk T d = some (.v (.pointer (some ⟨b, 0, none⟩)))) (k : CD X P N W S0 c Q ((d, .e (some ⟨b, 0, none⟩) 0 0) :: T) L C) : CD X P N W S0 c Q T L C := gVP (K := c.wp P Q) hd k
/-- a result's box is closed again -/
def cellE (T : Tm) : List ResultVar → Option Nat
  | [] => none
  | .cell t _ :: r => match lk T t with
    | some (.e _ _ _) => some t
    | _ => cellE T r
  | _ :: r => cellE T r
theorem gCB {K : Go.Act → World → Prop} {d b t : Nat} {cs : List Value} {j : Nat} {R : List Ass} (hl : lk T d = some (.e (some ⟨b, 0, none⟩) 0 0)) (hp : pull j C = some (ptC b t cs, R)) (k : G N W S0 K ((d, .p L.length 0) :: T) (L ++ [(t, cs)]) R) : G N W S0 K T L C := by
  rintro a w ⟨bs, fps, ht, hb, hm⟩
  obtain ⟨fp, gps, ha, hr, hperm⟩ := holds.pull j hm.ch hp
  have hfp : fp = [b] := ha.1
  subst hfp
  have hbl := boxes_len hm.bx
  have hfl : (b :: gps.flatten).Perm fps.flatten := by simpa using flat_perm hperm
  have hall : ((bs ++ [b]) ++ gps.flatten).Perm (bs ++ fps.flatten) := by
    rw [List.append_assoc]
    exact hfl.append_left bs
  refine k a w ⟨bs ++ [b], gps, ⟨ht.1, ht.2.1, fun i x hx => ?_⟩, ?_, ⟨hm.fr, boxes_append hm.bx ⟨ha.2, trivial⟩, hr, hall.nodup_iff.2 hm.nd, fun c hc => hm.new c (hall.subset hc)⟩⟩
  · simp only [lk] at hx
    by_cases hk : d = i
    · subst hk
      simp at hx; subst hx
      have := ht.2.2 d _ hl
      rw [this]
      simp [den, addrOf, add_lit, hbl, List.getD_eq_getElem?_getD]
    · have h9 : (d == i) = false := by simpa using hk
      simp only [h9, Bool.false_eq_true, if_false] at hx
      have := ht.2.2 i x hx
      rw [this]
      cases x with
      | v _ => rfl
      | e _ _ _ => rfl
      | p m off =>
        have hlt := hb.lk hx
        simp only [den, List.getD_eq_getElem?_getD]
        rw [List.getElem?_append_left (by rw [← hbl] at hlt; exact hlt)]
  · refine ⟨by simp, hb.mono (by simp)⟩
theorem gRTC {fn : Func} {d b t : Nat} {cs : List Value} {j : Nat} {R : List Ass} {r : Res} {n : Nat} {L1 : Bx} (hq : Q .ret = bodyPost P fn (RetM S0 r W) .ret := by rfl) (hd : cellE T fn.results.toList = some d := by conv => lhs; whnf) (hl : lk T d = some (.e (some ⟨b, 0, none⟩) 0 0) := by conv => lhs; whnf) (hp : pull j C = some (ptC b t cs, R) := by exact PU)
    (hL : snocBx L 0 (t, cs) (fun i l => some (i, l)) = some (n, L1) := by conv => lhs; whnf) (k : CD X P N W S0 .ret Q ((d, .p n 0) :: T) L1 R) (hn : n = L.length := by rfl) (hL1 : L1 = L ++ [(t, cs)] := by rfl) : CD X P N W S0 .ret Q T L C := by
  subst hn hL1
  exact gCB (K := Code.ret.wp P Q) hl hp k
theorem rEX {v : Value} {r : Res} {R : List Ass} {js : List Nat} (x : r.ι) (hp : pulls js C = some (r.own x, R)) (hv : v = r.val x) : RETG v r C := ⟨x, js, hv, by rw [hp]; rfl⟩
theorem gFINN [TB P] {fn : Func} {r : Res} {v : Value} (k : RETG v r C) (hv : resV (TB.D P) fn T L = some v := by conv => lhs; whnf) (hv' : resOf fn P T L = some v := by kernel_rfl) : DN X N W S0 (bodyPost P fn (RetM S0 r W)) .normal T L C := by
  obtain ⟨x, js, hx, hp⟩ := k
  exact FINN v hv' x hx js hp
/-- loops without a counter: U slots, bs boxes, O own rows, m what becomes less -/
def LGT {α : Type} (U : α → Tm) (T : Tm) (q : α) : Tm := U q ++ T
def LGC {α : Type} (O : α → List Ass) (C0 : List Ass) (q : α) : List Ass := C0 ++ O q
theorem gLPG {c : Code} {L : Bx} {α : Type} (U : α → Tm) (bs : List (Nat × (α → List Value))) (O : α → List Ass) (Inv : α → Prop) (m : α → Nat) (x0 : α) {Lf : α → Bx} {js : List Nat} {C0 : List Ass}
    (hLf : ∀ x, setBs x bs L some = some (Lf x) := by intro x; conv => lhs; whnf) (hp : pulls js C = some (O x0, C0) := by first | exact pl0 | exact plS PU pl0 | exact plS PU (plS PU pl0) | exact plS PU (plS PU (plS PU (plS PU (plS PU pl0)))) | exact plS PU (plS PU (plS PU (plS PU (plS PU (plS PU pl0)))))) (h0 : Inv x0)
    (body : ∀ x, Inv x → CD X P N W S0 c (Exit.then (BKP N W S0 (LGT U T) Lf (LGC O C0) Inv m x) Q) (U x ++ T) (Lf x) (C0 ++ O x))
    (hL : L = Lf x0 := by rfl) (hT : keep T ((LGT U T x0).map (·.1)) = keep (LGT U T x0) ((LGT U T x0).map (·.1)) := by kernel_rfl) (hn : boundedB (Lf x0).length (LGT U T x0) = true := by kernel_rfl) : CD X P N W S0 (.loop c) Q T L C := by
  have h := gLOOP (X := X) (P := P) (N := N) (W := W) (S0 := S0) (Q := Q) (T := T) (L := L) (C := C0 ++ O x0) (LGT U T) Lf (LGC O C0) Inv m x0 h0 (fun q hk => body q hk) hT hn hL rfl
  unfold CD at *
  intro a w hs
  exact h a w (hs.turn (fun _ => rfl) id rfl ((pulls_perm hp).trans List.perm_append_comm))
theorem gLBK {α : Type} {U : α → Tm} {O : α → List Ass} {Lf : α → Bx} {x : α} {Inv : α → Prop} {m : α → Nat} {T1 : Tm} {L1 : Bx} {C0 C1 R R2 : List Ass} {js : List Nat} (x' : α) (hm : m x' < m x) (hU : keep T1 ((U x).map (·.1)) = some (U x') := by conv => lhs; whnf) (hLx : tkB (Lf x) L1 some = some (Lf x') := by conv => lhs; whnf)
    (hp : pulls js C1 = some (O x', R) := by first | exact pl0 | exact plS PU pl0 | exact plS PU (plS PU pl0) | exact plS PU (plS PU (plS PU (plS PU (plS PU pl0)))) | exact plS PU (plS PU (plS PU (plS PU (plS PU (plS PU pl0)))))) (h : Inv x') (hR : R = C0 ++ R2 := by rfl)
    (hT : keep T1 ((LGT U T x').map (·.1)) = keep (LGT U T x') ((LGT U T x').map (·.1)) := by kernel_rfl)
    (hn : boundedB (Lf x').length (LGT U T x') = true := by kernel_rfl) (hL : L1.take (Lf x').length = Lf x' := by kernel_rfl) : DN X N W S0 (Exit.then (BKP N W S0 (LGT U T) Lf (LGC O C0) Inv m x) Q) .normal T1 L1 C1 := by
  subst hR
  intro aa w hs
  have hperm : C1.Perm ((C0 ++ O x') ++ R2) := by
    refine (pulls_perm hp).trans ?_
    rw [← List.append_assoc]
    exact List.perm_append_comm.append_right R2
  have h1 := hs.turn (T1 := T1) (fun _ => rfl) id rfl hperm
  exact ⟨x', h, hm, h1.into (js := zeros (C0 ++ O x')) (R := R2) hT hn hL (pulls_zeros _ _)⟩
/-- an element that is out is put back -/
theorem tUNC {x : Nx} {e e4 e5 e6 : TypeId} {v : Value} {xs : List Cabin} {m j j1 j2 : Nat} {R R1 R2 : List Ass} {t f9 h s ti : Int} {a1 a2 : Option Addr} {n1 n2 c1 c2 : Nat} {row : List Entry} {sp : List (List Pin)}
    (hp : pull j C = some (slHo e (cabinLx e4 e5 e6) v xs m [vi t, vi f9, vi h, vi s, vi ti, .slice a1 n1 c1, .slice a2 n2 c2], R) := by exact PU) (hp1 : pull j1 R = some (slA e4 entryL (.slice a1 n1 c1) row, R1) := by exact PU) (hp2 : pull j2 R1 = some (slA e5 (sl e6 pinL) (.slice a2 n2 c2) sp, R2) := by exact PU)
    (k : AT x X P N W S0 ops Q Kn i T L (R2 ++ [slA e (cabinLx e4 e5 e6) v (xs.set m ⟨⟨t, f9, h, s, ti⟩, row, ⟨sp⟩⟩)])) : AT x X P N W S0 ops Q Kn i T L C := by
  unfold AT OPL at *
  exact oUNC hp hp1 hp2 k
theorem tUNS {x : Nx} {α : Type} {La : Lay α} {e e1 : TypeId} {v : Value} {xs : List (List α)} {m j j1 : Nat} {R R1 : List Ass} {a1 : Option Addr} {n1 c1 : Nat} {row : List α}
    (hp : pull j C = some (slHo e (sl e1 La) v xs m [.slice a1 n1 c1], R) := by exact PU) (hp1 : pull j1 R = some (slA e1 La (.slice a1 n1 c1) row, R1) := by exact PU)
    (k : AT x X P N W S0 ops Q Kn i T L (R1 ++ [slA e (sl e1 La) v (xs.set m row)])) : AT x X P N W S0 ops Q Kn i T L C := by
  unfold AT OPL at *
  exact oUNS hp hp1 k
theorem uUNC {x : Nx} {e e4 e5 e6 : TypeId} {v : Value} {xs : List Cabin} {m j j1 j2 : Nat} {R R1 R2 : List Ass} {t f9 h s ti : Int} {a1 a2 : Option Addr} {n1 n2 c1 c2 : Nat} {row : List Entry} {sp : List (List Pin)}
    (hp : pull j C = some (slHo e (cabinLx e4 e5 e6) v xs m [vi t, vi f9, vi h, vi s, vi ti, .slice a1 n1 c1, .slice a2 n2 c2], R) := by exact PU) (hp1 : pull j1 R = some (slA e4 entryL (.slice a1 n1 c1) row, R1) := by exact PU) (hp2 : pull j2 R1 = some (slA e5 (sl e6 pinL) (.slice a2 n2 c2) sp, R2) := by exact PU)
    (k : HO x i X P N W S0 ops Q bs L0 Ks T0 f Ls la Kn T L (R2 ++ [slA e (cabinLx e4 e5 e6) v (xs.set m ⟨⟨t, f9, h, s, ti⟩, row, ⟨sp⟩⟩)])) : HO x i X P N W S0 ops Q bs L0 Ks T0 f Ls la Kn T L C := by
  unfold HO OP at *
  exact oUNC hp hp1 hp2 k
theorem uUNS {x : Nx} {α : Type} {La : Lay α} {e e1 : TypeId} {v : Value} {xs : List (List α)} {m j j1 : Nat} {R R1 : List Ass} {a1 : Option Addr} {n1 c1 : Nat} {row : List α}
    (hp : pull j C = some (slHo e (sl e1 La) v xs m [.slice a1 n1 c1], R) := by exact PU) (hp1 : pull j1 R = some (slA e1 La (.slice a1 n1 c1) row, R1) := by exact PU)
    (k : HO x i X P N W S0 ops Q bs L0 Ks T0 f Ls la Kn T L (R1 ++ [slA e (sl e1 La) v (xs.set m row)])) : HO x i X P N W S0 ops Q bs L0 Ks T0 f Ls la Kn T L C := by
  unfold HO OP at *
  exact oUNS hp hp1 k
/-- a row that is built plain, for an insertion -/
theorem oBUILDP {K : Go.Act → World → Prop} {t : TypeId} {len : Nat} {parts : Array (Nat × Operand)} {d : Nat} {ty : TypeId} {e sz : Nat} {α : Type} {enc : α → List Value} {hh : ∀ x, (enc x).length = sz ∧ ∀ u ∈ enc x, isCell u = true} {xs : List α} [TB P]
    (he : lkn (TB.D P).row t = some (e, sz) := by conv => lhs; whnf) (el : ElT P e α sz enc hh := by infer_instance) (hx : partsO el.dec T 0 parts.toList some = some xs := by conv => lhs; whnf)
    (k : ∀ a : Option Addr, a.isSome = true → G N W S0 K ((d, .v (.slice a len len)) :: T) L (C ++ [slP e (flat sz enc hh) (.slice a len len) xs]))
    (ho : opAt ops T i = some (.buildSlice t len parts, some d, ty) := by kernel_rfl) (hd : d < N := by exact NL rfl) (hb : (partsOf T parts.toList).bind (bsOf P t len) = some (e, xs.flatMap enc) := by kernel_rfl) (hl : xs.length = len := by kernel_rfl) (hm : Nat.ble len maxLen = true := by rfl) : OP P N W S0 ops Q i K T L C :=
  BUILDP t len parts d ty e (xs.flatMap enc) (flat sz enc hh) xs (flatRep rfl) k ho hd hb hl (Nat.le_of_ble_eq_true hm)
theorem aBUILDP {t : TypeId} {len : Nat} {parts : Array (Nat × Operand)} {d : Nat} {ty : TypeId} {e sz : Nat} {α : Type} {enc : α → List Value} {hh : ∀ x, (enc x).length = sz ∧ ∀ u ∈ enc x, isCell u = true} {xs : List α} [TB P]
    (he : lkn (TB.D P).row t = some (e, sz) := by conv => lhs; whnf) (el : ElT P e α sz enc hh := by infer_instance) (hx : partsO el.dec T 0 parts.toList some = some xs := by conv => lhs; whnf)
    (k : ∀ a : Option Addr, a.isSome = true → OPL X P N W S0 ops Q Kn (i + 1) ((d, .v (.slice a len len)) :: T) L (C ++ [slP e (flat sz enc hh) (.slice a len len) xs])) (hi : Nat.blt i ops.size = true := by rfl)
    (ho : opAt ops T i = some (.buildSlice t len parts, some d, ty) := by kernel_rfl) (hd : d < N := by exact NL rfl) (hb : (partsOf T parts.toList).bind (bsOf P t len) = some (e, xs.flatMap enc) := by kernel_rfl) (hl : xs.length = len := by kernel_rfl) (hm : Nat.ble len maxLen = true := by rfl) :
    AT (.op (.buildSlice t len parts) (some d) ty) X P N W S0 ops Q Kn i T L C := opsOne (lt_of_blt hi) (oBUILDP he el hx k ho hd hb hl hm)
theorem hBUILDP {t : TypeId} {len : Nat} {parts : Array (Nat × Operand)} {d : Nat} {ty : TypeId} {e sz : Nat} {α : Type} {enc : α → List Value} {hh : ∀ x, (enc x).length = sz ∧ ∀ u ∈ enc x, isCell u = true} {xs : List α} [TB P]
    (he : lkn (TB.D P).row t = some (e, sz) := by conv => lhs; whnf) (el : ElT P e α sz enc hh := by infer_instance) (hx : partsO el.dec T 0 parts.toList some = some xs := by conv => lhs; whnf)
    (k : ∀ a : Option Addr, a.isSome = true → HL X P N W S0 ops Q bs L0 Ks T0 f (i :: Ls) (la.setIfInBounds i true) Kn ((d, .v (.slice a len len)) :: T) L (C ++ [slP e (flat sz enc hh) (.slice a len len) xs])) (hC : KP (frz bs L0) Ks (i :: Ls) (la.setIfInBounds i true) C := by exact KP.mk)
    (ho : opAt ops T i = some (.buildSlice t len parts, some d, ty) := by kernel_rfl) (hd : d < N := by exact NL rfl) (hb : (partsOf T parts.toList).bind (bsOf P t len) = some (e, xs.flatMap enc) := by kernel_rfl) (hl : xs.length = len := by kernel_rfl) (hm : Nat.ble len maxLen = true := by rfl) :
    HO (.op (.buildSlice t len parts) (some d) ty) i X P N W S0 ops Q bs L0 Ks T0 f Ls la Kn T L C := oBUILDP he el hx (fun a ha => hKEEP hC.app (k a ha)) ho hd hb hl hm
theorem STP {A B : Prop} (k : B) (h : B → A := by
    intro k
    first
    | (refine gtB ?_; exact aBUILDP (k := k))
    | (refine goB ?_; exact hBUILDP (k := k))) : A := h k
theorem ST2 {A B : Prop} (k : B) (h : B → A := by
    intro k
    first
    | (refine idAT ?_
       first
       | (refine aLd ?_
          first
          | exact aLP (k := k)
          | exact aLW (he := by assumption) (k := k))
       | (refine gtS ?_; exact aSP (k := k))
       | (refine aCa ?_
          first
          | exact tUNS (k := k)
          | exact tUNC (k := k))
       | exact aMF (k := k))
    | (refine idHO ?_
       refine goC ?_
       first
       | exact uUNS (k := k)
       | exact uUNC (k := k))
    | (refine idDN ?_; exact gFINN k)
    | (refine idCD ?_; exact gRTC (k := k))
    | (refine idQT ?_; refine qLd ?_; exact qLP (k := k))
    | (refine idHT ?_; refine ghL ?_; exact hLWd (he := fun w hw j hj => ElemAt.fr (by assumption) hw.fr j hj) (k := k))) : A := h k
end rules
end SX
end Go.Proofs.YtapbooddmdkgjaaGreat
/- More steps where a region's order is open: stores into flat rows of one's own, remainders. It imports no program. -/
namespace Go.Proofs.YtapbooddmdkgjaaGreat
namespace SX
set_option linter.unusedVariables false
set_option linter.unusedSimpArgs false
open Go Go.RowKit
section rules
variable {X : List Nat} {P : Program} {N : Nat} {W : World} {S0 : List Nat} {Q : Exit → Go.Act → World → Prop} {T : Tm} {L : Bx} {C : List Ass} {ops : Array Oper} {Kn : List (Nat × Nat)} {i : Nat} {bs : List Nat} {L0 : Bx} {Ks : Keys} {T0 : Tm} {f : Nat} {Ls : List Nat} {la : Array Bool}
theorem hSOF {t : TypeId} {x y : Operand} {ty : TypeId} {a : Option Addr} {m n cap sz off j e : Nat} {α : Type} {enc : α → List Value} {hh : ∀ x, (enc x).length = sz ∧ ∀ u ∈ enc x, isCell u = true} {xs : List α} {v : Value} {x1 : α} {R : List Ass}
    (hx : evo T x = some (.e a (m * sz) off) := by conv => lhs; whnf) (hy : evv T y = some v := by conv => lhs; whnf) (hp : pull j C = some (slA e (flat sz enc hh) (.slice a n cap) xs, R) := by exact PU) (el : ElT P e α sz enc hh := by infer_instance) (hj : m < xs.length := by exact LEN) (hv : stE el.dec off (enc xs[m]) v some = some x1 := by conv => lhs; whnf)
    (k : HL X P N W S0 ops Q bs L0 Ks T0 f (i :: Ls) (la.setIfInBounds i true) Kn T L (R ++ [slA e (flat sz enc hh) (.slice a n cap) (xs.set m x1)])) (hR : KP (frz bs L0) Ks (i :: Ls) (la.setIfInBounds i true) R := by exact KP.mk)
    (ho : opAt ops T i = some (.store t x y, none, ty) := by kernel_rfl) (hst : storeOf P t (enc xs[m]) off v = some (enc x1) := by kernel_rfl) :
    HO (.op (.store t x y) none ty) i X P N W S0 ops Q bs L0 Ks T0 f Ls la Kn T L C :=
  STOREF t x y ty ho j R e a n cap m off xs (by simp [pulls, hp]) xs[m] x1 (List.getElem?_eq_getElem hj) v hx hy hst (hKEEP hR.app k)
theorem hSOz {t : TypeId} {x y : Operand} {ty : TypeId} {a : Option Addr} {z : Int} {n cap sz off j e : Nat} {α : Type} {enc : α → List Value} {hh : ∀ x, (enc x).length = sz ∧ ∀ u ∈ enc x, isCell u = true} {xs : List α} {v : Value} {x1 : α} {R : List Ass}
    (hx : evo T x = some (.e a (z.toNat * sz) off) := by conv => lhs; whnf) (hy : evv T y = some v := by conv => lhs; whnf) (hp : pull j C = some (slA e (flat sz enc hh) (.slice a n cap) xs, R) := by exact PU) (el : ElT P e α sz enc hh := by infer_instance) (hj : z.toNat < xs.length := by exact LEN) (hv : stE el.dec off (enc xs[z.toNat]) v some = some x1 := by conv => lhs; whnf)
    (k : HL X P N W S0 ops Q bs L0 Ks T0 f (i :: Ls) (la.setIfInBounds i true) Kn T L (R ++ [slA e (flat sz enc hh) (.slice a n cap) (xs.set z.toNat x1)])) (hR : KP (frz bs L0) Ks (i :: Ls) (la.setIfInBounds i true) R := by exact KP.mk)
    (ho : opAt ops T i = some (.store t x y, none, ty) := by kernel_rfl) (hst : storeOf P t (enc xs[z.toNat]) off v = some (enc x1) := by kernel_rfl) :
    HO (.op (.store t x y) none ty) i X P N W S0 ops Q bs L0 Ks T0 f Ls la Kn T L C :=
  STOREF t x y ty ho j R e a n cap z.toNat off xs (by simp [pulls, hp]) xs[z.toNat] x1 (List.getElem?_eq_getElem hj) v hx hy hst (hKEEP hR.app k)
theorem uRV {op : Op} {d : Nat} {ty : TypeId} {v : Value} (hrun : Runs P W S0 T C op ty v) (k : HL X P N W S0 ops Q bs L0 Ks T0 f (i :: Ls) (la.setIfInBounds i true) Kn ((d, .v v) :: T) L C) (hC : KP (frz bs L0) Ks (i :: Ls) (la.setIfInBounds i true) C := by exact KP.mk)
    (ho : opAt ops T i = some (op, some d, ty) := by kernel_rfl) (hd : d < N := by exact NL rfl) : HO (.op op (some d) ty) i X P N W S0 ops Q bs L0 Ks T0 f Ls la Kn T L C := RUNV op d ty ho hd v hrun (hKEEP hC k)
theorem goZ {b : BinOp} {t z : TypeId} {x y : Operand} {d : Option Nat} {ty : TypeId} (k : HO (.op (.binOp b t x y z) d ty) i X P N W S0 ops Q bs L0 Ks T0 f Ls la Kn T L C) : HO (.op (.binOp b t x y z) d ty) i X P N W S0 ops Q bs L0 Ks T0 f Ls la Kn T L C := k
/-- an owned row without its first elements -/
theorem aCLOz [TB P] {t : TypeId} {x lo : Operand} {d : Nat} {ty : TypeId} {kl : IntKind} {z : Int} {n cap j : Nat} {a : Option Addr} {e : TypeId} {α : Type} {La : Lay α} {xs : List α} {R : List Ass}
    (hl : evv T lo = some (.int kl z) := by conv => lhs; whnf) (hx : evv T x = some (.slice a n cap) := by conv => lhs; whnf) (hp : pull j C = some (slA e La (.slice a n cap) xs, R) := by exact PU) (h0 : 0 ≤ z) (hz : z ≤ n) (hn : n = xs.length := by rfl)
    (k : ∀ a' : Option Addr, OPL X P N W S0 ops Q Kn (i + 1) ((d, .v (.slice a' (xs.drop z.toNat).length (cap - z.toNat))) :: T) L (R ++ [slA e La (.slice a' (xs.drop z.toNat).length (cap - z.toNat)) (xs.drop z.toNat)])) (hi : Nat.blt i ops.size = true := by rfl)
    (ho : opAt ops T i = some (.slice t x (some lo) none none, some d, ty) := by kernel_rfl) (hd : d < N := by exact NL rfl) (hu : P.underlying t = some (.slice e) := by kernel_rfl) (hs : (P.info? e).map (·.size) = some La.sz := by kernel_rfl) :
    AT (.op (.slice t x (some lo) none none) (some d) ty) X P N W S0 ops Q Kn i T L C :=
  opsOne (lt_of_blt hi) (CUTOL t x lo d ty ho hd a n cap kl z hx hl e La xs hu hs h0 hz hn j R (by simp [pulls, hp]) (fun a' => k a'))
/-- an own row is appended onto an own row; its source is kept -/
theorem aAPO {t : TypeId} {s x : Operand} {d : Nat} {ty : TypeId} {v : Value} {a2 : Option Addr} {n2 c2 e sz : Nat} {α : Type} {enc : α → List Value} {hh : ∀ x, (enc x).length = sz ∧ ∀ u ∈ enc x, isCell u = true} {xs ys : List α} {j1 j2 : Nat} {R : List Ass} [TB P]
    (he : lkn (TB.D P).row t = some (e, sz) := by conv => lhs; whnf) (el : ElT P e α sz enc hh := by infer_instance) (hs : evv T s = some v := by conv => lhs; whnf) (hx : evv T x = some (.slice a2 n2 c2) := by conv => lhs; whnf)
    (hp1 : pull j1 C = some (slA e (flat sz enc hh) v xs, R) := by exact PU) (hr : C[j2]? = some (slA e (flat sz enc hh) (.slice a2 n2 c2) ys) := by exact NT) (hn2 : ys.length = n2 := by rfl) (hlen : xs.length + n2 ≤ 100000000000 := by exact LEN)
    (k : ∀ (a : Option Addr) (c : Nat), NNil a (xs ++ ys).length → OPL X P N W S0 ops Q Kn (i + 1) ((d, .v (.slice a (xs ++ ys).length c)) :: T) L (R ++ [slA e (flat sz enc hh) (.slice a (xs ++ ys).length c) (xs ++ ys)])) (hi : Nat.blt i ops.size = true := by rfl)
    (ho : opAt ops T i = some (.call { callee := .builtin .append, args := #[s, x], argTypes := #[t, t] }, some d, ty) := by kernel_rfl) (hd : d < N := by exact NL rfl) (hu : P.underlying t = some (.slice e) := by kernel_rfl) :
    AT (.op (.call { callee := .builtin .append, args := #[s, x], argTypes := #[t, t] }) (some d) ty) X P N W S0 ops Q Kn i T L C := by
  have hb := el.small
  have hm : (xs.length + n2) * el.bytes ≤ (xs.length + n2) * 1024 := Nat.mul_le_mul_left _ hb
  have hz : el.z.cells.size = sz := by
    have h1 := congrArg List.length el.zc
    rw [(hh el.x0).1] at h1
    simpa using h1
  exact opsOne (lt_of_blt hi) (APPENDR t s x d ty ho hd v a2 n2 c2 hs hx e hu el.z el.bytes el.info hz el.pos j1 xs ys R (by simp [pulls, hp1]) hn2 (fun w hw => hw.rdO j2 hr) (by omega) (by simp only [maxLen]; omega) k)
theorem ST3 {A B : Prop} (k : B) (h : B → A := by
    intro k
    first
    | (refine idHO ?_
       refine goS ?_
       first
       | exact hSOz (k := k)
       | exact hSOF (k := k))
    | (refine idHO ?_
       refine goZ ?_
       exact uRV rREM k)
    | (refine idAT ?_; refine gtP ?_; exact aAPO (k := k))
    | (refine idAT ?_; refine gtC ?_; exact aCLOz (h0 := by omega) (hz := by omega) (k := k))) : A := h k
end rules
end SX
end Go.Proofs.YtapbooddmdkgjaaGreat
/- Draws in the engine: the bytes of a draw are kept and owned by a cursor; results of which a property alone is told. It imports no program. -/
namespace Go.Proofs.YtapbooddmdkgjaaGreat
namespace SX
set_option linter.unusedVariables false
set_option linter.unusedSimpArgs false
open Go Go.RowKit
/-- where a draw's bytes lie, and how the memory was there -/
structure Kd where
  W : World
  f : List Nat
  v : Value
def Kd.ok (d : Kd) : Prop := ∃ (a : Option Addr) (c : Nat) (xs : List UInt8), d.v = .slice a xs.length c ∧ xs.length ≤ c ∧ SlR byteL d.W a xs d.f
theorem Kd.ok.lt {d : Kd} (h : d.ok) : ∀ b ∈ d.f, b < d.W.heap.size := let ⟨_, _, _, _, _, hs⟩ := h; hs.lt
def keepP (d : Kd) (w : World) : Prop := d.ok ∧ ∀ b ∈ d.f, w.heap[b]? = d.W.heap[b]?
theorem keepP.st {d : Kd} {w w' : World} (h : keepP d w) (hb : ∀ b ∈ d.f, w'.heap[b]? = w.heap[b]?) : keepP d w' := ⟨h.1, fun b hm => (hb b hm).trans (h.2 b hm)⟩
theorem keepP.lt {d : Kd} {w : World} (h : keepP d w) : ∀ b ∈ d.f, b < w.heap.size := by
  intro b hb
  have h1 := h.2 b hb
  rw [Array.getElem?_eq_getElem (h.1.lt b hb)] at h1
  exact (Array.getElem?_eq_some_iff.1 h1).1
theorem keepP.rd {d : Kd} {w : World} (h : keepP d w) {a : Option Addr} {c : Nat} {xs : List UInt8} (hs : SlR byteL d.W a xs d.f) : Rd byteL w a xs := ⟨d.f, hs.st h.2⟩
/-- the bytes are as they were -/
def keepA (d : Kd) : Ass := ⟨fun w fp => fp = d.f ∧ keepP d w, fun w w' fp h hb => ⟨h.1, h.2.st (by rw [← h.1]; exact hb)⟩, fun w fp h => by rw [h.1]; exact h.2.lt⟩
/-- a cursor over them -/
def curO (d : Kd) (t : TypeId) (p : Value) : Ass :=
  ⟨fun w fp => ∃ b i h, p = .pointer (some ⟨b, 0, none⟩) ∧ 0 ≤ i ∧ fp = b :: d.f ∧ w.heap[b]? = some (.cells #[d.v, vi i, vi h] t (0, 0)) ∧ keepP d w,
    fun w w' fp ⟨b, i, h, h1, h2, h3, h4, h5⟩ hb => ⟨b, i, h, h1, h2, h3, (hb b (by rw [h3]; simp)).trans h4, h5.st (fun x hx => hb x (by rw [h3]; simp [hx]))⟩,
    fun w fp ⟨b, i, h, h1, h2, h3, h4, h5⟩ x hx => by
      rw [h3] at hx
      rcases List.mem_cons.1 hx with rfl | hx
      · exact (Array.getElem?_eq_some_iff.1 h4).1
      · exact h5.lt x hx⟩
/-- whose bytes these are -/
def IsCur (p : Value) (d : Kd) : Prop := True
theorem isCur {p : Value} {d : Kd} : IsCur p d := trivial
def IsKd (v : Value) (d : Kd) : Prop := d.v = v
/-- a result of which a property is told -/
def RWk {α ι : Type} (P : α → Prop) (val : α → ι → Value) (own : α → ι → List Ass) (O : List Ass) : Res := ⟨{x : α // P x} × ι, fun q => val q.1.1 q.2, fun q => own q.1.1 q.2 ++ O⟩
/-- a result with one more value -/
def W2 {α β ι : Type} (valA : α → ι → Value) (valB : β → Value) : α × β → ι → Value := fun z q => .tuple #[valA z.1 q, valB z.2]
def W2o {α β ι : Type} (own : α → ι → List Ass) : α × β → ι → List Ass := fun z q => own z.1 q
abbrev RW2 {α β ι : Type} (P : α × β → Prop) (valA : α → ι → Value) (own : α → ι → List Ass) (valB : β → Value) (O : List Ass) : Res := RWk P (W2 valA valB) (W2o own) O
section rules
variable {X : List Nat} {P : Program} {N : Nat} {W : World} {S0 : List Nat} {Q : Exit → Go.Act → World → Prop} {T : Tm} {L : Bx} {C : List Ass} {ops : Array Oper} {Kn : List (Nat × Nat)} {i : Nat} {bs : List Nat} {L0 : Bx} {Ks : Keys} {T0 : Tm} {f : Nat} {Ls : List Nat} {la : Array Bool}
theorem gOC {K : Go.Act → World → Prop} {d : Kd} {t : TypeId} {p : Value} {j : Nat} {R : List Ass} (hp : pull j C = some (curO d t p, R))
    (k : ∀ b i h, p = .pointer (some ⟨b, 0, none⟩) → 0 ≤ i → G N W S0 K T L (R ++ [ptC b t [d.v, vi i, vi h], keepA d])) : G N W S0 K T L C := by
  rintro a w ⟨bs, fps, ht, hb, hm⟩
  obtain ⟨xps, hx, hnx, hex⟩ := hm.exch (js := [j]) (pre := [curO d t p]) (R := R) (by simp [pulls, hp])
  match xps, hx with
  | [fp], ⟨⟨b, i, h, h1, h2, h3, h4, h5⟩, _⟩ =>
    subst h3
    obtain ⟨fps', hmem⟩ := hex w [ptC b t [d.v, vi i, vi h], keepA d] [[b], d.f] ⟨⟨rfl, h4⟩, ⟨rfl, h5⟩, trivial⟩ (by simpa using hnx) (fun x hx _ => by simpa using hx) (Fr.refl _ _)
    exact k b i h h1 h2 a w ⟨bs, fps', ht, hb, hmem⟩
theorem gCC {K : Go.Act → World → Prop} {d : Kd} {t : TypeId} {b : Nat} {i h : Int} {j1 j2 : Nat} {R1 R : List Ass} (hp1 : pull j1 C = some (ptC b t [d.v, vi i, vi h], R1)) (hp2 : pull j2 R1 = some (keepA d, R)) (hi : 0 ≤ i)
    (k : G N W S0 K T L (R ++ [curO d t (.pointer (some ⟨b, 0, none⟩))])) : G N W S0 K T L C := by
  rintro a w ⟨bs, fps, ht, hb, hm⟩
  obtain ⟨xps, hx, hnx, hex⟩ := hm.exch (js := [j1, j2]) (pre := [ptC b t [d.v, vi i, vi h], keepA d]) (R := R) (by simp [pulls, hp1, hp2])
  match xps, hx with
  | [fp, gp], ⟨⟨h1, h2⟩, ⟨h3, h4⟩, _⟩ =>
    subst h1 h3
    obtain ⟨fps', hmem⟩ := hex w [curO d t (.pointer (some ⟨b, 0, none⟩))] [b :: d.f] ⟨⟨b, i, h, rfl, hi, rfl, h2, h4⟩, trivial⟩ (by simpa using hnx) (fun x hx _ => by simpa using hx) (Fr.refl _ _)
    exact k a w ⟨bs, fps', ht, hb, hmem⟩
/-- a cursor is given up -/
theorem gCK {K : Go.Act → World → Prop} {d : Kd} {t : TypeId} {p : Value} {j : Nat} {R : List Ass} (hp : pull j C = some (curO d t p, R)) (k : G N W S0 K T L (R ++ [keepA d])) : G N W S0 K T L C := by
  rintro a w ⟨bs, fps, ht, hb, hm⟩
  obtain ⟨xps, hx, hnx, hex⟩ := hm.exch (js := [j]) (pre := [curO d t p]) (R := R) (by simp [pulls, hp])
  match xps, hx with
  | [fp], ⟨⟨b, i, h, h1, h2, h3, h4, h5⟩, _⟩ =>
    subst h3
    obtain ⟨fps', hmem⟩ := hex w [keepA d] [d.f] ⟨⟨rfl, h5⟩, trivial⟩ (by
      have := hnx
      simp only [List.flatten_cons, List.flatten_nil, List.append_nil, List.nodup_cons] at this ⊢
      exact this.2) (fun x hx _ => by simp at hx; simp [hx]) (Fr.refl _ _)
    exact k a w ⟨bs, fps', ht, hb, hmem⟩
theorem cOC {c : Code} {d : Kd} {t : TypeId} {p : Value} {j : Nat} {R : List Ass} (hp : pull j C = some (curO d t p, R) := by exact PU) (k : ∀ b i h, p = .pointer (some ⟨b, 0, none⟩) → 0 ≤ i → CD X P N W S0 c Q T L (R ++ [ptC b t [d.v, vi i, vi h], keepA d])) : CD X P N W S0 c Q T L C := gOC (K := c.wp P Q) hp k
theorem cCC {c : Code} {d : Kd} {t : TypeId} {b : Nat} {i h : Int} {j1 j2 : Nat} {R1 R : List Ass} (hp1 : pull j1 C = some (ptC b t [d.v, vi i, vi h], R1) := by exact PU) (hp2 : pull j2 R1 = some (keepA d, R) := by exact PU) (hi : 0 ≤ i)
    (k : CD X P N W S0 c Q T L (R ++ [curO d t (.pointer (some ⟨b, 0, none⟩))])) : CD X P N W S0 c Q T L C := gCC (K := c.wp P Q) hp1 hp2 hi k
theorem cCK {c : Code} {d : Kd} {t : TypeId} {p : Value} {j : Nat} {R : List Ass} (hp : pull j C = some (curO d t p, R) := by exact PU) (k : CD X P N W S0 c Q T L (R ++ [keepA d])) : CD X P N W S0 c Q T L C := gCK (K := c.wp P Q) hp k
theorem cPV {c : Code} {d b : Nat} (hd : lk T d = some (.e (some ⟨b, 0, none⟩) 0 0)) (k : CD X P N W S0 c Q ((d, .v (.pointer (some ⟨b, 0, none⟩))) :: T) L C) : CD X P N W S0 c Q T L C := ASV (K := c.wp P Q) hd k
/-- what is known of the bytes -/
theorem gKV {K : Go.Act → World → Prop} {d : Kd} {j : Nat} (hC : C[j]? = some (keepA d)) (k : d.ok → G N W S0 K T L C) : G N W S0 K T L C := by
  rintro a w h
  obtain ⟨bs, fps, ht, hb, hm⟩ := h
  obtain ⟨fp, h1⟩ := hm.at_.own j hC
  exact k h1.2.1 a w ⟨bs, fps, ht, hb, hm⟩
theorem cKV {c : Code} {d : Kd} {j : Nat} (hC : C[j]? = some (keepA d) := by exact NT) (k : d.ok → CD X P N W S0 c Q T L C) : CD X P N W S0 c Q T L C := gKV (K := c.wp P Q) hC k
theorem keepA.rd {w : World} {d : Kd} {j : Nat} (hw : At W S0 C w) {a : Option Addr} {xs : List UInt8} (hs : SlR byteL d.W a xs d.f) (hC : C[j]? = some (keepA d) := by exact NT) : Rd byteL w a xs := by
  obtain ⟨fp, h1⟩ := hw.own j hC
  exact ⟨d.f, hs.st h1.2.2⟩
/-- calls of which a property is told -/
theorem aCW {fn : FuncId} {S : Prop} [inst : HasC P fn S] {vs : Array Value} {d : Nat} {pre R : List Ass} {js : List Nat} {α ι : Type} {Pp : α → Prop} {val : α → ι → Value} {own : α → ι → List Ass} {O : List Ass}
    (hcon : S → ∀ w, At W S0 C w → Spec P w pre fn vs (RWk Pp val own O)) (hp : pulls js C = some (pre, R)) (k : ∀ x, Pp x → ∀ q, OPL X P N W S0 ops Q Kn (i + 1) ((d, .v (val x q)) :: T) L (R ++ (own x q ++ O)))
    (hi : Nat.blt i ops.size = true := by rfl) (hc : callOf P ops T i = some (fn, vs, some d) := by kernel_rfl) (hd : ∀ k, some d = some k → k < N := by exact NO rfl) : AT (.call fn vs (some d)) X P N W S0 ops Q Kn i T L C :=
  opsOne (lt_of_blt hi) (CALL fn vs (some d) hc js pre R hp (RWk Pp val own O) (hcon inst.pf) hd fun x => k x.1.1 x.1.2 x.2)
theorem hCW {fn : FuncId} {S : Prop} [inst : HasC P fn S] {vs : Array Value} {d : Nat} {pre R : List Ass} {js : List Nat} {α ι : Type} {Pp : α → Prop} {val : α → ι → Value} {own : α → ι → List Ass} {O : List Ass}
    (hcon : S → ∀ w, At W S0 C w → Spec P w pre fn vs (RWk Pp val own O)) (hp : pulls js C = some (pre, R)) (k : ∀ x, Pp x → ∀ q, HL X P N W S0 ops Q bs L0 Ks T0 f (i :: Ls) (la.setIfInBounds i true) Kn ((d, .v (val x q)) :: T) L (R ++ (own x q ++ O))) (hC : KP (frz bs L0) Ks (i :: Ls) (la.setIfInBounds i true) R := by exact KP.mk)
    (hc : callOf P ops T i = some (fn, vs, some d) := by kernel_rfl) (hd : ∀ k, some d = some k → k < N := by exact NO rfl) : HO (.call fn vs (some d)) i X P N W S0 ops Q bs L0 Ks T0 f Ls la Kn T L C :=
  CALL fn vs (some d) hc js pre R hp (RWk Pp val own O) (hcon inst.pf) hd fun x => hKEEP hC.app (k x.1.1 x.1.2 x.2)
/-- a result of which a property is told is handed back -/
theorem rWK {v : Value} {α ι : Type} {Pp : α → Prop} {val : α → ι → Value} {own : α → ι → List Ass} {O R R2 : List Ass} {js : List Nat} {x : α} (hr : RP v ⟨ι, val x, own x⟩ C R) (hO : pulls js R = some (O, R2)) (hP : Pp x) : RETG v (RWk Pp val own O) C := by
  obtain ⟨q, ks, h1, h2⟩ := hr
  exact ⟨(⟨x, hP⟩, q), ks ++ js, h1, by rw [pulls_app h2 hO]; rfl⟩
theorem rWV {v : Value} {α : Type} {Pp : α → Prop} {val : α → Unit → Value} {O R2 : List Ass} {js : List Nat} {x : α} (hP : Pp x) (hO : pulls js C = some (O, R2)) (hv : v = val x () := by rfl) : RETG v (RWk Pp val (fun _ _ => []) O) C := ⟨(⟨x, hP⟩, ()), js, hv, by rw [hO]; rfl⟩
/-- bits -/
theorem rAND {t t2 ty : TypeId} {x y : Operand} {a b : Int} (hx : evv T x = some (.int .i64 a) := by conv => lhs; whnf) (hy : evv T y = some (.int .i64 b) := by conv => lhs; whnf) : Runs P W S0 T C (.binOp .and t x y t2) ty (vi (wr (((BitVec.ofInt 64 a &&& BitVec.ofInt 64 b).toNat : Nat) : Int))) := by
  intro ac o bs w hev hop _ _
  have h1 : ac.eval x = .int .i64 a := hev x _ (evo_of_evv hx)
  have h2 : ac.eval y = .int .i64 b := hev y _ (evo_of_evv hy)
  simp [execOp, hop, h1, h2, eqGuard, binOp, Op.intBits, Sem.run_bind, Sem.run_pure]
  rfl
theorem rXOR {t t2 ty : TypeId} {x y : Operand} {a b : Int} (hx : evv T x = some (.int .i64 a) := by conv => lhs; whnf) (hy : evv T y = some (.int .i64 b) := by conv => lhs; whnf) : Runs P W S0 T C (.binOp .xor t x y t2) ty (vi (wr (((BitVec.ofInt 64 a ^^^ BitVec.ofInt 64 b).toNat : Nat) : Int))) := by
  intro ac o bs w hev hop _ _
  have h1 : ac.eval x = .int .i64 a := hev x _ (evo_of_evv hx)
  have h2 : ac.eval y = .int .i64 b := hev y _ (evo_of_evv hy)
  simp [execOp, hop, h1, h2, eqGuard, binOp, Op.intBits, Sem.run_bind, Sem.run_pure]
  rfl
theorem rSHR {t t2 ty : TypeId} {x y : Operand} {kd : IntKind} {a b : Int} (hx : evv T x = some (.int .i64 a) := by conv => lhs; whnf) (hy : evv T y = some (.int kd b) := by conv => lhs; whnf) (h0 : 0 ≤ b := by decide) (h1 : b < 64 := by decide) : Runs P W S0 T C (.binOp .shr t x y t2) ty (vi (a / 2 ^ b.toNat)) := by
  intro ac o bs w hev hop _ _
  have h1 : ac.eval x = .int .i64 a := hev x _ (evo_of_evv hx)
  have h2 : ac.eval y = .int kd b := hev y _ (evo_of_evv hy)
  simp [execOp, hop, h1, h2, eqGuard, binOp, Op.shift, Sem.run_bind, Sem.run_pure]
/-- a byte out of what is kept -/
theorem aIK {t : TypeId} {x ix : Operand} {dd : Nat} {ty : TypeId} {a : Option Addr} {c z : Nat} {kd : IntKind} {xs : List UInt8} {d : Kd} {e sz j n : Nat} [TB P]
    (hix : evv T ix = some (.int kd (z : Int)) := by conv => lhs; whnf) (hx : evv T x = some (.slice a n c) := by conv => lhs; whnf) (ho : lkn (TB.D P).row t = some (e, sz) := by conv => lhs; whnf) (hs : SlR byteL d.W a xs d.f) (hC : C[j]? = some (keepA d) := by exact NT) (hn : n = xs.length := by rfl) (hz : z < xs.length)
    (k : OPL X P N W S0 ops Q Kn (i + 1) ((dd, .e a (z * sz) 0) :: T) L C) (hi : Nat.blt i ops.size = true := by rfl) (hoa : opAt ops T i = some (.indexAddr t x ix, some dd, ty) := by kernel_rfl) (hd : dd < N := by exact NL rfl) (hu : P.underlying t = some (.slice e) := by kernel_rfl) (hsz : (P.info? e).map (·.size) = some sz := by kernel_rfl) :
    AT (.op (.indexAddr t x ix) (some dd) ty) X P N W S0 ops Q Kn i T L C := by
  subst hn
  exact aIN k hix hx ho (fun w hw => Rd.some (keepA.rd hw hs hC) (by omega)) hz hi hoa hd hu hsz
theorem aIKz {t : TypeId} {x ix : Operand} {dd : Nat} {ty : TypeId} {a : Option Addr} {c : Nat} {z : Int} {kd : IntKind} {xs : List UInt8} {d : Kd} {e sz j n : Nat} [TB P]
    (hix : evv T ix = some (.int kd z) := by conv => lhs; whnf) (hx : evv T x = some (.slice a n c) := by conv => lhs; whnf) (ho : lkn (TB.D P).row t = some (e, sz) := by conv => lhs; whnf) (hs : SlR byteL d.W a xs d.f) (hC : C[j]? = some (keepA d) := by exact NT) (hn : n = xs.length := by rfl) (h0 : 0 ≤ z) (hz : z < xs.length)
    (k : OPL X P N W S0 ops Q Kn (i + 1) ((dd, .e a (z.toNat * sz) 0) :: T) L C) (hi : Nat.blt i ops.size = true := by rfl) (hoa : opAt ops T i = some (.indexAddr t x ix, some dd, ty) := by kernel_rfl) (hd : dd < N := by exact NL rfl) (hu : P.underlying t = some (.slice e) := by kernel_rfl) (hsz : (P.info? e).map (·.size) = some sz := by kernel_rfl) :
    AT (.op (.indexAddr t x ix) (some dd) ty) X P N W S0 ops Q Kn i T L C := by
  subst hn
  exact aIX k hx hix ho (fun w hw => Rd.some (keepA.rd hw hs hC) (by omega)) h0 hz hi hoa hd hu hsz
theorem aLK {t : TypeId} {x : Operand} {dd : Nat} {ty : TypeId} {a : Option Addr} {z : Nat} {xs : List UInt8} {d : Kd} {j : Nat} [TB P]
    (hx : evo T x = some (.e a (z * 1) 0) := by conv => lhs; whnf) (hs : SlR byteL d.W a xs d.f) (hC : C[j]? = some (keepA d) := by exact NT) (hz : z < xs.length) (k : OPL X P N W S0 ops Q Kn (i + 1) ((dd, .v (.int .u8 (xs[z].toNat : Int))) :: T) L C)
    (hi : Nat.blt i ops.size = true := by rfl) (ho : opAt ops T i = some (.load t x, some dd, ty) := by kernel_rfl) (hd : dd < N := by exact NL rfl) (hl : loadOf P t [.int .u8 (xs[z].toNat : Int)] 0 = some (.int .u8 (xs[z].toNat : Int)) := by kernel_rfl) :
    AT (.op (.load t x) (some dd) ty) X P N W S0 ops Q Kn i T L C :=
  opsOne (lt_of_blt hi) (LOADE t x dd ty ho hd a (z * 1) 0 [.int .u8 (xs[z].toNat : Int)] _ hx (fun w hw => Rd.flat (keepA.rd hw hs hC) (List.getElem?_eq_getElem hz)) hl k)
theorem qLK {t : TypeId} {x : Operand} {dd : Nat} {ty : TypeId} {a : Option Addr} {z : Nat} {xs : List UInt8} {d : Kd} {j : Nat} [TB P]
    (hx : evo T x = some (.e a (z * 1) 0) := by conv => lhs; whnf) (hs : SlR byteL d.W a xs d.f) (hC : C[j]? = some (keepA d) := by exact NT) (hz : z < xs.length) (k : QL X P N W S0 ops Q Kn (i + 1) ((dd, .v (.int .u8 (xs[z].toNat : Int))) :: T) L C)
    (ho : opAt ops T i = some (.load t x, some dd, ty) := by kernel_rfl) (hd : dd < N := by exact NL rfl) (hl : loadOf P t [.int .u8 (xs[z].toNat : Int)] 0 = some (.int .u8 (xs[z].toNat : Int)) := by kernel_rfl) :
    QT (.op (.load t x) (some dd) ty) X P N W S0 ops Q Kn i T L C :=
  QLOADE t x dd ty ho hd a (z * 1) 0 [.int .u8 (xs[z].toNat : Int)] _ hx (fun w hw => Rd.flat (keepA.rd hw hs hC) (List.getElem?_eq_getElem hz)) hl k
theorem rWN {v : Value} {α ι : Type} {Pp : α → Prop} {val : α → ι → Value} {own : α → ι → List Ass} {O R2 : List Ass} {js : List Nat} (x : α) (q : ι) (hP : Pp x) (hp : pulls js C = some (own x q ++ O, R2)) (hv : v = val x q := by rfl) : RETG v (RWk Pp val own O) C := ⟨(⟨x, hP⟩, q), js, hv, by rw [hp]; rfl⟩
theorem RPW {v : Value} {r : Res} {R : List Ass} (h : RP v r C R := by
    first
    | exact ⟨(), [], rfl, pl0⟩
    | exact pOWN (h := rfl)
    | exact pHO (h := rfl)
    | exact pWh (h := rfl)
    | exact pRu (h := rfl)
    | exact pCa (h := rfl)) : RP v r C R := h
theorem rW2 {v1 v2 : Value} {α β ι : Type} {Pp : α × β → Prop} {valA : α → ι → Value} {own : α → ι → List Ass} {valB : β → Value} {O R R2 : List Ass} {js : List Nat} {x : α} {y : β} (hr : RP v1 ⟨ι, valA x, own x⟩ C R) (hO : pulls js R = some (O, R2)) (hP : Pp (x, y)) (hv : v2 = valB y := by rfl) :
    RETG (.tuple ⟨[v1, v2]⟩) (RWk Pp (W2 valA valB) (W2o own) O) C := by
  obtain ⟨q, ks, h1, h2⟩ := hr
  subst hv
  exact ⟨(⟨(x, y), hP⟩, q), ks ++ js, by rw [show v1 = valA x q from h1]; rfl, by rw [pulls_app h2 hO]; rfl⟩
theorem idRW {v : Value} {α ι : Type} {Pp : α → Prop} {val : α → ι → Value} {own : α → ι → List Ass} {O : List Ass} (k : RETG v (RWk Pp val own O) C) : RETG v (RWk Pp val own O) C := k
theorem goT {t : TypeId} {x : Operand} {a b c : Option Operand} {d : Option Nat} {ty : TypeId} (k : HO (.op (.slice t x a b c) d ty) i X P N W S0 ops Q bs L0 Ks T0 f Ls la Kn T L C) : HO (.op (.slice t x a b c) d ty) i X P N W S0 ops Q bs L0 Ks T0 f Ls la Kn T L C := k
theorem own_cap {w : World} {e : TypeId} {α : Type} {La : Lay α} {a : Option Addr} {n cap j : Nat} {xs : List α} {R : List Ass} (hw : At W S0 C w) (hp : pull j C = some (slA e La (.slice a n cap) xs, R)) : n ≤ cap := by
  obtain ⟨fps, hh, _⟩ := hw.ch
  obtain ⟨fp, gps, ha, _⟩ := holds.pull j hh hp
  have h1 := SlO.capE ⟨fp, ha⟩
  have h2 := (SlO.lenE ⟨fp, ha⟩).1
  omega
/-- an owned row, cut behind its first elements -/
theorem hCHO [TB P] {t : TypeId} {x hi : Operand} {d : Nat} {ty : TypeId} {kl : IntKind} {z : Int} {n cap j : Nat} {a : Option Addr} {e : TypeId} {α : Type} {La : Lay α} {xs : List α} {R : List Ass}
    (hl : evv T hi = some (.int kl z) := by conv => lhs; whnf) (hx : evv T x = some (.slice a n cap) := by conv => lhs; whnf) (hp : pull j C = some (slA e La (.slice a n cap) xs, R) := by exact PU) (h0 : 0 ≤ z) (hz : z ≤ n) (hn : n = xs.length := by rfl)
    (k : HL X P N W S0 ops Q bs L0 Ks T0 f (i :: Ls) (la.setIfInBounds i true) Kn ((d, .v (.slice a z.toNat cap)) :: T) L (R ++ [slA e La (.slice a z.toNat cap) (xs.take z.toNat)])) (hR : KP (frz bs L0) Ks (i :: Ls) (la.setIfInBounds i true) R := by exact KP.mk)
    (ho : opAt ops T i = some (.slice t x none (some hi) none, some d, ty) := by kernel_rfl) (hd : d < N := by exact NL rfl) (hu : P.underlying t = some (.slice e) := by kernel_rfl) (hs : (P.info? e).map (·.size) = some La.sz := by kernel_rfl) :
    HO (.op (.slice t x none (some hi) none) (some d) ty) i X P N W S0 ops Q bs L0 Ks T0 f Ls la Kn T L C :=
  FACT _ (fun w hw => own_cap hw hp) fun hcap => CUTO t x hi d ty ho hd a n cap kl z hx hl e La xs hu hs h0 hz hn hcap j R (by simp [pulls, hp]) (hKEEP hR.app k)
theorem aCHO [TB P] {t : TypeId} {x hi : Operand} {d : Nat} {ty : TypeId} {kl : IntKind} {z : Int} {n cap j : Nat} {a : Option Addr} {e : TypeId} {α : Type} {La : Lay α} {xs : List α} {R : List Ass}
    (hl : evv T hi = some (.int kl z) := by conv => lhs; whnf) (hx : evv T x = some (.slice a n cap) := by conv => lhs; whnf) (hp : pull j C = some (slA e La (.slice a n cap) xs, R) := by exact PU) (h0 : 0 ≤ z) (hz : z ≤ n) (hn : n = xs.length := by rfl)
    (k : OPL X P N W S0 ops Q Kn (i + 1) ((d, .v (.slice a z.toNat cap)) :: T) L (R ++ [slA e La (.slice a z.toNat cap) (xs.take z.toNat)])) (hi9 : Nat.blt i ops.size = true := by rfl)
    (ho : opAt ops T i = some (.slice t x none (some hi) none, some d, ty) := by kernel_rfl) (hd : d < N := by exact NL rfl) (hu : P.underlying t = some (.slice e) := by kernel_rfl) (hs : (P.info? e).map (·.size) = some La.sz := by kernel_rfl) :
    AT (.op (.slice t x none (some hi) none) (some d) ty) X P N W S0 ops Q Kn i T L C :=
  opsOne (lt_of_blt hi9) (FACT _ (fun w hw => own_cap hw hp) fun hcap => CUTO t x hi d ty ho hd a n cap kl z hx hl e La xs hu hs h0 hz hn hcap j R (by simp [pulls, hp]) k)
theorem STD {A B : Prop} (k : B) (h : B → A := by
    intro k
    first
    | (refine idAT ?_
       first
       | (refine aCa ?_; exact aCW (hcon := by intro c w hw; first | (apply c <;> exact SIDE) | fail) (hp := by first | exact plS PU pl0 | exact plS PU (plS PU pl0) | exact pl0 | exact plS PU (plS PU (plS PU (plS PU (plS PU (plS PU pl0)))))) (k := k))
       | (refine aBi ?_
          first
          | exact aRV rAND k
          | exact aRV rXOR k
          | exact aRV rSHR k))
    | (refine idHO ?_; refine goT ?_; exact hCHO (h0 := by omega) (hz := by omega) (k := k))
    | (refine idAT ?_; refine gtC ?_; exact aCHO (h0 := by omega) (hz := by omega) (k := k))
    | (refine idQT ?_; refine qBi ?_
       first
       | exact qRV rAND k
       | exact qRV rXOR k
       | exact qRV rSHR k)
    | (refine idHO ?_; refine goC ?_; exact hCW (hcon := by intro c w hw; first | (apply c <;> exact SIDE) | fail) (hp := by first | exact plS PU pl0 | exact plS PU (plS PU pl0) | exact pl0 | exact plS PU (plS PU (plS PU (plS PU (plS PU (plS PU pl0)))))) (k := k))
    | (refine idRW ?_
       first
       | exact rWV (hP := k) (hO := by first | exact plS PU pl0 | exact plS PU (plS PU pl0) | exact pl0 | exact plS PU (plS PU (plS PU (plS PU (plS PU (plS PU pl0))))))
       | exact rWK (hr := RPW) (hP := k) (hO := by first | exact plS PU pl0 | exact plS PU (plS PU pl0) | exact pl0 | exact plS PU (plS PU (plS PU (plS PU (plS PU (plS PU pl0))))))
       | exact rW2 (hr := RPW) (hP := k) (hO := by first | exact pl0 | exact plS PU pl0 | exact plS PU (plS PU pl0) | exact plS PU (plS PU (plS PU (plS PU (plS PU (plS PU pl0)))))))) : A := h k
end rules
theorem cellsRep_fl {α : Type} {sz : Nat} {enc : α → List Value} {h : ∀ x, (enc x).length = sz ∧ ∀ u ∈ enc x, isCell u = true} {m : Bool} {w : World} : ∀ {xs : List α} {cells : List Value} {f : List Nat}, cellsRep (flat sz enc h) m w cells xs f → f = []
  | [], _, _, hc => hc.2
  | x :: xs, _, _, ⟨_, _, f1, f2, _, h2, h3, h4⟩ => by
    have e1 : f1 = [] := h3.2
    rw [h2, e1, cellsRep_fl h4]; rfl
theorem keep_nd {W : World} {a : Option Addr} {xs : List UInt8} {f : List Nat} (h : SlR byteL W a xs f) : f.Nodup := by
  rcases h.2 with ⟨_, rfl⟩ | ⟨b, o, g, cells, _, _, rfl, hc, _⟩
  · exact List.nodup_nil
  · rw [cellsRep_fl hc]; simp
/-- a law that is shown with its bytes kept -/
theorem lawK {P : Program} {W : World} {f : FuncId} {code : List UInt8} {a : Option Addr} {c : Nat} (h : ∀ (d : Kd) (v : Value), IsKd v d → Spec P W [keepA d] f #[v] ⟨Unit, fun _ => .bool true, fun _ => [keepA d]⟩) (hr : Rd byteL W a code) (hc : code.length ≤ c) :
    Calls P f #[.slice a code.length c] W fun e w' => e = .returned (.bool true) ∧ Below W.heap.size W w' := by
  obtain ⟨fp, hs⟩ := hr
  have hk : (keepA ⟨W, fp, .slice a code.length c⟩).φ W fp := ⟨rfl, ⟨a, c, code, rfl, hc, hs⟩, fun b _ => rfl⟩
  refine (h ⟨W, fp, .slice a code.length c⟩ _ rfl [fp] ⟨hk, trivial⟩ (by simpa using keep_nd hs)).mono ?_
  rintro e w' ⟨x, nps, rfl, hown, _, _, hfr⟩
  refine ⟨rfl, Fr.below ⟨hfr.os, hfr.tape, hfr.output, hfr.size, fun b hb _ => ?_⟩⟩
  by_cases hm : b ∈ fp
  · match nps, hown with
    | [gp], ⟨h1, _⟩ => exact h1.2.2 b hm
  · exact hfr.block b hb (by simpa using hm)
end SX
end Go.Proofs.YtapbooddmdkgjaaGreat
