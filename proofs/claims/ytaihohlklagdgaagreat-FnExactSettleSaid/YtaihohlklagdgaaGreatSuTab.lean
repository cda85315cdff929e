/- Texts of this claim, put together by program. -/
import Derived.Test.YtaihohlklagdgaaGreatSu8
import Derived.Test.YtaihohlklagdgaaGreatProg
/- The engine: one step, found by trying. It imports no program. -/
namespace Go.Proofs.YtaihohlklagdgaaGreat
namespace SX
set_option linter.unusedVariables false
set_option linter.unusedSimpArgs false
open Go Go.RowKit
section step
variable {X : List Nat} {P : Program} {N : Nat} {W : World} {S0 : List Nat} {Q : Exit → Go.Act → World → Prop} {T : Tm} {L : Bx} {C : List Ass} {ops : Array Oper} {Kn : List (Nat × Nat)} {i : Nat}
theorem idAT {x : Nx} (k : AT x X P N W S0 ops Q Kn i T L C) : AT x X P N W S0 ops Q Kn i T L C := k
theorem aWr {n : Nat} {T' : Tm} {d : Nat} {e : Int} {L' : Bx} (k : AT (.wrp n T' d e L') X P N W S0 ops Q Kn i T L C) : AT (.wrp n T' d e L') X P N W S0 ops Q Kn i T L C := k
theorem aCa {f : FuncId} {vs : Array Value} {d : Option Nat} (k : AT (.call f vs d) X P N W S0 ops Q Kn i T L C) : AT (.call f vs d) X P N W S0 ops Q Kn i T L C := k
theorem aAs {d : Nat} (k : AT (.ask d) X P N W S0 ops Q Kn i T L C) : AT (.ask d) X P N W S0 ops Q Kn i T L C := k
theorem aIx {t : TypeId} {x ix : Operand} {d : Option Nat} {ty : TypeId} (k : AT (.op (.indexAddr t x ix) d ty) X P N W S0 ops Q Kn i T L C) : AT (.op (.indexAddr t x ix) d ty) X P N W S0 ops Q Kn i T L C := k
theorem aLd {t : TypeId} {x : Operand} {d : Option Nat} {ty : TypeId} (k : AT (.op (.load t x) d ty) X P N W S0 ops Q Kn i T L C) : AT (.op (.load t x) d ty) X P N W S0 ops Q Kn i T L C := k
theorem aBi {b : BinOp} {t z : TypeId} {x y : Operand} {d : Option Nat} {ty : TypeId} (k : AT (.op (.binOp b t x y z) d ty) X P N W S0 ops Q Kn i T L C) : AT (.op (.binOp b t x y z) d ty) X P N W S0 ops Q Kn i T L C := k
theorem qWr {n : Nat} {T' : Tm} {d : Nat} {e : Int} {L' : Bx} (k : QT (.wrp n T' d e L') X P N W S0 ops Q Kn i T L C) : QT (.wrp n T' d e L') X P N W S0 ops Q Kn i T L C := k
theorem qCa {f : FuncId} {vs : Array Value} {d : Option Nat} (k : QT (.call f vs d) X P N W S0 ops Q Kn i T L C) : QT (.call f vs d) X P N W S0 ops Q Kn i T L C := k
theorem qAs {d : Nat} (k : QT (.ask d) X P N W S0 ops Q Kn i T L C) : QT (.ask d) X P N W S0 ops Q Kn i T L C := k
theorem qIx {t : TypeId} {x ix : Operand} {d : Option Nat} {ty : TypeId} (k : QT (.op (.indexAddr t x ix) d ty) X P N W S0 ops Q Kn i T L C) : QT (.op (.indexAddr t x ix) d ty) X P N W S0 ops Q Kn i T L C := k
theorem qLd {t : TypeId} {x : Operand} {d : Option Nat} {ty : TypeId} (k : QT (.op (.load t x) d ty) X P N W S0 ops Q Kn i T L C) : QT (.op (.load t x) d ty) X P N W S0 ops Q Kn i T L C := k
theorem qBi {b : BinOp} {t z : TypeId} {x y : Operand} {d : Option Nat} {ty : TypeId} (k : QT (.op (.binOp b t x y z) d ty) X P N W S0 ops Q Kn i T L C) : QT (.op (.binOp b t x y z) d ty) X P N W S0 ops Q Kn i T L C := k
theorem idOPL (k : OPL X P N W S0 ops Q Kn i T L C) : OPL X P N W S0 ops Q Kn i T L C := k
theorem idQT {x : Nx} (k : QT x X P N W S0 ops Q Kn i T L C) : QT x X P N W S0 ops Q Kn i T L C := k
theorem idCD {c : Code} (k : CD X P N W S0 c Q T L C) : CD X P N W S0 c Q T L C := k
theorem idBK {ι : Type} {Tf : ι → Tm} {Lf : ι → Bx} {Cf : ι → List Ass} {Inv : ι → Prop} {m : ι → Nat} {j : ι} {Q : Exit → Go.Act → World → Prop} (k : DN X N W S0 (Exit.then (BKP N W S0 Tf Lf Cf Inv m j) Q) .normal T L C) : DN X N W S0 (Exit.then (BKP N W S0 Tf Lf Cf Inv m j) Q) .normal T L C := k
theorem idDN {e : Exit} (k : DN X N W S0 Q e T L C) : DN X N W S0 Q e T L C := k
theorem idCND {b : Bool} {A B : Prop} (k : CND b A B) : CND b A B := k
theorem idHT {x : Hx} {bs : List Nat} {L0 : Bx} {Ks : Keys} {T0 : Tm} {f : Nat} {Ls : List Nat} {la : Array Bool} (k : HT x X P N W S0 ops Q bs L0 Ks T0 f Ls la Kn T L C) : HT x X P N W S0 ops Q bs L0 Ks T0 f Ls la Kn T L C := k
theorem idHO {x : Nx} {bs : List Nat} {L0 : Bx} {Ks : Keys} {T0 : Tm} {f : Nat} {Ls : List Nat} {la : Array Bool} (k : HO x i X P N W S0 ops Q bs L0 Ks T0 f Ls la Kn T L C) : HO x i X P N W S0 ops Q bs L0 Ks T0 f Ls la Kn T L C := k
theorem idRN {A : Ass} (k : CD X P N W S0 .ret Q T L (A :: C)) : CD X P N W S0 .ret Q T L (A :: C) := k
theorem idRS {a : Option Addr} {n c : Nat} {r : Res} (k : RETG (.slice a n c) r C) : RETG (.slice a n c) r C := k
theorem idRA {l : Array Value} {r : Res} (k : RETG (.agg l) r C) : RETG (.agg l) r C := k
theorem idRU {l : Array Value} {r : Res} (k : RETG (.tuple l) r C) : RETG (.tuple l) r C := k
theorem idRET {v : Value} {r : Res} (k : RETG v r C) : RETG v r C := k
theorem aRUN' [TB P] {n : Nat} {T' : Tm} {L' : Bx} {x : Nx} (k : AT x X P N W S0 ops Q Kn (i + n) T' L' C) (h : runP P N ops n ((List.range ops.size).drop i) T L = some (T', L') := by kernel_rfl) (h2 : nxt (TB.D P) ops Kn (i + n) T' L' = some x := by conv => lhs; whnf) : AT (.run n T' L') X P N W S0 ops Q Kn i T L C := aRUN k h
theorem qRUN' [TB P] {n : Nat} {T' : Tm} {x : Nx} (k : QT x X P N W S0 ops Q Kn (i + n) T' L C) (h : runQ P N ops L n i T = some T' := by kernel_rfl) (h2 : nxt (TB.D P) ops Kn (i + n) T' L = some x := by conv => lhs; whnf) : QT (.run n T' L) X P N W S0 ops Q Kn i T L C := qRUN k h
/-! ### Gates: what stands next, told at once -/
section gates
variable {d : Option Nat} {ty : TypeId} {bs : List Nat} {L0 : Bx} {Ks : Keys} {T0 : Tm} {f : Nat} {Ls : List Nat} {la : Array Bool}
theorem gtB {t : TypeId} {n : Nat} {ps : Array (Nat × Operand)} (k : AT (.op (.buildSlice t n ps) d ty) X P N W S0 ops Q Kn i T L C) : AT (.op (.buildSlice t n ps) d ty) X P N W S0 ops Q Kn i T L C := k
theorem gtC {t : TypeId} {x : Operand} {a b c : Option Operand} (k : AT (.op (.slice t x a b c) d ty) X P N W S0 ops Q Kn i T L C) : AT (.op (.slice t x a b c) d ty) X P N W S0 ops Q Kn i T L C := k
theorem gtP {c : Call} (k : AT (.op (.call c) d ty) X P N W S0 ops Q Kn i T L C) : AT (.op (.call c) d ty) X P N W S0 ops Q Kn i T L C := k
theorem gtS {t : TypeId} {x y : Operand} (k : AT (.op (.store t x y) d ty) X P N W S0 ops Q Kn i T L C) : AT (.op (.store t x y) d ty) X P N W S0 ops Q Kn i T L C := k
theorem gtR {n : Nat} {T' : Tm} {L' : Bx} (k : AT (.run n T' L') X P N W S0 ops Q Kn i T L C) : AT (.run n T' L') X P N W S0 ops Q Kn i T L C := k
theorem gtF (k : AT .fin X P N W S0 ops Q Kn i T L C) : AT .fin X P N W S0 ops Q Kn i T L C := k
theorem ghR {is l : List Nat} {T' : Tm} (k : HT (.run is l T') X P N W S0 ops Q bs L0 Ks T0 f Ls la Kn T L C) : HT (.run is l T') X P N W S0 ops Q bs L0 Ks T0 f Ls la Kn T L C := k
theorem ghA {e : Nat} (k : HT (.ask e) X P N W S0 ops Q bs L0 Ks T0 f Ls la Kn T L C) : HT (.ask e) X P N W S0 ops Q bs L0 Ks T0 f Ls la Kn T L C := k
theorem ghX {j : Nat} {t : TypeId} {x y : Operand} (k : HT (.op j (.indexAddr t x y) d ty) X P N W S0 ops Q bs L0 Ks T0 f Ls la Kn T L C) : HT (.op j (.indexAddr t x y) d ty) X P N W S0 ops Q bs L0 Ks T0 f Ls la Kn T L C := k
theorem ghL {j : Nat} {t : TypeId} {x : Operand} (k : HT (.op j (.load t x) d ty) X P N W S0 ops Q bs L0 Ks T0 f Ls la Kn T L C) : HT (.op j (.load t x) d ty) X P N W S0 ops Q bs L0 Ks T0 f Ls la Kn T L C := k
theorem ghC {j : Nat} {t : TypeId} {x : Operand} {a b c : Option Operand} (k : HT (.op j (.slice t x a b c) d ty) X P N W S0 ops Q bs L0 Ks T0 f Ls la Kn T L C) : HT (.op j (.slice t x a b c) d ty) X P N W S0 ops Q bs L0 Ks T0 f Ls la Kn T L C := k
theorem ghB {j : Nat} {b : BinOp} {t z : TypeId} {x y : Operand} (k : HT (.op j (.binOp b t x y z) d ty) X P N W S0 ops Q bs L0 Ks T0 f Ls la Kn T L C) : HT (.op j (.binOp b t x y z) d ty) X P N W S0 ops Q bs L0 Ks T0 f Ls la Kn T L C := k
theorem ghE (k : HT (.loud []) X P N W S0 ops Q bs L0 Ks T0 f Ls la Kn T L C) : HT (.loud []) X P N W S0 ops Q bs L0 Ks T0 f Ls la Kn T L C := k
theorem ghD {j : Nat} {l : List Nat} (k : HT (.loud (j :: l)) X P N W S0 ops Q bs L0 Ks T0 f Ls la Kn T L C) : HT (.loud (j :: l)) X P N W S0 ops Q bs L0 Ks T0 f Ls la Kn T L C := k
theorem goC {fn : FuncId} {vs : Array Value} (k : HO (.call fn vs d) i X P N W S0 ops Q bs L0 Ks T0 f Ls la Kn T L C) : HO (.call fn vs d) i X P N W S0 ops Q bs L0 Ks T0 f Ls la Kn T L C := k
theorem goB {t : TypeId} {n : Nat} {ps : Array (Nat × Operand)} (k : HO (.op (.buildSlice t n ps) d ty) i X P N W S0 ops Q bs L0 Ks T0 f Ls la Kn T L C) : HO (.op (.buildSlice t n ps) d ty) i X P N W S0 ops Q bs L0 Ks T0 f Ls la Kn T L C := k
theorem goP {c : Call} (k : HO (.op (.call c) d ty) i X P N W S0 ops Q bs L0 Ks T0 f Ls la Kn T L C) : HO (.op (.call c) d ty) i X P N W S0 ops Q bs L0 Ks T0 f Ls la Kn T L C := k
theorem goL {t : TypeId} {x : Operand} (k : HO (.op (.load t x) d ty) i X P N W S0 ops Q bs L0 Ks T0 f Ls la Kn T L C) : HO (.op (.load t x) d ty) i X P N W S0 ops Q bs L0 Ks T0 f Ls la Kn T L C := k
theorem goS {t : TypeId} {x y : Operand} (k : HO (.op (.store t x y) d ty) i X P N W S0 ops Q bs L0 Ks T0 f Ls la Kn T L C) : HO (.op (.store t x y) d ty) i X P N W S0 ops Q bs L0 Ks T0 f Ls la Kn T L C := k
end gates
/-- a premise of a contract -/
theorem SIDE {A : Prop} (h : A := by first | assumption | omega | exact Rd.fr (by assumption) (At.fr (by assumption)) | exact Rs.mk (by assumption) (by assumption) (At.fr (by assumption)) | exact Rs.own (by assumption) NT | exact RulesR.fr (by assumption) (At.fr (by assumption)) | exact RulesR.mk (by assumption) (by assumption) (At.fr (by assumption)) | exact CabinR.mk (by assumption) (by assumption) (by assumption) (by assumption) (At.fr (by assumption)) | exact HouseR.fr (by assumption) (At.fr (by assumption)) | exact HouseR.ownE (by assumption) NT NT NT NT NT | exact HouseR.own (by assumption) NT NT NT NT NT | exact RulesR.own (by assumption) NT | exact CabinR.own (by assumption) NT NT | exact Rs.ownN (by assumption) NT | exact HO9.ownE (by assumption) NT NT NT NT NT | exact HO9.own (by assumption) NT NT NT NT NT | exact SO9.own (by assumption) NT | exact HO9q.ownE (by assumption) NT NT NT NT NT | exact HO9q.own (by assumption) NT NT NT NT NT | (simp only [List.length_append, List.length_cons, List.length_nil, List.length_take, List.length_drop, List.length_set, List.length_replicate]; omega) | (solve_by_elim; done)) : A := h
/-- a step -/
theorem ST {A B : Prop} (k : B) (h : B → A := by
    intro k
    first
    | (refine idAT ?_
       first
       | (refine gtR ?_; exact aRUN' k)
       | (refine gtF ?_; exact aFIN k)
       | (refine aCa ?_
          first
          | exact aCV k (hcon := by intro c w hw; first | (apply c <;> exact SIDE) | fail)
          | exact aCX (hcon := by intro c w hw; first | (apply c <;> exact SIDE) | fail) (hp := by first | exact pl0 | exact plS PU pl0 | exact plS PU (plS PU pl0) | exact plS PU (plS PU (plS PU pl0)) | exact plS PU (plS PU (plS PU (plS PU (plS PU pl0))))) (k := k))
       | (refine aAs ?_
          first
          | exact aASK k
          | exact aASKU k)
       | (refine aIx ?_
          first
          | exact aIN k (ha := by intro w hw; exact Rd.some (by assumption) (by omega)) (hn := by omega)
          | exact aIX k (ha := by intro w hw; exact Rd.some (by assumption) (by omega)) (h0 := by omega) (hn := by omega)
          | exact aIO (k := k)
          | exact aIOz (k := k)
          | exact aIH (k := k)
          | exact aIHz (k := k))
       | (refine aLd ?_
          first
          | exact aLF (hr := by assumption) (hj := by omega) (k := k)
          | exact aLG (hr := by assumption) (hj := by omega) (k := k)
          | exact aLO (k := k)
          | exact aLH (k := k)
          | exact aHL (k := k))
       | (refine aWr ?_
          first
          | exact aWRN k (by omega)
          | exact aWRM k (by omega) (by omega)
          | exact aWRX k)
       | (refine aBi ?_
          first
          | exact aRV rQUO k
          | exact aRV rREM k
          | exact aRV rEQL k
          | exact aRV rNEQ k)
       | (refine gtB ?_
          first
          | exact aBUILD (k := k)
          | exact aBUS (k := k)
          | exact aBUC (k := k))
       | (refine gtC ?_
          first
          | exact aCH (hr := by assumption) (hc := by omega) (hz := by omega) (k := k)
          | exact aCL (hr := by assumption) (hc := by omega) (hz := by omega) (k := k)
          | exact aCHz (hr := by assumption) (hc := by omega) (h0 := INT) (hz := INT) (k := k)
          | exact aCLz (hr := by assumption) (hc := by omega) (h0 := INT) (hz := INT) (k := k))
       | (refine gtP ?_
          first
          | exact aAPR (hr := by assumption) (k := k)
          | exact aAPP (k := k)
          | exact aAPN (k := k)
          | exact aNIL (aAPP (k := k))
          | exact aNIL (aAPN (k := k))
          | exact aNIL (aAPR (hr := by assumption) (k := k)))
       | (refine gtS ?_
          first
          | exact aSO (k := k)
          | exact aSH (k := k)
          | exact aHS (k := k)))
    | (refine idOPL ?_; exact gNXT k)
    | (refine idCD ?_
       first
       | exact gSEQ (gRG (gNXT k))
       | exact gRG (gNXT k)
       | exact gSEQ k
       | exact gCD k
       | (refine idRN ?_
          first
          | exact gUNC (c := .ret) (k := k)
          | exact gUNS (c := .ret) (k := k))
       | exact gRET k
       | exact gSKIP (gNEXT k)
       | exact gSKIP k
       | exact gRQ (qNXT k)
       | exact gRH0 k
       | exact gRH1 (k := k)
       | exact gRH2 (k := k)
       | exact gRH3 (k := k)
       | exact gRH4 (k := k)
       | exact gRH5 (k := k)
       | exact gRH6 (k := k)
       | exact gBLOCK k
       | exact gEXIT k)
    | (refine idDN ?_
       first
       | exact gNEXT (gSEQ (gRG (gNXT k)))
       | exact gNEXT (gCD k)
       | exact gNEXT (gRG (gNXT k))
       | exact gNEXT k
       | exact gOUT k
       | exact gOUTN k
       | exact gOUTR k
       | exact gPASS k
       | exact gPASR k
       | (refine idBK ?_
          first
          | exact gFBACK k (by omega) (R := [])
          | exact gFABACK k (by omega) (R := [])
          | exact gFOBACK (α := Unit) (x' := ()) (hlt := by omega) (h := k)
          | exact gFOBACK (hlt := by omega) (h := k)
          | exact gFDBACK (hlt := by omega) (hk9 := by omega) (h := k)
          | exact gFBACK k (by omega))
       | exact gOUTX k (by decide))
    | (refine idCND ?_
       first
       | with_reducible exact cdT k
       | with_reducible exact cF k
       | with_reducible exact cNT k
       | with_reducible exact cNF k
       | exact cFK k)
    | (refine idQT ?_
       first
       | exact qRUN' k
       | exact qFIN k
       | (refine qCa ?_; exact qCV k (hcon := by intro c w hw; first | (apply c <;> exact SIDE) | fail))
       | (refine qAs ?_
          first
          | exact qASK k
          | exact qASKU k)
       | (refine qIx ?_
          first
          | exact qIN k (ha := Rd.some (by assumption) (by omega)) (hn := by omega)
          | exact qIX k (ha := Rd.some (by assumption) (by omega)) (h0 := by omega) (hn := by omega)
          | exact qIN k (ha := Iss.get (by assumption) (by omega)) (hn := by omega))
       | (refine qLd ?_
          first
          | exact qLF (hr := by assumption) (hj := by omega) (k := k)
          | exact qLG (hr := by assumption) (hj := by omega) (k := k)
          | exact qLO (k := k))
       | (refine qWr ?_
          first
          | exact qWRN k (by omega)
          | exact qWRM k (by omega) (by omega)
          | exact qWRX k)
       | (refine qBi ?_
          first
          | exact qRV rQUO k
          | exact qRV rREM k
          | exact qRV rEQL k
          | exact qRV rNEQ k))
    | exact qNXT k
    | exact hNXT (k := k)
    | (refine idHT ?_
       first
       | (refine ghR ?_; exact hRUN k)
       | (refine ghA ?_
          first
          | exact hASK k
          | exact hASKU k)
       | (refine ghX ?_
          first
          | exact hIX (ha := Rd.some (by assumption) (by omega)) (hn := by omega) (k := k)
          | exact hIXz (ha := Rd.some (by assumption) (by omega)) (h0 := by omega) (hn := by omega) (k := k)
          | exact hION (k := k)
          | exact hIO (k := k)
          | exact hIO (h0 := INTD) (hn := INTD) (k := k)
          | exact hIH (k := k))
       | (refine ghL ?_
          first
          | exact hLF (hr := by assumption) (hj := by omega) (k := k)
          | exact hLF2 (hr := by assumption) (hj := by omega) (k := k)
          | exact hLB (k := k)
          | exact hLK (k := k)
          | exact hLD (k := k))
       | (refine ghC ?_
          first
          | exact hCH (hr := by assumption) (hc := by omega) (hz := by omega) (k := k)
          | exact hCL (hr := by assumption) (hc := by omega) (hz := by omega) (k := k)
          | exact hCHz (hr := by assumption) (hc := by omega) (h0 := INT) (hz := INT) (k := k)
          | exact hCLz (hr := by assumption) (hc := by omega) (h0 := INT) (hz := INT) (k := k))
       | (refine ghB ?_
          first
          | exact hRV rQUO k
          | exact hRV rREM k
          | exact hRV rEQL k
          | exact hRV rNEQ k)
       | (refine ghE ?_; exact hEND (k := k))
       | (refine ghD ?_
          first
          | exact hALL1 (k := k)
          | exact hALL2 (k := k)
          | exact hALL3 (k := k)
          | exact hALL4 (k := k))
       | exact hLD (k := k))
    | (refine idHO ?_
       first
       | (refine goC ?_
          first
          | exact hCV (hcon := by intro c w hw; first | (apply c <;> exact SIDE) | fail) (k := k)
          | exact hCX (hcon := by intro c w hw; first | (apply c <;> exact SIDE) | fail) (hp := by first | exact pl0 | exact plS PU pl0 | exact plS PU (plS PU pl0) | exact plS PU (plS PU (plS PU (plS PU (plS PU pl0))))) (k := k))
       | (refine goB ?_
          first
          | exact hBUILD (k := k)
          | exact hBUS (k := k)
          | exact hBUC (k := k))
       | (refine goP ?_
          first
          | exact hAPR (hr := by assumption) (k := k)
          | exact hAPP (k := k)
          | exact hAPN (k := k)
          | exact hNIL (hAPP (k := k))
          | exact hNIL (hAPN (k := k))
          | exact hNIL (hAPR (hr := by assumption) (k := k)))
       | (refine goL ?_
          first
          | exact hLW (k := k)
          | exact hLH (k := k)
          | exact hLO (k := k)
          | exact hHL (k := k)
          | exact hONE (k := k))
       | (refine goS ?_
          first
          | exact hSW (k := k)
          | exact hSH (k := k)
          | exact hHS (k := k)
          | exact hONE (k := k))
       | exact hONE (k := k))
    | (refine idRET ?_
       first
       | exact rRVi k
       | exact rRVb k
       | (refine idRS ?_
          first
          | exact rOWN (h := k)
          | exact r1 (pOWN (h := k)))
       | (refine idRA ?_
          first
          | exact r1 (pHO (h := k))
          | exact r1 (pWh (h := k))
          | exact r1 (pRu (h := k))
          | exact r1 (pCa (h := k)))
       | (refine idRU ?_
          first
          | exact rT2 k
          | exact rT3 k)
       | exact rRV k)) : A := h k
end step
end SX
end Go.Proofs.YtaihohlklagdgaaGreat
/- What the engine is told of the program: types, slots that live on. Printed by program. -/
namespace Go.Proofs.YtaihohlklagdgaaGreat
namespace SX
open Go Go.RowKit
instance : TB Tryz.prog := ⟨{ fld := [(24, [(0, none), (1, none), (2, none), (3, none), (4, none), (5, none), (6, none), (7, none), (8, none)]), (28, [(0, some 9), (9, none), (10, none), (11, none), (12, none), (13, none), (14, none)]), (30, [(0, none), (1, none), (2, none), (3, none), (4, none), (5, none), (6, none), (7, none), (8, none)]), (34, [(0, some 9), (9, none), (10, none), (11, none), (12, none), (13, none), (14, none)]), (63, [(0, none), (1, none)]), (65, [(0, some 2), (2, some 2), (4, some 2)]), (67, [(0, some 15), (15, some 6), (21, none), (22, none)]), (70, [(0, none), (1, none)]), (72, [(0, some 2), (2, some 2), (4, some 2)]), (74, [(0, some 15), (15, some 6), (21, none), (22, none)]), (98, [(0, none), (1, none)]), (102, [(0, none), (1, none), (2, none), (3, none), (4, none), (5, none)]), (105, [(0, none), (1, none), (2, none), (3, none), (4, none), (5, none), (6, none), (7, none), (8, none), (9, none)]), (109, [(0, none), (1, none), (2, none), (3, none), (4, none), (5, none)]), (113, [(0, none), (1, none), (2, none), (3, none), (4, none)]), (117, [(0, none)]), (119, [(0, some 5), (5, none), (6, some 1)]), (122, [(0, none), (1, none), (2, none), (3, none), (4, none)]), (135, [(0, none), (1, none), (2, none), (3, none), (4, none)]), (139, [(0, none)]), (141, [(0, some 5), (5, none), (6, some 1)]), (148, [(0, none), (1, none), (2, none), (3, none), (4, none), (5, none), (6, none), (7, none), (8, none), (9, none)]), (174, [(0, none), (1, none)]), (196, [(0, none), (1, none), (2, none), (3, none)]), (235, [(0, none), (1, none), (2, none), (3, none)]), (256, [(0, none), (1, none), (2, none)]), (284, [(0, none), (1, none)])], agg := [(24, 9), (28, 15), (30, 9), (34, 15), (63, 2), (65, 6), (67, 23), (70, 2), (72, 6), (74, 23), (98, 2), (102, 6), (105, 10), (109, 6), (113, 5), (117, 1), (119, 7), (122, 5), (135, 5), (139, 1), (141, 7), (148, 10), (174, 2), (196, 4), (235, 4), (256, 3), (284, 2)], zero := [(3, [.int .i64 0]), (4, [.bool false]), (5, [.int .u8 0]), (9, [.string (bs [])]), (22, [.slice none 0 0]), (24, [.slice none 0 0, .int .i64 0, .int .i64 0, .int .i64 0, .int .i64 0, .int .i64 0, .int .i64 0, .int .i64 0, .int .i64 0]), (25, [.slice none 0 0]), (26, [.slice none 0 0]), (28, [.slice none 0 0, .int .i64 0, .int .i64 0, .int .i64 0, .int .i64 0, .int .i64 0, .int .i64 0, .int .i64 0, .int .i64 0, .int .i64 0, .int .i64 0, .slice none 0 0, .slice none 0 0, .slice none 0 0, .slice none 0 0]), (30, [.slice none 0 0, .int .i64 0, .int .i64 0, .int .i64 0, .int .i64 0, .int .i64 0, .int .i64 0, .int .i64 0, .int .i64 0]), (31, [.slice none 0 0]), (32, [.slice none 0 0]), (34, [.slice none 0 0, .int .i64 0, .int .i64 0, .int .i64 0, .int .i64 0, .int .i64 0, .int .i64 0, .int .i64 0, .int .i64 0, .int .i64 0, .int .i64 0, .slice none 0 0, .slice none 0 0, .slice none 0 0, .slice none 0 0]), (47, [.slice none 0 0]), (51, [.slice none 0 0]), (63, [.string (bs []), .int .i64 0]), (65, [.string (bs []), .int .i64 0, .string (bs []), .int .i64 0, .string (bs []), .int .i64 0]), (67, [.slice none 0 0, .int .i64 0, .int .i64 0, .int .i64 0, .int .i64 0, .int .i64 0, .int .i64 0, .int .i64 0, .int .i64 0, .int .i64 0, .int .i64 0, .slice none 0 0, .slice none 0 0, .slice none 0 0, .slice none 0 0, .string (bs []), .int .i64 0, .string (bs []), .int .i64 0, .string (bs []), .int .i64 0, .int .i64 0, .slice none 0 0]), (70, [.string (bs []), .int .i64 0]), (72, [.string (bs []), .int .i64 0, .string (bs []), .int .i64 0, .string (bs []), .int .i64 0]), (74, [.slice none 0 0, .int .i64 0, .int .i64 0, .int .i64 0, .int .i64 0, .int .i64 0, .int .i64 0, .int .i64 0, .int .i64 0, .int .i64 0, .int .i64 0, .slice none 0 0, .slice none 0 0, .slice none 0 0, .slice none 0 0, .string (bs []), .int .i64 0, .string (bs []), .int .i64 0, .string (bs []), .int .i64 0, .int .i64 0, .slice none 0 0]), (98, [.int .i64 0, .slice none 0 0]), (102, [.int .i64 0, .int .i64 0, .int .i64 0, .int .i64 0, .int .i64 0, .int .i64 0]), (105, [.int .i64 0, .int .i64 0, .int .i64 0, .int .i64 0, .int .i64 0, .int .i64 0, .int .i64 0, .int .i64 0, .int .i64 0, .int .i64 0]), (109, [.int .i64 0, .int .i64 0, .int .i64 0, .int .i64 0, .int .i64 0, .int .i64 0]), (113, [.int .i64 0, .int .i64 0, .int .i64 0, .int .i64 0, .int .i64 0]), (114, [.slice none 0 0]), (115, [.slice none 0 0]), (117, [.slice none 0 0]), (119, [.int .i64 0, .int .i64 0, .int .i64 0, .int .i64 0, .int .i64 0, .slice none 0 0, .slice none 0 0]), (122, [.int .i64 0, .int .i64 0, .int .i64 0, .int .i64 0, .int .i64 0]), (135, [.int .i64 0, .int .i64 0, .int .i64 0, .int .i64 0, .int .i64 0]), (136, [.slice none 0 0]), (137, [.slice none 0 0]), (139, [.slice none 0 0]), (141, [.int .i64 0, .int .i64 0, .int .i64 0, .int .i64 0, .int .i64 0, .slice none 0 0, .slice none 0 0]), (148, [.int .i64 0, .int .i64 0, .int .i64 0, .int .i64 0, .int .i64 0, .int .i64 0, .int .i64 0, .int .i64 0, .int .i64 0, .int .i64 0]), (174, [.int .i64 0, .int .i64 0]), (189, [.slice none 0 0]), (196, [.int .i64 0, .int .i64 0, .int .i64 0, .int .i64 0]), (235, [.int .i64 0, .int .i64 0, .int .i64 0, .int .i64 0]), (256, [.slice none 0 0, .int .i64 0, .bool false]), (272, [.slice none 0 0]), (284, [.int .i64 0, .int .i64 0]), (298, [.int .u64 0])], row := [(22, 3, 1), (25, 148, 10), (26, 141, 7), (31, 105, 10), (32, 119, 7), (47, 109, 6), (51, 102, 6), (58, 122, 5), (114, 196, 4), (115, 189, 1), (136, 235, 4), (137, 272, 1), (189, 174, 2), (251, 5, 1), (272, 284, 2)], ik := [(3, .i64), (5, .u8), (270, .u64), (293, .u32), (298, .u64)], nm := [(102, fun l => match l with | [.int _ x0, .int _ x1, .int _ x2, .int _ x3, .int _ x4, .int _ x5] => some (reqE ⟨x0, x1, x2, x3, x4, x5⟩) | _ => none), (105, fun l => match l with | [.int _ x0, .int _ x1, .int _ x2, .int _ x3, .int _ x4, .int _ x5, .int _ x6, .int _ x7, .int _ x8, .int _ x9] => some (partyE ⟨x0, x1, x2, x3, x4, x5, x6, x7, x8, x9⟩) | _ => none), (109, fun l => match l with | [.int _ x0, .int _ x1, .int _ x2, .int _ x3, .int _ x4, .int _ x5] => some (reqE ⟨x0, x1, x2, x3, x4, x5⟩) | _ => none), (113, fun l => match l with | [.int _ x0, .int _ x1, .int _ x2, .int _ x3, .int _ x4] => some (ledgerE ⟨x0, x1, x2, x3, x4⟩) | _ => none), (135, fun l => match l with | [.int _ x0, .int _ x1, .int _ x2, .int _ x3, .int _ x4] => some (ledgerE ⟨x0, x1, x2, x3, x4⟩) | _ => none), (148, fun l => match l with | [.int _ x0, .int _ x1, .int _ x2, .int _ x3, .int _ x4, .int _ x5, .int _ x6, .int _ x7, .int _ x8, .int _ x9] => some (partyE ⟨x0, x1, x2, x3, x4, x5, x6, x7, x8, x9⟩) | _ => none), (174, fun l => match l with | [.int _ x0, .int _ x1] => some (pinE ⟨x0, x1⟩) | _ => none), (196, fun l => match l with | [.int _ x0, .int _ x1, .int _ x2, .int _ x3] => some (entryE ⟨x0, x1, x2, x3⟩) | _ => none), (235, fun l => match l with | [.int _ x0, .int _ x1, .int _ x2, .int _ x3] => some (entryE ⟨x0, x1, x2, x3⟩) | _ => none), (284, fun l => match l with | [.int _ x0, .int _ x1] => some (pinE ⟨x0, x1⟩) | _ => none)], loud := [1, 15, 16, 17, 18, 19, 22, 23, 24, 25, 26, 27, 28, 29, 30, 31, 32, 33, 34, 35, 36, 37, 38, 39, 40, 41, 42, 43, 44, 45, 46, 47, 48, 50, 51, 52, 53, 54, 55, 56, 57, 58, 59, 60, 61, 66, 67, 68, 69, 73, 74, 75, 76, 77, 78, 79, 80, 81, 82, 83, 84, 85, 86, 87, 88, 89, 90, 91, 92, 93, 94, 95, 96, 97, 98, 99, 100, 103, 106, 107, 108, 110, 111, 114, 115, 116, 117, 118, 119, 120, 123, 124, 125, 126, 127, 128, 129, 130, 131, 132, 133, 134, 136, 137, 138, 139, 140, 141, 142, 143, 144, 145, 146, 147, 149, 150, 151, 152, 153, 154, 155, 156, 157, 158, 159, 160, 161, 162, 163, 164, 165, 167, 168, 169, 170, 171, 172, 175, 176, 177, 178, 179, 180, 181, 182, 183, 184, 185, 186, 187, 188, 189, 190, 191, 192, 193, 194, 197, 198, 199, 201, 202, 203, 204, 205, 206, 207, 208, 209, 210, 211, 212, 214, 215, 216, 217, 218, 219, 220, 221, 222, 223, 224, 225, 226, 227, 228, 229, 230, 231, 232, 233, 234, 236, 237, 238, 239, 240, 241, 242, 243, 244, 245, 246, 247, 248, 249, 250, 251, 253, 254, 255, 256, 257, 258, 259, 260, 261, 262, 263, 264, 265, 266, 267, 268, 269, 271, 272, 273, 274, 275, 276, 277, 278, 279, 280, 281, 282, 283, 285, 288, 289, 290, 291, 292, 294, 296, 297, 299, 300, 301, 302, 303, 304, 305, 307, 308, 309, 310, 314, 317, 318, 321, 322], live := [(3, [0, 1, 2, 3, 4, 5, 6, 7, 8, 9, 10, 15, 26, 31, 42, 50, 53, 60, 65, 68]),
  (4, [0, 1, 2, 3, 4, 5, 6, 7, 8, 9, 10, 11, 12, 13, 18, 40, 45, 61, 69, 72, 87, 92, 95]),
  (5, [0, 1, 2, 4, 5, 6, 7, 8, 9, 10, 11, 12, 13, 14, 15, 20, 45, 50, 67, 78, 83, 86, 103, 108, 113, 116]),
  (6, [0, 1, 2, 3, 6, 7, 8, 9, 10, 11, 12, 13, 18, 23, 51, 56, 61]),
  (7, [0, 1, 2, 4, 5, 6, 7, 8, 9, 10, 11, 12, 13, 18, 23, 39, 44, 49, 63, 71, 74, 83, 88, 91]),
  (8, [0, 1, 2, 4, 5, 6, 7, 8, 9, 10, 11, 12, 13, 18, 23, 39, 44, 49, 63, 71, 74, 83, 88, 91]),
  (9, [0, 1, 2, 3, 4, 5, 6, 11, 21, 26]),
  (10, [0, 1, 2, 4, 10, 16, 22, 28, 34]),
  (11, [0, 1, 2, 3, 4, 5, 12, 20]),
  (12, [0, 1, 2, 3]),
  (13, [0, 1, 2, 3, 4, 9, 17]),
  (14, [0, 1, 2, 3, 4, 10, 15, 20, 26, 32, 38, 44]),
  (15, [0, 1, 2, 4]),
  (16, [0, 1, 2, 4, 10, 16, 22, 28, 34]),
  (17, [0, 1, 2, 3, 4, 5, 12]),
  (18, [0, 1, 2, 3, 4, 5, 12]),
  (19, [0, 1, 2, 4, 5, 6, 7, 8, 9, 10, 16, 22, 37]),
  (20, [0, 1, 2, 4, 5, 6, 7, 8, 9, 10, 15, 20, 35]),
  (21, [0, 1, 4, 5, 10, 14, 25]),
  (22, [0, 1, 4, 5, 9]),
  (23, [0, 1, 4, 5, 9, 17]),
  (24, [0, 1, 4, 10]),
  (25, [0, 1, 2, 3, 6, 7, 8, 9, 10, 11, 12, 13, 21, 28, 41, 90]),
  (26, [0, 2, 3, 4, 11]),
  (27, [0, 1, 2, 3, 6, 7, 8, 9, 11, 12, 13, 14, 15, 16, 19, 22, 23, 24, 25, 32, 81, 83]),
  (28, [0, 1, 4, 5, 10, 14, 26]),
  (29, [0, 1, 2, 4, 5, 6, 7, 8, 13, 38]),
  (30, [0, 1, 2, 4, 5, 6, 7, 8, 9, 10, 13, 14, 15, 16, 39]),
  (31, [0, 1, 4, 5, 9]),
  (32, [0, 1, 2, 4, 5, 6, 7, 8, 9, 10, 11, 16, 31, 54]),
  (33, [0, 1, 2, 4, 5, 6, 7, 8, 9, 10, 11, 12, 14, 17, 18, 19, 20, 33, 44, 45, 46, 47]),
  (34, [0, 1, 4, 5, 10, 14, 26]),
  (35, [0, 1, 4, 5, 9]),
  (36, [0, 1, 4, 5, 9, 18, 27, 36, 45, 54]),
  (37, [0, 1, 2, 4, 10, 16, 22]),
  (38, [0, 1, 2, 3, 5, 16]),
  (39, [0, 1, 2, 3]),
  (40, [0, 1, 2, 3, 5, 16]),
  (41, [0, 1, 2, 3, 4, 10, 16, 21, 27]),
  (42, [0, 1, 2, 4, 10]),
  (43, [0, 1, 4, 10]),
  (44, [0, 1, 4, 5, 11, 15, 25]),
  (45, [0, 1, 4, 10]),
  (46, [0, 1, 2, 3, 4, 29]),
  (47, [0, 1, 2, 3, 35, 43, 48, 90]),
  (48, [0, 1, 2, 3, 8, 16]),
  (49, [0, 1, 2, 4, 5, 6, 7, 8, 9, 10, 11, 19, 29]),
  (50, [0, 1, 2, 3]),
  (51, [0, 2, 3, 4, 11]),
  (52, [0, 2, 3, 4, 11]),
  (53, [0, 2, 3, 4, 11]),
  (54, [0, 1, 2, 3, 5, 24, 25, 26, 27]),
  (55, [0, 1, 2, 3, 4, 5, 7, 8, 9, 10, 11, 13, 49, 53, 55, 56, 57, 58, 91, 95, 96, 97, 98, 133, 137, 138, 139, 140, 175, 178, 179, 180, 181, 196, 199, 200, 201, 202, 209]),
  (56, [0, 1, 2, 4, 13, 15, 16, 17, 18, 22]),
  (57, [0, 1, 2, 4, 5, 6, 7, 8, 9, 10, 18, 26]),
  (58, [0, 1, 2, 3, 4, 10, 15, 20, 25, 30, 35, 40, 45, 50]),
  (59, [0, 1, 4, 5, 10, 14, 26]),
  (60, [0, 1, 4, 5, 10, 14, 26]),
  (61, [0, 1, 2, 4]),
  (62, [0, 1, 4, 5, 9]),
  (63, [0, 1, 4, 5, 9]),
  (64, [0, 1, 2, 4, 10]),
  (65, [0, 1, 4, 5, 9, 18, 27, 36, 45, 54, 63, 72, 81, 90, 99]),
  (66, [0, 1, 4, 5, 9, 19, 29, 39, 49, 59, 70, 80]),
  (67, [0, 1, 2, 3, 4, 5, 6, 13, 24, 44]),
  (68, [0, 1, 2, 3, 4, 5, 6, 13, 22, 23, 24, 43]),
  (69, [0, 1, 4, 7]),
  (70, [0, 1, 2, 3, 4, 5, 6, 7, 14, 21, 41]),
  (71, [0, 1, 2, 6]),
  (72, [0, 1, 2, 3, 4, 5, 7, 12, 15, 16, 17, 18, 30]),
  (73, [0, 1, 2, 4]),
  (74, [0, 1, 2, 3, 4, 5, 6, 7, 8, 15, 21, 30, 47, 56, 67, 76, 85]),
  (75, [0, 1, 4, 5, 9, 17]),
  (76, [0, 1, 2, 4, 5, 6, 16]),
  (77, [0, 1, 2, 3, 4, 6, 11]),
  (78, [0, 1, 2, 3]),
  (79, [0, 1, 2, 4]),
  (80, [0, 1, 2, 3, 4, 5, 6, 7, 11, 16, 24, 25, 27, 48, 56, 63, 68, 74, 84, 97, 101, 107, 108, 110, 116, 121, 129, 136, 139, 147, 156, 160, 161, 163, 170]),
  (81, [0, 1, 2, 4, 5, 6, 16]),
  (82, [0, 1, 2, 3, 4, 6, 11]),
  (83, [0, 1, 2, 3, 4, 5, 6, 7, 8, 13, 19, 30, 48, 58, 70, 80, 90]),
  (84, [0, 1, 4]),
  (85, [0, 1, 2, 3, 4, 9, 14, 19, 24, 29, 34]),
  (86, [0, 1, 2, 3, 4, 5, 6, 61, 66, 79, 84, 98]),
  (87, [0, 1, 2, 3, 4]),
  (88, [0, 1, 2, 4, 5, 11]),
  (89, [0, 1, 2, 4, 5, 7, 12, 13, 14, 15]),
  (90, [0, 1, 2, 4, 5, 6, 7, 8, 9, 16]),
  (91, [0, 1, 2, 3, 4, 9, 14, 19, 24, 29]),
  (92, [0, 1, 2, 4, 10, 16, 22]),
  (93, [0, 1, 2, 4, 5, 7, 8, 30, 31]),
  (94, [0, 1, 2, 3, 28, 33, 42]),
  (95, [0, 1, 2, 4, 5, 6, 7, 13]),
  (96, [0, 1, 2, 3, 6]),
  (97, [0, 2, 5]),
  (98, [0, 1, 2, 3]),
  (99, [0, 1, 2, 4, 5, 7, 8, 21, 28]),
  (100, [0, 1, 2, 4, 29, 31, 32, 33, 34, 39]),
  (101, [0, 1, 2, 4, 5, 6, 7, 13]),
  (102, [0, 1, 2, 3, 6]),
  (103, [0, 2, 5]),
  (104, [0, 1, 2, 3, 4, 10, 16, 22]),
  (105, [0, 1, 2, 4, 10, 16]),
  (106, [0, 1, 2]),
  (107, [0, 1, 2]),
  (108, [0, 1, 2, 3, 32, 37, 46]),
  (109, [0, 1, 2, 6]),
  (110, [0, 1, 2, 3, 4, 5, 6, 11, 48, 51, 91]),
  (111, [0, 1, 2, 3, 4, 9, 34, 39, 52]),
  (112, [0, 1, 2, 3, 4, 5, 6, 10]),
  (113, [0, 1, 4, 5, 6, 10, 19]),
  (114, [0, 1, 2, 3, 4, 7, 11, 14, 16, 17, 22, 28, 29, 36, 40, 47, 48, 55, 59, 60, 67, 80]),
  (115, [0, 1, 2, 4, 5, 6, 7, 8, 9, 16, 29]),
  (116, [0, 1, 2, 3]),
  (117, [0, 1, 2, 3]),
  (118, [0, 1, 2]),
  (119, [0, 2]),
  (120, [0, 1, 2]),
  (121, [0, 1, 2, 4, 9, 11, 12, 13, 14, 19]),
  (122, [0, 1, 2, 6]),
  (123, [0, 1, 2, 3, 4, 6, 46, 81]),
  (124, [0, 1, 4, 5, 7, 8, 9, 10, 11, 17]),
  (125, [0, 1, 2, 3, 4, 5, 6, 10]),
  (126, [0, 1, 4]),
  (127, [0, 1, 2, 4, 5, 6, 7, 8, 9, 20]),
  (128, [0, 1, 2, 3, 4, 9, 14, 19, 24, 29, 34, 39, 44, 49, 54]),
  (129, [0, 1, 2, 3, 4, 10, 16, 22]),
  (130, [0, 1, 4, 5, 9]),
  (131, [0, 1, 4, 5, 9]),
  (132, [0, 1, 4, 5, 9, 18, 27, 36, 45]),
  (133, [0, 1, 4, 5, 9, 19]),
  (134, [0, 1, 2, 3, 4, 8, 9, 10, 11, 12, 18, 40]),
  (135, [0, 1, 4, 5, 11]),
  (136, [0, 1, 2, 3, 4, 8, 9, 11, 12, 13, 14, 15, 16, 17, 33]),
  (137, [0, 1, 4, 5, 11]),
  (138, [0, 1, 2, 4]),
  (139, [0, 1, 2, 4, 5, 6, 7, 8, 9, 17, 65]),
  (140, [0, 1, 2, 4]),
  (141, [0, 1, 2, 4, 5, 6, 7, 8, 9, 10, 18, 68]),
  (142, [0, 1, 4, 5, 9, 18]),
  (143, [0, 1, 2, 3, 4, 5, 6, 12, 13, 14, 15, 16, 28, 54]),
  (144, [0, 1, 2, 4, 5, 6, 7, 8, 16, 28]),
  (145, [0, 1, 2, 3, 6, 7, 8, 9, 18]),
  (146, [0, 1, 2, 4, 5, 6, 7, 8, 16]),
  (147, [0, 1, 2, 4]),
  (148, [0, 1, 2, 3, 4, 6, 47, 84]),
  (149, [0, 1, 2, 3, 6]),
  (150, [0, 1, 3, 4]),
  (151, [0, 1, 2, 3, 5, 6, 35, 53, 76]),
  (152, [0, 1, 2, 4]),
  (153, [0, 1, 2, 4]),
  (154, [0, 1, 2, 3, 6, 20]),
  (155, [0, 1, 2, 3, 4, 5, 6, 12, 13, 14, 15, 16, 17, 30, 78]),
  (156, [0, 1, 2, 4, 5, 6, 7, 8, 9, 17, 34, 83]),
  (157, [0, 1, 2, 3, 6, 7, 8, 9, 18]),
  (158, [0, 1, 2, 4, 5, 6, 7, 8, 16]),
  (159, [0, 1, 4, 5, 7, 8, 9, 16]),
  (160, [0, 1, 2, 3, 4]),
  (161, [0, 1, 4, 5, 10, 14, 25]),
  (162, [0, 1, 2, 3, 4]),
  (163, [0, 1, 2, 3, 4]),
  (164, [0, 1, 4, 5, 10, 12, 13, 14, 24]),
  (165, [0, 1, 4, 5, 10, 12, 13, 14, 24]),
  (166, [0, 1, 2, 6, 7, 8, 9, 14, 15, 16, 17, 18, 30]),
  (167, [0, 1, 2, 3, 4]),
  (168, [0, 1, 2, 4]),
  (169, [0, 1, 2, 4, 5, 6, 13]),
  (170, [0, 1, 2, 4, 5, 7, 11, 20, 21, 22, 23]),
  (171, [0, 1, 2, 4, 5, 6, 7, 8, 9, 60, 95]),
  (172, [0, 1, 2, 4, 5, 7, 8, 9, 13, 15, 16, 17, 18, 24, 44]),
  (173, [0, 1, 2, 3, 4, 5]),
  (174, [0, 1, 4, 5, 6, 7, 14]),
  (175, [0, 1, 3, 4, 5, 6, 7, 15, 25]),
  (176, [0, 1, 2, 3, 4, 5, 6, 7, 8, 18, 39, 55]),
  (177, [0, 1, 2, 4, 11]),
  (178, [0, 1, 2]),
  (179, [0, 1, 2, 4, 5, 30, 47, 68]),
  (180, [0, 1, 2, 4, 7]),
  (181, [0, 1, 2]),
  (182, [0, 2, 3, 4, 5, 6, 7, 8, 16, 25, 43]),
  (183, [0, 1, 2, 3]),
  (184, [0, 1, 2]),
  (185, [0, 1, 2, 4, 7]),
  (186, [0, 1, 2]),
  (187, [0, 2, 3, 4, 5, 6, 7, 10, 19, 37]),
  (188, [0, 1, 2, 3, 4, 9, 14]),
  (189, [0, 1, 4, 10]),
  (190, [0, 1, 2, 4, 10]),
  (191, [0, 2]),
  (192, [0, 1, 2, 3, 4, 10]),
  (193, [0, 1, 2]),
  (194, [0, 1, 4, 5, 10, 14, 25]),
  (195, [0, 1, 4, 5, 10, 14, 25]),
  (196, [0, 1, 2, 3, 4, 5, 9, 16]),
  (197, [0, 1, 4, 5, 6, 11, 28]),
  (198, [0, 1, 4, 5, 6, 10, 35]),
  (199, [0, 1, 4, 5, 6, 10, 27]),
  (200, [0, 1, 2, 3, 4, 25, 32, 38, 42, 47, 56, 68, 71]),
  (201, [0, 1, 2, 4]),
  (202, [0, 1, 2, 4, 5, 10, 17, 25]),
  (203, [0, 1, 2, 4, 5, 6, 7, 8, 13]),
  (204, [0, 1, 2, 3]),
  (205, [0, 2, 3, 4, 11]),
  (206, [0, 1, 2, 3]),
  (207, [0, 2]),
  (208, [0, 1, 2, 3, 5, 7, 8, 9, 10]),
  (209, [0, 1, 2]),
  (210, [0, 1, 4, 5, 10, 12, 13, 14, 24]),
  (211, [0, 1, 4, 5, 10, 12, 13, 14, 24]),
  (212, [0, 1, 2, 3, 5, 8, 10, 11, 12, 13]),
  (213, [0, 1, 4, 5, 7, 8, 9, 10, 11, 22]),
  (214, [0, 1, 4, 5, 7, 8, 9, 10, 11, 27]),
  (215, [0, 1, 4, 5, 7, 8, 9, 10, 11, 22]),
  (216, [0, 1, 2, 3, 4, 9, 14, 19, 24, 29]),
  (217, [0, 1, 4, 5, 10, 14, 26]),
  (218, [0, 1, 2, 3, 4, 10]),
  (219, [0, 1, 4, 5, 9]),
  (220, [0, 1, 4, 5, 9, 18, 27]),
  (221, [0, 1, 2, 3, 4, 6, 7, 8, 19]),
  (222, [0, 1, 3, 4, 5, 6, 18]),
  (223, [0, 1, 2, 3, 4, 6, 7, 17]),
  (224, [0, 1]),
  (225, [0, 1, 2, 3, 4, 5, 12]),
  (226, [0, 1, 2, 4, 5]),
  (227, [0, 1, 2, 3, 4, 5, 6, 7, 8, 18, 30, 42]),
  (228, [0, 1, 2, 3, 4, 13]),
  (229, [0, 1, 2, 3, 6]),
  (230, [0, 1, 2, 3, 4, 5]),
  (231, [0, 1, 2, 3, 4, 5, 6, 7, 8, 18, 31]),
  (232, [0, 1, 4, 5, 6, 13]),
  (233, [0, 1, 2, 3, 4, 5]),
  (234, [0, 1, 2, 3, 4, 5]),
  (235, [0, 1, 3, 4, 5, 6, 15, 34]),
  (236, [0, 1, 2, 3, 4, 5]),
  (237, [0, 1, 2, 4, 5]),
  (238, [0, 1, 2, 3, 4, 5]),
  (239, [0, 1, 4, 5, 6, 11]),
  (240, [0, 1, 2, 3, 4, 5, 6, 20]),
  (241, [0, 1, 4, 7]),
  (242, [0, 1, 4, 5, 7, 8, 9, 16]),
  (243, [0, 1, 2, 3]),
  (244, [0, 2]),
  (245, [0, 1, 3, 4, 5, 6, 7, 8, 22, 38]),
  (246, [0, 1, 2, 3, 4, 5]),
  (247, [0, 1, 2, 3, 4, 5]),
  (248, [0, 1, 2, 3, 4]),
  (249, [0, 1, 2, 3, 4]),
  (250, [0, 1, 2, 4, 5, 6, 7, 21]),
  (251, [0, 1, 2, 4]),
  (252, [0, 1, 2, 4, 5, 7, 9, 10, 11, 12, 18]),
  (253, [0, 1, 2, 3, 4, 6, 7, 25]),
  (254, [0, 1, 2, 4, 5, 6]),
  (255, [0, 1, 2, 3, 6, 7, 8, 16, 23]),
  (256, [0, 1]),
  (257, [0, 1, 3, 4]),
  (258, [0, 1, 2, 6, 7, 16]),
  (259, [0, 1, 2, 3]),
  (260, [0, 1, 2, 6, 7, 8, 9, 16, 22, 31, 68]),
  (261, [0, 1, 2, 3, 4, 5, 6, 7, 8, 12, 15, 16, 17, 18, 22, 23, 24, 25, 52]),
  (262, [0, 1, 2]),
  (263, [0, 1, 2, 3, 4, 5, 12]),
  (264, [0, 1, 2, 6, 7, 8, 9, 16, 22, 31, 68]),
  (265, [0, 2]),
  (266, [0, 2, 3, 4, 5, 6, 7, 8, 9, 16, 25]),
  (267, [0, 2, 3, 4, 5, 6, 7, 8, 9, 10, 11, 12, 13, 15, 16, 17, 18, 31, 44, 54, 66, 139, 168]),
  (268, [0, 1, 2, 4, 5, 13]),
  (269, [0, 2, 3, 4, 5, 6, 7, 8, 9, 15, 24]),
  (270, [0, 2, 3, 4, 5, 6, 7, 8, 9, 10, 11, 12, 13, 14, 15, 16, 17, 19, 34, 44, 62, 68, 111, 112, 113, 114, 172, 182, 183, 184, 185, 205]),
  (271, [0, 1, 2, 4, 5, 6, 7, 16]),
  (272, [0, 1, 4, 5, 11, 15, 25]),
  (273, [0, 1, 2]),
  (274, [0, 2, 3, 4, 7, 11, 39, 59]),
  (275, [0, 1, 2, 3, 4, 5, 6, 7, 18, 22, 40, 43, 56, 61, 71, 110]),
  (276, [0, 1, 2, 3, 4, 10]),
  (277, [0, 1, 3, 4, 5, 6, 18]),
  (278, [0, 1, 2, 4, 5, 6, 7, 13, 23, 49]),
  (279, [0, 1, 2, 4, 5]),
  (280, [0, 1, 2, 3, 4, 5, 6, 7, 17, 35]),
  (281, [0, 1, 2, 3]),
  (282, [0, 2, 3, 4, 11]),
  (283, [0, 1, 2]),
  (284, [0, 2, 3, 4, 7, 8, 9, 10, 11, 35, 57]),
  (285, [0, 1, 4]),
  (286, [0, 1]),
  (287, [0, 1, 2, 3, 4, 9, 14, 19, 24]),
  (288, [0, 1, 4, 5, 10, 14, 26]),
  (289, [0, 1, 2, 3, 4]),
  (290, [0, 1, 2, 6, 7, 8, 9, 13, 30, 35, 54]),
  (291, [0, 1, 4, 5, 6, 11, 12, 13, 16, 19]),
  (292, [0, 1, 2, 3, 4, 5, 6, 12, 13, 14, 22, 53]),
  (293, [0, 1, 4, 5, 10]),
  (294, [0, 1, 2, 4, 5]),
  (295, [0, 1, 2, 4, 5]),
  (296, [0, 1]),
  (297, [0, 1, 3, 4, 5, 7, 8, 9, 16]),
  (298, [0, 1, 2, 6, 7, 16]),
  (299, [0, 1, 2, 6, 7, 16]),
  (300, [0, 1]),
  (301, [0, 1]),
  (302, [0, 1, 2, 4, 5]),
  (303, [0, 1, 4, 5, 9, 18]),
  (304, [0, 1, 2, 3, 4, 6, 7, 25]),
  (305, [0, 1, 2, 3, 4]),
  (306, [0, 1, 2, 6, 7, 8, 9, 16, 22, 31, 68]),
  (307, [0, 1]),
  (308, [0, 1]),
  (309, [0, 1, 2, 4, 5, 6, 7, 14, 23]),
  (310, [0, 1, 4, 5, 7, 8, 9, 16]),
  (311, [0, 1, 2, 3, 4]),
  (312, [0, 1, 2, 3]),
  (313, []),
  (314, [0, 1]),
  (315, []),
  (316, [0, 1]),
  (317, [0, 1, 4, 5, 6, 7, 8, 9, 11, 23, 39, 49]),
  (318, [0, 2, 3, 4, 7, 40]),
  (319, [0, 1, 4, 5, 6, 10]),
  (320, [0, 1, 4, 5, 11]),
  (321, [0, 2, 12]),
  (322, [0, 2, 3]),
  (323, [0, 2, 3, 4, 5, 6, 7, 12, 25]),
  (324, [0, 1, 2, 3, 4, 5, 6, 7, 8, 11, 35, 71, 98]),
  (325, [0, 2, 3, 4, 9]),
  (326, [0, 2]),
  (327, [0, 2, 3, 4, 5, 6, 10, 21, 29]),
  (328, [0, 1, 4, 5, 6, 7, 8, 9, 15, 25, 43, 49]),
  (329, [0, 1, 3, 4, 12]),
  (330, [0, 2, 3, 4, 7, 39]),
  (331, [0, 2, 3, 4, 6, 7, 8, 10, 11, 12, 13, 23]),
  (332, [0, 1, 2, 3, 4, 6, 8, 10, 13, 33, 34, 35, 36, 65, 66, 67, 68, 89, 90, 91, 92]),
  (333, [0, 2, 3, 6, 8]),
  (334, [0, 2, 3, 5, 6, 7, 8, 9]),
  (335, [0, 2, 3, 5, 6, 7, 8, 9, 10, 11, 19, 27]),
  (336, [0, 1, 4, 10]),
  (337, [0, 1, 2, 3, 4]),
  (338, [0, 1, 2, 6, 7, 11, 30]),
  (339, [0, 2, 3, 4, 11]),
  (340, [0, 1, 2, 3, 4, 10, 11, 12, 13, 14, 15, 16, 17, 18, 19, 20, 25, 32, 39, 56, 75, 80, 97, 125]),
  (341, [0, 2]),
  (342, [0, 1, 2, 6, 7, 8, 9, 13, 30, 35, 54]),
  (343, [0, 1, 4, 5, 10, 14, 26]),
  (344, [0, 1, 2, 3, 8, 9, 14, 34]),
  (345, [0, 1, 2, 3, 4, 10, 11, 12, 13, 14, 15, 16, 17, 18, 19, 20, 21, 22, 23, 24, 28, 33, 50, 58, 80, 85, 103, 110, 140, 151, 171, 185, 199, 213]),
  (346, [0, 2]),
  (347, []),
  (348, [0, 1]),
  (349, [0, 1]),
  (350, [0, 1]),
  (351, [0, 1, 2, 5]),
  (352, [0, 1, 2, 5]),
  (353, [0, 2, 3, 7, 10]),
  (354, [0]),
  (355, [0, 1, 2, 5]),
  (356, [0, 1, 2, 3]),
  (357, [0, 1, 2, 3, 8, 9, 14, 34]),
  (358, [0, 1, 2, 3, 8, 9, 10, 11, 12, 21, 33]),
  (359, [0, 1, 2, 8, 9, 10, 11, 12, 17, 35, 45]),
  (360, [0, 1, 2, 3, 8, 9, 10, 11, 12, 13, 14, 34, 36, 55, 57, 60]),
  (361, [0, 1, 2, 8, 9, 15]),
  (362, [0, 1, 2, 3, 8, 9, 10, 11, 12, 16, 36, 41, 45, 65, 69, 84, 104, 109, 124]),
  (363, [0, 1, 2, 3, 4, 10, 11, 12, 47, 65, 70]),
  (364, [0, 1, 2, 3, 4, 10, 11, 12, 13, 47, 66, 71, 120, 139, 144]),
  (365, [0, 2, 4, 8]),
  (366, [0, 2, 4, 8, 14]),
  (367, [0, 1, 2, 3, 4, 10, 11, 12, 13, 14, 15, 16, 17, 18, 19, 20, 21, 22, 23, 24, 28, 33, 50, 58, 80, 85, 103, 110, 140, 151, 171, 185, 199, 213]),
  (368, [0, 1, 2, 3, 4, 9, 14]),
  (369, [0, 1, 2, 3, 4, 10, 11, 20, 23]),
  (370, [0, 1]),
  (371, [0, 2, 3, 9]),
  (372, [0, 2, 3, 9]),
  (373, [0, 1, 2, 3, 4, 10, 11, 18, 40, 58]),
  (374, [0, 2]),
  (376, [0, 1, 2, 3, 8]),
  (377, [0, 1, 2, 3, 4, 5, 12]),
  (378, [0, 1, 2, 3, 4, 10, 11, 20, 23]),
  (379, [0, 1, 2, 3, 10, 13]),
  (380, [0, 2, 3, 9]),
  (381, [0, 1, 2, 3, 4, 10, 11, 22]),
  (382, [0, 1, 2, 3, 10, 13])] }⟩

instance : ElT Tryz.prog 3 Int 1 (fun z => [.int .i64 z]) (fun z => ⟨rfl, by simp [isCell]⟩) := ⟨.int .i64 0, 0, 8, fun l => match l with | [.int _ n] => some n | _ => none, by kernel_rfl, rfl, by decide, by decide⟩
instance : ElT Tryz.prog 102 Req 6 reqE reqH := ⟨.agg #[vi 0, vi 0, vi 0, vi 0, vi 0, vi 0], ⟨0, 0, 0, 0, 0, 0⟩, 48, fun l => match l with | [.int _ x0, .int _ x1, .int _ x2, .int _ x3, .int _ x4, .int _ x5] => some ⟨x0, x1, x2, x3, x4, x5⟩ | _ => none, by kernel_rfl, rfl, by decide, by decide⟩
instance : ElT Tryz.prog 105 Party 10 partyE partyH := ⟨.agg #[vi 0, vi 0, vi 0, vi 0, vi 0, vi 0, vi 0, vi 0, vi 0, vi 0], ⟨0, 0, 0, 0, 0, 0, 0, 0, 0, 0⟩, 80, fun l => match l with | [.int _ x0, .int _ x1, .int _ x2, .int _ x3, .int _ x4, .int _ x5, .int _ x6, .int _ x7, .int _ x8, .int _ x9] => some ⟨x0, x1, x2, x3, x4, x5, x6, x7, x8, x9⟩ | _ => none, by kernel_rfl, rfl, by decide, by decide⟩
instance : ElT Tryz.prog 109 Req 6 reqE reqH := ⟨.agg #[vi 0, vi 0, vi 0, vi 0, vi 0, vi 0], ⟨0, 0, 0, 0, 0, 0⟩, 48, fun l => match l with | [.int _ x0, .int _ x1, .int _ x2, .int _ x3, .int _ x4, .int _ x5] => some ⟨x0, x1, x2, x3, x4, x5⟩ | _ => none, by kernel_rfl, rfl, by decide, by decide⟩
instance : ElT Tryz.prog 148 Party 10 partyE partyH := ⟨.agg #[vi 0, vi 0, vi 0, vi 0, vi 0, vi 0, vi 0, vi 0, vi 0, vi 0], ⟨0, 0, 0, 0, 0, 0, 0, 0, 0, 0⟩, 80, fun l => match l with | [.int _ x0, .int _ x1, .int _ x2, .int _ x3, .int _ x4, .int _ x5, .int _ x6, .int _ x7, .int _ x8, .int _ x9] => some ⟨x0, x1, x2, x3, x4, x5, x6, x7, x8, x9⟩ | _ => none, by kernel_rfl, rfl, by decide, by decide⟩
instance : ElT Tryz.prog 174 Pin 2 pinE pinH := ⟨.agg #[vi 0, vi 0], ⟨0, 0⟩, 16, fun l => match l with | [.int _ x0, .int _ x1] => some ⟨x0, x1⟩ | _ => none, by kernel_rfl, rfl, by decide, by decide⟩
instance : ElT Tryz.prog 196 Entry 4 entryE entryH := ⟨.agg #[vi 0, vi 0, vi 0, vi 0], ⟨0, 0, 0, 0⟩, 32, fun l => match l with | [.int _ x0, .int _ x1, .int _ x2, .int _ x3] => some ⟨x0, x1, x2, x3⟩ | _ => none, by kernel_rfl, rfl, by decide, by decide⟩
instance : ElT Tryz.prog 235 Entry 4 entryE entryH := ⟨.agg #[vi 0, vi 0, vi 0, vi 0], ⟨0, 0, 0, 0⟩, 32, fun l => match l with | [.int _ x0, .int _ x1, .int _ x2, .int _ x3] => some ⟨x0, x1, x2, x3⟩ | _ => none, by kernel_rfl, rfl, by decide, by decide⟩
instance : ElT Tryz.prog 284 Pin 2 pinE pinH := ⟨.agg #[vi 0, vi 0], ⟨0, 0⟩, 16, fun l => match l with | [.int _ x0, .int _ x1] => some ⟨x0, x1⟩ | _ => none, by kernel_rfl, rfl, by decide, by decide⟩
instance : ElN Tryz.prog 119 (cabinLx 196 189 174) := ⟨.agg #[.int .i64 0, .int .i64 0, .int .i64 0, .int .i64 0, .int .i64 0, .slice none 0 0, .slice none 0 0], 88, by kernel_rfl, by rfl, by decide, by decide⟩
instance : ElN Tryz.prog 141 (cabinLx 235 272 284) := ⟨.agg #[.int .i64 0, .int .i64 0, .int .i64 0, .int .i64 0, .int .i64 0, .slice none 0 0, .slice none 0 0], 88, by kernel_rfl, by rfl, by decide, by decide⟩
instance : ElN Tryz.prog 189 (sl 174 pinL) := ⟨.slice none 0 0, 24, by kernel_rfl, by rfl, by decide, by decide⟩
instance : ElN Tryz.prog 272 (sl 284 pinL) := ⟨.slice none 0 0, 24, by kernel_rfl, by rfl, by decide, by decide⟩
abbrev HC (f : Nat) (S : Prop) : Prop := HasC Tryz.prog f S
abbrev Sp := Spec Tryz.prog
end SX
end Go.Proofs.YtaihohlklagdgaaGreat
