/- The engine: one step, found by trying. It imports no program. -/
import Derived.Test.YthnbaikmbgaddaaGreatSu8
namespace Go.Proofs.YthnbaikmbgaddaaGreat
namespace SX
set_option linter.unusedVariables false
set_option linter.unusedSimpArgs false
open Go Go.RowKit
section step
variable {X : List Nat} {P : Program} {N : Nat} {W : World} {S0 : List Nat} {Q : Exit → Go.Act → World → Prop} {T : Tm} {L : Bx} {C : List Ass} {ops : Array Oper} {Kn : List (Nat × Nat)} {i : Nat}
theorem idAT {x : Nx} (k : AT x X P N W S0 ops Q Kn i T L C) : AT x X P N W S0 ops Q Kn i T L C := k
theorem aWr {n : Nat} {T' : Tm} {d : Nat} {e : Int} {L' : Bx} (k : AT (.wrp n T' d e L') X P N W S0 ops Q Kn i T L C) : AT (.wrp n T' d e L') X P N W S0 ops Q Kn i T L C := k
theorem aCa {f : FuncId} {vs : Array Value} {d : Option Nat} (k : AT (.call f vs d) X P N W S0 ops Q Kn i T L C) : AT (.call f vs d) X P N W S0 ops Q Kn i T L C := k
theorem aAs {d : Nat} (k : AT (.ask d) X P N W S0 ops Q Kn i T L C) : AT (.ask d) X P N W S0 ops Q Kn i T L C := k
theorem aIx {t : TypeId} {x ix : Operand} {d : Option Nat} {ty : TypeId} (k : AT (.op (.indexAddr t x ix) d ty) X P N W S0 ops Q Kn i T L C) : AT (.op (.indexAddr t x ix) d ty) X P N W S0 ops Q Kn i T L C := k
theorem aLd {t : TypeId} {x : Operand} {d : Option Nat} {ty : TypeId} (k : AT (.op (.load t x) d ty) X P N W S0 ops Q Kn i T L C) : AT (.op (.load t x) d ty) X P N W S0 ops Q Kn i T L C := k
theorem aBi {b : BinOp} {t z : TypeId} {x y : Operand} {d : Option Nat} {ty : TypeId} (k : AT (.op (.binOp b t x y z) d ty) X P N W S0 ops Q Kn i T L C) : AT (.op (.binOp b t x y z) d ty) X P N W S0 ops Q Kn i T L C := k
theorem qWr {n : Nat} {T' : Tm} {d : Nat} {e : Int} {L' : Bx} (k : QT (.wrp n T' d e L') X P N W S0 ops Q Kn i T L C) : QT (.wrp n T' d e L') X P N W S0 ops Q Kn i T L C := k
theorem qCa {f : FuncId} {vs : Array Value} {d : Option Nat} (k : QT (.call f vs d) X P N W S0 ops Q Kn i T L C) : QT (.call f vs d) X P N W S0 ops Q Kn i T L C := k
theorem qAs {d : Nat} (k : QT (.ask d) X P N W S0 ops Q Kn i T L C) : QT (.ask d) X P N W S0 ops Q Kn i T L C := k
theorem qIx {t : TypeId} {x ix : Operand} {d : Option Nat} {ty : TypeId} (k : QT (.op (.indexAddr t x ix) d ty) X P N W S0 ops Q Kn i T L C) : QT (.op (.indexAddr t x ix) d ty) X P N W S0 ops Q Kn i T L C := k
theorem qLd {t : TypeId} {x : Operand} {d : Option Nat} {ty : TypeId} (k : QT (.op (.load t x) d ty) X P N W S0 ops Q Kn i T L C) : QT (.op (.load t x) d ty) X P N W S0 ops Q Kn i T L C := k
theorem qBi {b : BinOp} {t z : TypeId} {x y : Operand} {d : Option Nat} {ty : TypeId} (k : QT (.op (.binOp b t x y z) d ty) X P N W S0 ops Q Kn i T L C) : QT (.op (.binOp b t x y z) d ty) X P N W S0 ops Q Kn i T L C := k
theorem idOPL (k : OPL X P N W S0 ops Q Kn i T L C) : OPL X P N W S0 ops Q Kn i T L C := k
theorem idQT {x : Nx} (k : QT x X P N W S0 ops Q Kn i T L C) : QT x X P N W S0 ops Q Kn i T L C := k
theorem idCD {c : Code} (k : CD X P N W S0 c Q T L C) : CD X P N W S0 c Q T L C := k
theorem idBK {ι : Type} {Tf : ι → Tm} {Lf : ι → Bx} {Cf : ι → List Ass} {Inv : ι → Prop} {m : ι → Nat} {j : ι} {Q : Exit → Go.Act → World → Prop} (k : DN X N W S0 (Exit.then (BKP N W S0 Tf Lf Cf Inv m j) Q) .normal T L C) : DN X N W S0 (Exit.then (BKP N W S0 Tf Lf Cf Inv m j) Q) .normal T L C := k
theorem idDN {e : Exit} (k : DN X N W S0 Q e T L C) : DN X N W S0 Q e T L C := k
theorem idCND {b : Bool} {A B : Prop} (k : CND b A B) : CND b A B := k
theorem idHT {x : Hx} {bs : List Nat} {L0 : Bx} {Ks : Keys} {T0 : Tm} {f : Nat} {Ls : List Nat} {la : Array Bool} (k : HT x X P N W S0 ops Q bs L0 Ks T0 f Ls la Kn T L C) : HT x X P N W S0 ops Q bs L0 Ks T0 f Ls la Kn T L C := k
theorem idHO {x : Nx} {bs : List Nat} {L0 : Bx} {Ks : Keys} {T0 : Tm} {f : Nat} {Ls : List Nat} {la : Array Bool} (k : HO x i X P N W S0 ops Q bs L0 Ks T0 f Ls la Kn T L C) : HO x i X P N W S0 ops Q bs L0 Ks T0 f Ls la Kn T L C := k
theorem idRN {A : Ass} (k : CD X P N W S0 .ret Q T L (A :: C)) : CD X P N W S0 .ret Q T L (A :: C) := k
theorem idRS {a : Option Addr} {n c : Nat} {r : Res} (k : RETG (.slice a n c) r C) : RETG (.slice a n c) r C := k
theorem idRA {l : Array Value} {r : Res} (k : RETG (.agg l) r C) : RETG (.agg l) r C := k
theorem idRU {l : Array Value} {r : Res} (k : RETG (.tuple l) r C) : RETG (.tuple l) r C := k
theorem idRET {v : Value} {r : Res} (k : RETG v r C) : RETG v r C := k
theorem aRUN' [TB P] {n : Nat} {T' : Tm} {L' : Bx} {x : Nx} (k : AT x X P N W S0 ops Q Kn (i + n) T' L' C) (h : runP P N ops n ((List.range ops.size).drop i) T L = some (T', L') := by kernel_rfl) (h2 : nxt (TB.D P) ops Kn (i + n) T' L' = some x := by conv => lhs; whnf) : AT (.run n T' L') X P N W S0 ops Q Kn i T L C := aRUN k h
theorem qRUN' [TB P] {n : Nat} {T' : Tm} {x : Nx} (k : QT x X P N W S0 ops Q Kn (i + n) T' L C) (h : runQ P N ops L n i T = some T' := by kernel_rfl) (h2 : nxt (TB.D P) ops Kn (i + n) T' L = some x := by conv => lhs; whnf) : QT (.run n T' L) X P N W S0 ops Q Kn i T L C := qRUN k h
/-! ### Gates: what stands next, told at once -/
section gates
variable {d : Option Nat} {ty : TypeId} {bs : List Nat} {L0 : Bx} {Ks : Keys} {T0 : Tm} {f : Nat} {Ls : List Nat} {la : Array Bool}
theorem gtB {t : TypeId} {n : Nat} {ps : Array (Nat × Operand)} (k : AT (.op (.buildSlice t n ps) d ty) X P N W S0 ops Q Kn i T L C) : AT (.op (.buildSlice t n ps) d ty) X P N W S0 ops Q Kn i T L C := k
theorem gtC {t : TypeId} {x : Operand} {a b c : Option Operand} (k : AT (.op (.slice t x a b c) d ty) X P N W S0 ops Q Kn i T L C) : AT (.op (.slice t x a b c) d ty) X P N W S0 ops Q Kn i T L C := k
theorem gtP {c : Call} (k : AT (.op (.call c) d ty) X P N W S0 ops Q Kn i T L C) : AT (.op (.call c) d ty) X P N W S0 ops Q Kn i T L C := k
theorem gtS {t : TypeId} {x y : Operand} (k : AT (.op (.store t x y) d ty) X P N W S0 ops Q Kn i T L C) : AT (.op (.store t x y) d ty) X P N W S0 ops Q Kn i T L C := k
theorem gtR {n : Nat} {T' : Tm} {L' : Bx} (k : AT (.run n T' L') X P N W S0 ops Q Kn i T L C) : AT (.run n T' L') X P N W S0 ops Q Kn i T L C := k
theorem gtF (k : AT .fin X P N W S0 ops Q Kn i T L C) : AT .fin X P N W S0 ops Q Kn i T L C := k
theorem ghR {is l : List Nat} {T' : Tm} (k : HT (.run is l T') X P N W S0 ops Q bs L0 Ks T0 f Ls la Kn T L C) : HT (.run is l T') X P N W S0 ops Q bs L0 Ks T0 f Ls la Kn T L C := k
theorem ghA {e : Nat} (k : HT (.ask e) X P N W S0 ops Q bs L0 Ks T0 f Ls la Kn T L C) : HT (.ask e) X P N W S0 ops Q bs L0 Ks T0 f Ls la Kn T L C := k
theorem ghX {j : Nat} {t : TypeId} {x y : Operand} (k : HT (.op j (.indexAddr t x y) d ty) X P N W S0 ops Q bs L0 Ks T0 f Ls la Kn T L C) : HT (.op j (.indexAddr t x y) d ty) X P N W S0 ops Q bs L0 Ks T0 f Ls la Kn T L C := k
theorem ghL {j : Nat} {t : TypeId} {x : Operand} (k : HT (.op j (.load t x) d ty) X P N W S0 ops Q bs L0 Ks T0 f Ls la Kn T L C) : HT (.op j (.load t x) d ty) X P N W S0 ops Q bs L0 Ks T0 f Ls la Kn T L C := k
theorem ghC {j : Nat} {t : TypeId} {x : Operand} {a b c : Option Operand} (k : HT (.op j (.slice t x a b c) d ty) X P N W S0 ops Q bs L0 Ks T0 f Ls la Kn T L C) : HT (.op j (.slice t x a b c) d ty) X P N W S0 ops Q bs L0 Ks T0 f Ls la Kn T L C := k
theorem ghB {j : Nat} {b : BinOp} {t z : TypeId} {x y : Operand} (k : HT (.op j (.binOp b t x y z) d ty) X P N W S0 ops Q bs L0 Ks T0 f Ls la Kn T L C) : HT (.op j (.binOp b t x y z) d ty) X P N W S0 ops Q bs L0 Ks T0 f Ls la Kn T L C := k
theorem ghE (k : HT (.loud []) X P N W S0 ops Q bs L0 Ks T0 f Ls la Kn T L C) : HT (.loud []) X P N W S0 ops Q bs L0 Ks T0 f Ls la Kn T L C := k
theorem ghD {j : Nat} {l : List Nat} (k : HT (.loud (j :: l)) X P N W S0 ops Q bs L0 Ks T0 f Ls la Kn T L C) : HT (.loud (j :: l)) X P N W S0 ops Q bs L0 Ks T0 f Ls la Kn T L C := k
theorem goC {fn : FuncId} {vs : Array Value} (k : HO (.call fn vs d) i X P N W S0 ops Q bs L0 Ks T0 f Ls la Kn T L C) : HO (.call fn vs d) i X P N W S0 ops Q bs L0 Ks T0 f Ls la Kn T L C := k
theorem goB {t : TypeId} {n : Nat} {ps : Array (Nat × Operand)} (k : HO (.op (.buildSlice t n ps) d ty) i X P N W S0 ops Q bs L0 Ks T0 f Ls la Kn T L C) : HO (.op (.buildSlice t n ps) d ty) i X P N W S0 ops Q bs L0 Ks T0 f Ls la Kn T L C := k
theorem goP {c : Call} (k : HO (.op (.call c) d ty) i X P N W S0 ops Q bs L0 Ks T0 f Ls la Kn T L C) : HO (.op (.call c) d ty) i X P N W S0 ops Q bs L0 Ks T0 f Ls la Kn T L C := k
theorem goL {t : TypeId} {x : Operand} (k : HO (.op (.load t x) d ty) i X P N W S0 ops Q bs L0 Ks T0 f Ls la Kn T L C) : HO (.op (.load t x) d ty) i X P N W S0 ops Q bs L0 Ks T0 f Ls la Kn T L C := k
theorem goS {t : TypeId} {x y : Operand} (k : HO (.op (.store t x y) d ty) i X P N W S0 ops Q bs L0 Ks T0 f Ls la Kn T L C) : HO (.op (.store t x y) d ty) i X P N W S0 ops Q bs L0 Ks T0 f Ls la Kn T L C := k
end gates
/-- a premise of a contract -/
theorem SIDE {A : Prop} (h : A := by first | assumption | omega | exact Rd.fr (by assumption) (At.fr (by assumption)) | exact Rs.mk (by assumption) (by assumption) (At.fr (by assumption)) | exact Rs.own (by assumption) NT | exact RulesR.fr (by assumption) (At.fr (by assumption)) | exact RulesR.mk (by assumption) (by assumption) (At.fr (by assumption)) | exact CabinR.mk (by assumption) (by assumption) (by assumption) (by assumption) (At.fr (by assumption)) | exact HouseR.fr (by assumption) (At.fr (by assumption)) | exact HouseR.ownE (by assumption) NT NT NT NT NT | exact HouseR.own (by assumption) NT NT NT NT NT | exact RulesR.own (by assumption) NT | exact CabinR.own (by assumption) NT NT | exact Rs.ownN (by assumption) NT | exact HO9.ownE (by assumption) NT NT NT NT NT | exact HO9.own (by assumption) NT NT NT NT NT | exact SO9.own (by assumption) NT | exact HO9q.ownE (by assumption) NT NT NT NT NT | exact HO9q.own (by assumption) NT NT NT NT NT | (simp only [List.length_append, List.length_cons, List.length_nil, List.length_take, List.length_drop, List.length_set, List.length_replicate]; omega) | (solve_by_elim; done)) : A := h
/-- a step -/
theorem ST {A B : Prop} (k : B) (h : B → A := by
    intro k
    first
    | (refine idAT ?_
       first
       | (refine gtR ?_; exact aRUN' k)
       | (refine gtF ?_; exact aFIN k)
       | (refine aCa ?_
          first
          | exact aCV k (hcon := by intro c w hw; apply c <;> first | exact SIDE | fail)
          | exact aCX (hcon := by intro c w hw; apply c <;> first | exact SIDE | fail) (hp := by first | exact pl0 | exact plS PU pl0 | exact plS PU (plS PU pl0) | exact plS PU (plS PU (plS PU pl0)) | exact plS PU (plS PU (plS PU (plS PU (plS PU pl0))))) (k := k))
       | (refine aAs ?_
          first
          | exact aASK k
          | exact aASKU k)
       | (refine aIx ?_
          first
          | exact aIN k (ha := by intro w hw; exact Rd.some (by assumption) (by omega)) (hn := by omega)
          | exact aIX k (ha := by intro w hw; exact Rd.some (by assumption) (by omega)) (h0 := by omega) (hn := by omega)
          | exact aIO (k := k)
          | exact aIOz (k := k)
          | exact aIH (k := k)
          | exact aIHz (k := k))
       | (refine aLd ?_
          first
          | exact aLF (hr := by assumption) (hj := by omega) (k := k)
          | exact aLG (hr := by assumption) (hj := by omega) (k := k)
          | exact aLO (k := k)
          | exact aLH (k := k)
          | exact aHL (k := k))
       | (refine aWr ?_
          first
          | exact aWRN k (by omega)
          | exact aWRM k (by omega) (by omega)
          | exact aWRX k)
       | (refine aBi ?_
          first
          | exact aRV rQUO k
          | exact aRV rREM k
          | exact aRV rEQL k
          | exact aRV rNEQ k)
       | (refine gtB ?_
          first
          | exact aBUILD (k := k)
          | exact aBUS (k := k)
          | exact aBUC (k := k))
       | (refine gtC ?_
          first
          | exact aCH (hr := by assumption) (hc := by omega) (hz := by omega) (k := k)
          | exact aCL (hr := by assumption) (hc := by omega) (hz := by omega) (k := k)
          | exact aCHz (hr := by assumption) (hc := by omega) (h0 := INT) (hz := INT) (k := k)
          | exact aCLz (hr := by assumption) (hc := by omega) (h0 := INT) (hz := INT) (k := k))
       | (refine gtP ?_
          first
          | exact aAPR (hr := by assumption) (k := k)
          | exact aAPP (k := k)
          | exact aAPN (k := k)
          | exact aNIL (aAPP (k := k))
          | exact aNIL (aAPN (k := k))
          | exact aNIL (aAPR (hr := by assumption) (k := k)))
       | (refine gtS ?_
          first
          | exact aSO (k := k)
          | exact aSH (k := k)
          | exact aHS (k := k)))
    | (refine idOPL ?_; exact gNXT k)
    | (refine idCD ?_
       first
       | exact gSEQ (gRG (gNXT k))
       | exact gRG (gNXT k)
       | exact gSEQ k
       | exact gCD k
       | (refine idRN ?_
          first
          | exact gUNC (c := .ret) (k := k)
          | exact gUNS (c := .ret) (k := k))
       | exact gRET k
       | exact gSKIP (gNEXT k)
       | exact gSKIP k
       | exact gRQ (qNXT k)
       | exact gRH0 k
       | exact gRH1 (k := k)
       | exact gRH2 (k := k)
       | exact gRH3 (k := k)
       | exact gRH4 (k := k)
       | exact gRH5 (k := k)
       | exact gRH6 (k := k)
       | exact gBLOCK k
       | exact gEXIT k)
    | (refine idDN ?_
       first
       | exact gNEXT (gSEQ (gRG (gNXT k)))
       | exact gNEXT (gCD k)
       | exact gNEXT (gRG (gNXT k))
       | exact gNEXT k
       | exact gOUT k
       | exact gOUTN k
       | exact gOUTR k
       | exact gPASS k
       | exact gPASR k
       | (refine idBK ?_
          first
          | exact gFBACK k (by omega) (R := [])
          | exact gFABACK k (by omega) (R := [])
          | exact gFOBACK (α := Unit) (x' := ()) (hlt := by omega) (h := k)
          | exact gFOBACK (hlt := by omega) (h := k)
          | exact gFDBACK (hlt := by omega) (hk9 := by omega) (h := k)
          | exact gFBACK k (by omega))
       | exact gOUTX k (by decide))
    | (refine idCND ?_
       first
       | with_reducible exact cdT k
       | with_reducible exact cF k
       | with_reducible exact cNT k
       | with_reducible exact cNF k
       | exact cFK k)
    | (refine idQT ?_
       first
       | exact qRUN' k
       | exact qFIN k
       | (refine qCa ?_; exact qCV k (hcon := by intro c w hw; apply c <;> first | exact SIDE | fail))
       | (refine qAs ?_
          first
          | exact qASK k
          | exact qASKU k)
       | (refine qIx ?_
          first
          | exact qIN k (ha := Rd.some (by assumption) (by omega)) (hn := by omega)
          | exact qIX k (ha := Rd.some (by assumption) (by omega)) (h0 := by omega) (hn := by omega)
          | exact qIN k (ha := Iss.get (by assumption) (by omega)) (hn := by omega))
       | (refine qLd ?_
          first
          | exact qLF (hr := by assumption) (hj := by omega) (k := k)
          | exact qLG (hr := by assumption) (hj := by omega) (k := k)
          | exact qLO (k := k))
       | (refine qWr ?_
          first
          | exact qWRN k (by omega)
          | exact qWRM k (by omega) (by omega)
          | exact qWRX k)
       | (refine qBi ?_
          first
          | exact qRV rQUO k
          | exact qRV rREM k
          | exact qRV rEQL k
          | exact qRV rNEQ k))
    | exact qNXT k
    | exact hNXT (k := k)
    | (refine idHT ?_
       first
       | (refine ghR ?_; exact hRUN k)
       | (refine ghA ?_
          first
          | exact hASK k
          | exact hASKU k)
       | (refine ghX ?_
          first
          | exact hIX (ha := Rd.some (by assumption) (by omega)) (hn := by omega) (k := k)
          | exact hIXz (ha := Rd.some (by assumption) (by omega)) (h0 := by omega) (hn := by omega) (k := k)
          | exact hION (k := k)
          | exact hIO (k := k)
          | exact hIO (h0 := INTD) (hn := INTD) (k := k)
          | exact hIH (k := k))
       | (refine ghL ?_
          first
          | exact hLF (hr := by assumption) (hj := by omega) (k := k)
          | exact hLF2 (hr := by assumption) (hj := by omega) (k := k)
          | exact hLB (k := k)
          | exact hLK (k := k)
          | exact hLD (k := k))
       | (refine ghC ?_
          first
          | exact hCH (hr := by assumption) (hc := by omega) (hz := by omega) (k := k)
          | exact hCL (hr := by assumption) (hc := by omega) (hz := by omega) (k := k)
          | exact hCHz (hr := by assumption) (hc := by omega) (h0 := INT) (hz := INT) (k := k)
          | exact hCLz (hr := by assumption) (hc := by omega) (h0 := INT) (hz := INT) (k := k))
       | (refine ghB ?_
          first
          | exact hRV rQUO k
          | exact hRV rREM k
          | exact hRV rEQL k
          | exact hRV rNEQ k)
       | (refine ghE ?_; exact hEND (k := k))
       | (refine ghD ?_
          first
          | exact hALL1 (k := k)
          | exact hALL2 (k := k)
          | exact hALL3 (k := k)
          | exact hALL4 (k := k))
       | exact hLD (k := k))
    | (refine idHO ?_
       first
       | (refine goC ?_
          first
          | exact hCV (hcon := by intro c w hw; apply c <;> first | exact SIDE | fail) (k := k)
          | exact hCX (hcon := by intro c w hw; apply c <;> first | exact SIDE | fail) (hp := by first | exact pl0 | exact plS PU pl0 | exact plS PU (plS PU pl0) | exact plS PU (plS PU (plS PU (plS PU (plS PU pl0))))) (k := k))
       | (refine goB ?_
          first
          | exact hBUILD (k := k)
          | exact hBUS (k := k)
          | exact hBUC (k := k))
       | (refine goP ?_
          first
          | exact hAPR (hr := by assumption) (k := k)
          | exact hAPP (k := k)
          | exact hAPN (k := k)
          | exact hNIL (hAPP (k := k))
          | exact hNIL (hAPN (k := k))
          | exact hNIL (hAPR (hr := by assumption) (k := k)))
       | (refine goL ?_
          first
          | exact hLW (k := k)
          | exact hLH (k := k)
          | exact hLO (k := k)
          | exact hHL (k := k)
          | exact hONE (k := k))
       | (refine goS ?_
          first
          | exact hSW (k := k)
          | exact hSH (k := k)
          | exact hHS (k := k)
          | exact hONE (k := k))
       | exact hONE (k := k))
    | (refine idRET ?_
       first
       | exact rRVi k
       | exact rRVb k
       | (refine idRS ?_
          first
          | exact rOWN (h := k)
          | exact r1 (pOWN (h := k)))
       | (refine idRA ?_
          first
          | exact r1 (pHO (h := k))
          | exact r1 (pWh (h := k))
          | exact r1 (pRu (h := k))
          | exact r1 (pCa (h := k)))
       | (refine idRU ?_
          first
          | exact rT2 k
          | exact rT3 k)
       | exact rRV k)) : A := h k
end step
end SX
end Go.Proofs.YthnbaikmbgaddaaGreat
