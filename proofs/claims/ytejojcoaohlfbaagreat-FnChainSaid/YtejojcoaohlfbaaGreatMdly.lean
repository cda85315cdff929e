/- Texts of this claim, put together by program. -/
import Derived.Test.YtejojcoaohlfbaaGreatSu8
import Derived.Test.YtejojcoaohlfbaaGreatProg
import Derived.Test.YtejojcoaohlfbaaGreatMdlm
namespace Go.Proofs.YtejojcoaohlfbaaGreat
namespace SX
set_option linter.unusedVariables false
set_option linter.unusedSimpArgs false
open Go Go.RowKit
section step
variable {X : List Nat} {P : Program} {N : Nat} {W : World} {S0 : List Nat} {Q : Exit → Go.Act → World → Prop} {T : Tm} {L : Bx} {C : List Ass} {ops : Array Oper} {Kn : List (Nat × Nat)} {i : Nat}
theorem idAT {x : Nx} (k : AT x X P N W S0 ops Q Kn i T L C) : AT x X P N W S0 ops Q Kn i T L C := k
theorem aWr {n : Nat} {T' : Tm} {d : Nat} {e : Int} {L' : Bx} (k : AT (.wrp n T' d e L') X P N W S0 ops Q Kn i T L C) : AT (.wrp n T' d e L') X P N W S0 ops Q Kn i T L C := k
theorem aCa {f : FuncId} {vs : Array Value} {d : Option Nat} (k : AT (.call f vs d) X P N W S0 ops Q Kn i T L C) : AT (.call f vs d) X P N W S0 ops Q Kn i T L C := k
theorem aAs {d : Nat} (k : AT (.ask d) X P N W S0 ops Q Kn i T L C) : AT (.ask d) X P N W S0 ops Q Kn i T L C := k
theorem aIx {t : TypeId} {x ix : Operand} {d : Option Nat} {ty : TypeId} (k : AT (.op (.indexAddr t x ix) d ty) X P N W S0 ops Q Kn i T L C) : AT (.op (.indexAddr t x ix) d ty) X P N W S0 ops Q Kn i T L C := k
theorem aLd {t : TypeId} {x : Operand} {d : Option Nat} {ty : TypeId} (k : AT (.op (.load t x) d ty) X P N W S0 ops Q Kn i T L C) : AT (.op (.load t x) d ty) X P N W S0 ops Q Kn i T L C := k
theorem aBi {b : BinOp} {t z : TypeId} {x y : Operand} {d : Option Nat} {ty : TypeId} (k : AT (.op (.binOp b t x y z) d ty) X P N W S0 ops Q Kn i T L C) : AT (.op (.binOp b t x y z) d ty) X P N W S0 ops Q Kn i T L C := k
theorem qWr {n : Nat} {T' : Tm} {d : Nat} {e : Int} {L' : Bx} (k : QT (.wrp n T' d e L') X P N W S0 ops Q Kn i T L C) : QT (.wrp n T' d e L') X P N W S0 ops Q Kn i T L C := k
theorem qCa {f : FuncId} {vs : Array Value} {d : Option Nat} (k : QT (.call f vs d) X P N W S0 ops Q Kn i T L C) : QT (.call f vs d) X P N W S0 ops Q Kn i T L C := k
theorem qAs {d : Nat} (k : QT (.ask d) X P N W S0 ops Q Kn i T L C) : QT (.ask d) X P N W S0 ops Q Kn i T L C := k
theorem qIx {t : TypeId} {x ix : Operand} {d : Option Nat} {ty : TypeId} (k : QT (.op (.indexAddr t x ix) d ty) X P N W S0 ops Q Kn i T L C) : QT (.op (.indexAddr t x ix) d ty) X P N W S0 ops Q Kn i T L C := k
theorem qLd {t : TypeId} {x : Operand} {d : Option Nat} {ty : TypeId} (k : QT (.op (.load t x) d ty) X P N W S0 ops Q Kn i T L C) : QT (.op (.load t x) d ty) X P N W S0 ops Q Kn i T L C := k
theorem qBi {b : BinOp} {t z : TypeId} {x y : Operand} {d : Option Nat} {ty : TypeId} (k : QT (.op (.binOp b t x y z) d ty) X P N W S0 ops Q Kn i T L C) : QT (.op (.binOp b t x y z) d ty) X P N W S0 ops Q Kn i T L C := k
theorem idOPL (k : OPL X P N W S0 ops Q Kn i T L C) : OPL X P N W S0 ops Q Kn i T L C := k
theorem idQT {x : Nx} (k : QT x X P N W S0 ops Q Kn i T L C) : QT x X P N W S0 ops Q Kn i T L C := k
theorem idCD {c : Code} (k : CD X P N W S0 c Q T L C) : CD X P N W S0 c Q T L C := k
theorem idBK {ι : Type} {Tf : ι → Tm} {Lf : ι → Bx} {Cf : ι → List Ass} {Inv : ι → Prop} {m : ι → Nat} {j : ι} {Q : Exit → Go.Act → World → Prop} (k : DN X N W S0 (Exit.then (BKP N W S0 Tf Lf Cf Inv m j) Q) .normal T L C) : DN X N W S0 (Exit.then (BKP N W S0 Tf Lf Cf Inv m j) Q) .normal T L C := k
theorem idDN {e : Exit} (k : DN X N W S0 Q e T L C) : DN X N W S0 Q e T L C := k
theorem idCND {b : Bool} {A B : Prop} (k : CND b A B) : CND b A B := k
theorem idHT {x : Hx} {bs : List Nat} {L0 : Bx} {Ks : Keys} {T0 : Tm} {f : Nat} {Ls : List Nat} {la : Array Bool} (k : HT x X P N W S0 ops Q bs L0 Ks T0 f Ls la Kn T L C) : HT x X P N W S0 ops Q bs L0 Ks T0 f Ls la Kn T L C := k
theorem idHO {x : Nx} {bs : List Nat} {L0 : Bx} {Ks : Keys} {T0 : Tm} {f : Nat} {Ls : List Nat} {la : Array Bool} (k : HO x i X P N W S0 ops Q bs L0 Ks T0 f Ls la Kn T L C) : HO x i X P N W S0 ops Q bs L0 Ks T0 f Ls la Kn T L C := k
theorem idRN {A : Ass} (k : CD X P N W S0 .ret Q T L (A :: C)) : CD X P N W S0 .ret Q T L (A :: C) := k
theorem idRS {a : Option Addr} {n c : Nat} {r : Res} (k : RETG (.slice a n c) r C) : RETG (.slice a n c) r C := k
theorem idRA {l : Array Value} {r : Res} (k : RETG (.agg l) r C) : RETG (.agg l) r C := k
theorem idRU {l : Array Value} {r : Res} (k : RETG (.tuple l) r C) : RETG (.tuple l) r C := k
theorem idRET {v : Value} {r : Res} (k : RETG v r C) : RETG v r C := k
theorem aRUN' [TB P] {n : Nat} {T' : Tm} {L' : Bx} {x : Nx} (k : AT x X P N W S0 ops Q Kn (i + n) T' L' C) (h : runP P N ops n ((List.range ops.size).drop i) T L = some (T', L') := by kernel_rfl) (h2 : nxt (TB.D P) ops Kn (i + n) T' L' = some x := by conv => lhs; whnf) : AT (.run n T' L') X P N W S0 ops Q Kn i T L C := aRUN k h
theorem qRUN' [TB P] {n : Nat} {T' : Tm} {x : Nx} (k : QT x X P N W S0 ops Q Kn (i + n) T' L C) (h : runQ P N ops L n i T = some T' := by kernel_rfl) (h2 : nxt (TB.D P) ops Kn (i + n) T' L = some x := by conv => lhs; whnf) : QT (.run n T' L) X P N W S0 ops Q Kn i T L C := qRUN k h
section gates
variable {d : Option Nat} {ty : TypeId} {bs : List Nat} {L0 : Bx} {Ks : Keys} {T0 : Tm} {f : Nat} {Ls : List Nat} {la : Array Bool}
theorem gtB {t : TypeId} {n : Nat} {ps : Array (Nat × Operand)} (k : AT (.op (.buildSlice t n ps) d ty) X P N W S0 ops Q Kn i T L C) : AT (.op (.buildSlice t n ps) d ty) X P N W S0 ops Q Kn i T L C := k
theorem gtC {t : TypeId} {x : Operand} {a b c : Option Operand} (k : AT (.op (.slice t x a b c) d ty) X P N W S0 ops Q Kn i T L C) : AT (.op (.slice t x a b c) d ty) X P N W S0 ops Q Kn i T L C := k
theorem gtP {c : Call} (k : AT (.op (.call c) d ty) X P N W S0 ops Q Kn i T L C) : AT (.op (.call c) d ty) X P N W S0 ops Q Kn i T L C := k
theorem gtS {t : TypeId} {x y : Operand} (k : AT (.op (.store t x y) d ty) X P N W S0 ops Q Kn i T L C) : AT (.op (.store t x y) d ty) X P N W S0 ops Q Kn i T L C := k
theorem gtR {n : Nat} {T' : Tm} {L' : Bx} (k : AT (.run n T' L') X P N W S0 ops Q Kn i T L C) : AT (.run n T' L') X P N W S0 ops Q Kn i T L C := k
theorem gtF (k : AT .fin X P N W S0 ops Q Kn i T L C) : AT .fin X P N W S0 ops Q Kn i T L C := k
theorem ghR {is l : List Nat} {T' : Tm} (k : HT (.run is l T') X P N W S0 ops Q bs L0 Ks T0 f Ls la Kn T L C) : HT (.run is l T') X P N W S0 ops Q bs L0 Ks T0 f Ls la Kn T L C := k
theorem ghA {e : Nat} (k : HT (.ask e) X P N W S0 ops Q bs L0 Ks T0 f Ls la Kn T L C) : HT (.ask e) X P N W S0 ops Q bs L0 Ks T0 f Ls la Kn T L C := k
theorem ghX {j : Nat} {t : TypeId} {x y : Operand} (k : HT (.op j (.indexAddr t x y) d ty) X P N W S0 ops Q bs L0 Ks T0 f Ls la Kn T L C) : HT (.op j (.indexAddr t x y) d ty) X P N W S0 ops Q bs L0 Ks T0 f Ls la Kn T L C := k
theorem ghL {j : Nat} {t : TypeId} {x : Operand} (k : HT (.op j (.load t x) d ty) X P N W S0 ops Q bs L0 Ks T0 f Ls la Kn T L C) : HT (.op j (.load t x) d ty) X P N W S0 ops Q bs L0 Ks T0 f Ls la Kn T L C := k
theorem ghC {j : Nat} {t : TypeId} {x : Operand} {a b c : Option Operand} (k : HT (.op j (.slice t x a b c) d ty) X P N W S0 ops Q bs L0 Ks T0 f Ls la Kn T L C) : HT (.op j (.slice t x a b c) d ty) X P N W S0 ops Q bs L0 Ks T0 f Ls la Kn T L C := k
theorem ghB {j : Nat} {b : BinOp} {t z : TypeId} {x y : Operand} (k : HT (.op j (.binOp b t x y z) d ty) X P N W S0 ops Q bs L0 Ks T0 f Ls la Kn T L C) : HT (.op j (.binOp b t x y z) d ty) X P N W S0 ops Q bs L0 Ks T0 f Ls la Kn T L C := k
theorem ghE (k : HT (.loud []) X P N W S0 ops Q bs L0 Ks T0 f Ls la Kn T L C) : HT (.loud []) X P N W S0 ops Q bs L0 Ks T0 f Ls la Kn T L C := k
theorem ghD {j : Nat} {l : List Nat} (k : HT (.loud (j :: l)) X P N W S0 ops Q bs L0 Ks T0 f Ls la Kn T L C) : HT (.loud (j :: l)) X P N W S0 ops Q bs L0 Ks T0 f Ls la Kn T L C := k
theorem goC {fn : FuncId} {vs : Array Value} (k : HO (.call fn vs d) i X P N W S0 ops Q bs L0 Ks T0 f Ls la Kn T L C) : HO (.call fn vs d) i X P N W S0 ops Q bs L0 Ks T0 f Ls la Kn T L C := k
theorem goB {t : TypeId} {n : Nat} {ps : Array (Nat × Operand)} (k : HO (.op (.buildSlice t n ps) d ty) i X P N W S0 ops Q bs L0 Ks T0 f Ls la Kn T L C) : HO (.op (.buildSlice t n ps) d ty) i X P N W S0 ops Q bs L0 Ks T0 f Ls la Kn T L C := k
theorem goP {c : Call} (k : HO (.op (.call c) d ty) i X P N W S0 ops Q bs L0 Ks T0 f Ls la Kn T L C) : HO (.op (.call c) d ty) i X P N W S0 ops Q bs L0 Ks T0 f Ls la Kn T L C := k
theorem goL {t : TypeId} {x : Operand} (k : HO (.op (.load t x) d ty) i X P N W S0 ops Q bs L0 Ks T0 f Ls la Kn T L C) : HO (.op (.load t x) d ty) i X P N W S0 ops Q bs L0 Ks T0 f Ls la Kn T L C := k
theorem goS {t : TypeId} {x y : Operand} (k : HO (.op (.store t x y) d ty) i X P N W S0 ops Q bs L0 Ks T0 f Ls la Kn T L C) : HO (.op (.store t x y) d ty) i X P N W S0 ops Q bs L0 Ks T0 f Ls la Kn T L C := k
end gates
theorem SIDE {A : Prop} (h : A := by first | assumption | omega | exact Rd.fr (by assumption) (At.fr (by assumption)) | exact Rs.mk (by assumption) (by assumption) (At.fr (by assumption)) | exact Rs.own (by assumption) NT | exact RulesR.fr (by assumption) (At.fr (by assumption)) | exact RulesR.mk (by assumption) (by assumption) (At.fr (by assumption)) | exact CabinR.mk (by assumption) (by assumption) (by assumption) (by assumption) (At.fr (by assumption)) | exact HouseR.fr (by assumption) (At.fr (by assumption)) | exact HouseR.ownE (by assumption) NT NT NT NT NT | exact HouseR.own (by assumption) NT NT NT NT NT | exact RulesR.own (by assumption) NT | exact CabinR.own (by assumption) NT NT | exact Rs.ownN (by assumption) NT | exact HO9.ownE (by assumption) NT NT NT NT NT | exact HO9.own (by assumption) NT NT NT NT NT | exact SO9.own (by assumption) NT | exact HO9q.ownE (by assumption) NT NT NT NT NT | exact HO9q.own (by assumption) NT NT NT NT NT | (simp only [List.length_append, List.length_cons, List.length_nil, List.length_take, List.length_drop, List.length_set, List.length_replicate]; omega) | (solve_by_elim; done)) : A := h
theorem ST {A B : Prop} (k : B) (h : B → A := by
 intro k
 first
 | (refine idAT ?_
    first
    | (refine gtR ?_; exact aRUN' k)
    | (refine gtF ?_; exact aFIN k)
    | (refine aCa ?_
       first
       | exact aCV k (hcon := by intro c w hw; first | (apply c <;> exact SIDE) | fail)
       | exact aCX (hcon := by intro c w hw; first | (apply c <;> exact SIDE) | fail) (hp := by first | exact pl0 | exact plS PU pl0 | exact plS PU (plS PU pl0) | exact plS PU (plS PU (plS PU pl0)) | exact plS PU (plS PU (plS PU (plS PU (plS PU pl0))))) (k := k))
    | (refine aAs ?_
       first
       | exact aASK k
       | exact aASKU k)
    | (refine aIx ?_
       first
       | exact aIN k (ha := by intro w hw; exact Rd.some (by assumption) (by omega)) (hn := by omega)
       | exact aIX k (ha := by intro w hw; exact Rd.some (by assumption) (by omega)) (h0 := by omega) (hn := by omega)
       | exact aIO (k := k)
       | exact aIOz (k := k)
       | exact aIH (k := k)
       | exact aIHz (k := k))
    | (refine aLd ?_
       first
       | exact aLF (hr := by assumption) (hj := by omega) (k := k)
       | exact aLG (hr := by assumption) (hj := by omega) (k := k)
       | exact aLO (k := k)
       | exact aLH (k := k)
       | exact aHL (k := k))
    | (refine aWr ?_
       first
       | exact aWRN k (by omega)
       | exact aWRM k (by omega) (by omega)
       | exact aWRX k)
    | (refine aBi ?_
       first
       | exact aRV rQUO k
       | exact aRV rREM k
       | exact aRV rEQL k
       | exact aRV rNEQ k)
    | (refine gtB ?_
       first
       | exact aBUILD (k := k)
       | exact aBUS (k := k)
       | exact aBUC (k := k))
    | (refine gtC ?_
       first
       | exact aCH (hr := by assumption) (hc := by omega) (hz := by omega) (k := k)
       | exact aCL (hr := by assumption) (hc := by omega) (hz := by omega) (k := k)
       | exact aCHz (hr := by assumption) (hc := by omega) (h0 := INT) (hz := INT) (k := k)
       | exact aCLz (hr := by assumption) (hc := by omega) (h0 := INT) (hz := INT) (k := k))
    | (refine gtP ?_
       first
       | exact aAPR (hr := by assumption) (k := k)
       | exact aAPP (k := k)
       | exact aAPN (k := k)
       | exact aNIL (aAPP (k := k))
       | exact aNIL (aAPN (k := k))
       | exact aNIL (aAPR (hr := by assumption) (k := k)))
    | (refine gtS ?_
       first
       | exact aSO (k := k)
       | exact aSH (k := k)
       | exact aHS (k := k)))
 | (refine idOPL ?_; exact gNXT k)
 | (refine idCD ?_
    first
    | exact gSEQ (gRG (gNXT k))
    | exact gRG (gNXT k)
    | exact gSEQ k
    | exact gCD k
    | (refine idRN ?_
       first
       | exact gUNC (c := .ret) (k := k)
       | exact gUNS (c := .ret) (k := k))
    | exact gRET k
    | exact gSKIP (gNEXT k)
    | exact gSKIP k
    | exact gRQ (qNXT k)
    | exact gRH0 k
    | exact gRH1 (k := k)
    | exact gRH2 (k := k)
    | exact gRH3 (k := k)
    | exact gRH4 (k := k)
    | exact gRH5 (k := k)
    | exact gRH6 (k := k)
    | exact gBLOCK k
    | exact gEXIT k)
 | (refine idDN ?_
    first
    | exact gNEXT (gSEQ (gRG (gNXT k)))
    | exact gNEXT (gCD k)
    | exact gNEXT (gRG (gNXT k))
    | exact gNEXT k
    | exact gOUT k
    | exact gOUTN k
    | exact gOUTR k
    | exact gPASS k
    | exact gPASR k
    | (refine idBK ?_
       first
       | exact gFBACK k (by omega) (R := [])
       | exact gFABACK k (by omega) (R := [])
       | exact gFOBACK (α := Unit) (x' := ()) (hlt := by omega) (h := k)
       | exact gFOBACK (hlt := by omega) (h := k)
       | exact gFDBACK (hlt := by omega) (hk9 := by omega) (h := k)
       | exact gFBACK k (by omega))
    | exact gOUTX k (by decide))
 | (refine idCND ?_
    first
    | with_reducible exact cdT k
    | with_reducible exact cF k
    | with_reducible exact cNT k
    | with_reducible exact cNF k
    | exact cFK k)
 | (refine idQT ?_
    first
    | exact qRUN' k
    | exact qFIN k
    | (refine qCa ?_; exact qCV k (hcon := by intro c w hw; first | (apply c <;> exact SIDE) | fail))
    | (refine qAs ?_
       first
       | exact qASK k
       | exact qASKU k)
    | (refine qIx ?_
       first
       | exact qIN k (ha := Rd.some (by assumption) (by omega)) (hn := by omega)
       | exact qIX k (ha := Rd.some (by assumption) (by omega)) (h0 := by omega) (hn := by omega)
       | exact qIN k (ha := Iss.get (by assumption) (by omega)) (hn := by omega))
    | (refine qLd ?_
       first
       | exact qLF (hr := by assumption) (hj := by omega) (k := k)
       | exact qLG (hr := by assumption) (hj := by omega) (k := k)
       | exact qLO (k := k))
    | (refine qWr ?_
       first
       | exact qWRN k (by omega)
       | exact qWRM k (by omega) (by omega)
       | exact qWRX k)
    | (refine qBi ?_
       first
       | exact qRV rQUO k
       | exact qRV rREM k
       | exact qRV rEQL k
       | exact qRV rNEQ k))
 | exact qNXT k
 | exact hNXT (k := k)
 | (refine idHT ?_
    first
    | (refine ghR ?_; exact hRUN k)
    | (refine ghA ?_
       first
       | exact hASK k
       | exact hASKU k)
    | (refine ghX ?_
       first
       | exact hIX (ha := Rd.some (by assumption) (by omega)) (hn := by omega) (k := k)
       | exact hIXz (ha := Rd.some (by assumption) (by omega)) (h0 := by omega) (hn := by omega) (k := k)
       | exact hION (k := k)
       | exact hIO (k := k)
       | exact hIO (h0 := INTD) (hn := INTD) (k := k)
       | exact hIH (k := k))
    | (refine ghL ?_
       first
       | exact hLF (hr := by assumption) (hj := by omega) (k := k)
       | exact hLF2 (hr := by assumption) (hj := by omega) (k := k)
       | exact hLB (k := k)
       | exact hLK (k := k)
       | exact hLD (k := k))
    | (refine ghC ?_
       first
       | exact hCH (hr := by assumption) (hc := by omega) (hz := by omega) (k := k)
       | exact hCL (hr := by assumption) (hc := by omega) (hz := by omega) (k := k)
       | exact hCHz (hr := by assumption) (hc := by omega) (h0 := INT) (hz := INT) (k := k)
       | exact hCLz (hr := by assumption) (hc := by omega) (h0 := INT) (hz := INT) (k := k))
    | (refine ghB ?_
       first
       | exact hRV rQUO k
       | exact hRV rREM k
       | exact hRV rEQL k
       | exact hRV rNEQ k)
    | (refine ghE ?_; exact hEND (k := k))
    | (refine ghD ?_
       first
       | exact hALL1 (k := k)
       | exact hALL2 (k := k)
       | exact hALL3 (k := k)
       | exact hALL4 (k := k))
    | exact hLD (k := k))
 | (refine idHO ?_
    first
    | (refine goC ?_
       first
       | exact hCV (hcon := by intro c w hw; first | (apply c <;> exact SIDE) | fail) (k := k)
       | exact hCX (hcon := by intro c w hw; first | (apply c <;> exact SIDE) | fail) (hp := by first | exact pl0 | exact plS PU pl0 | exact plS PU (plS PU pl0) | exact plS PU (plS PU (plS PU (plS PU (plS PU pl0))))) (k := k))
    | (refine goB ?_
       first
       | exact hBUILD (k := k)
       | exact hBUS (k := k)
       | exact hBUC (k := k))
    | (refine goP ?_
       first
       | exact hAPR (hr := by assumption) (k := k)
       | exact hAPP (k := k)
       | exact hAPN (k := k)
       | exact hNIL (hAPP (k := k))
       | exact hNIL (hAPN (k := k))
       | exact hNIL (hAPR (hr := by assumption) (k := k)))
    | (refine goL ?_
       first
       | exact hLW (k := k)
       | exact hLH (k := k)
       | exact hLO (k := k)
       | exact hHL (k := k)
       | exact hONE (k := k))
    | (refine goS ?_
       first
       | exact hSW (k := k)
       | exact hSH (k := k)
       | exact hHS (k := k)
       | exact hONE (k := k))
    | exact hONE (k := k))
 | (refine idRET ?_
    first
    | exact rRVi k
    | exact rRVb k
    | (refine idRS ?_
       first
       | exact rOWN (h := k)
       | exact r1 (pOWN (h := k)))
    | (refine idRA ?_
       first
       | exact r1 (pHO (h := k))
       | exact r1 (pWh (h := k))
       | exact r1 (pRu (h := k))
       | exact r1 (pCa (h := k)))
    | (refine idRU ?_
       first
       | exact rT2 k
       | exact rT3 k)
    | exact rRV k)) : A := h k
end step
end SX
end Go.Proofs.YtejojcoaohlfbaaGreat
namespace Go.Proofs.YtejojcoaohlfbaaGreat
namespace SX
open Go Go.RowKit
instance : TB Tryz.prog := ⟨{ fld := [(24, [(0, none), (1, none), (2, none), (3, none), (4, none), (5, none), (6, none), (7, none), (8, none)]), (28, [(0, some 9), (9, none), (10, none), (11, none), (12, none), (13, none), (14, none)]), (34, [(0, none), (1, none), (2, none), (3, none), (4, none), (5, none), (6, none), (7, none), (8, none)]), (38, [(0, some 9), (9, none), (10, none), (11, none), (12, none), (13, none), (14, none)]), (64, [(0, none), (1, none), (2, none), (3, none), (4, none)]), (68, [(0, none)]), (70, [(0, some 5), (5, none), (6, some 1)]), (80, [(0, none), (1, none)]), (84, [(0, none), (1, none), (2, none), (3, none), (4, none), (5, none)]), (89, [(0, none), (1, none), (2, none), (3, none), (4, none)]), (91, [(0, none), (1, none), (2, none), (3, none), (4, none), (5, none), (6, none), (7, none), (8, none), (9, none)]), (117, [(0, none), (1, none), (2, none), (3, none), (4, none), (5, none)]), (159, [(0, none), (1, none), (2, none), (3, none)]), (166, [(0, none), (1, none)]), (170, [(0, none), (1, none), (2, none), (3, none), (4, none)]), (174, [(0, none)]), (176, [(0, some 5), (5, none), (6, some 1)]), (180, [(0, none), (1, none), (2, none), (3, none), (4, none), (5, none), (6, none), (7, none), (8, none), (9, none)]), (191, [(0, none), (1, none), (2, none)]), (271, [(0, none), (1, none), (2, none), (3, none)]), (301, [(0, none), (1, none)])], agg := [(24, 9), (28, 15), (34, 9), (38, 15), (64, 5), (68, 1), (70, 7), (80, 2), (84, 6), (89, 5), (91, 10), (117, 6), (159, 4), (166, 2), (170, 5), (174, 1), (176, 7), (180, 10), (191, 3), (271, 4), (301, 2)], zero := [(3, [.int .i64 0]), (5, [.int .u8 0]), (22, [.slice none 0 0]), (24, [.slice none 0 0, .int .i64 0, .int .i64 0, .int .i64 0, .int .i64 0, .int .i64 0, .int .i64 0, .int .i64 0, .int .i64 0]), (25, [.slice none 0 0]), (26, [.slice none 0 0]), (28, [.slice none 0 0, .int .i64 0, .int .i64 0, .int .i64 0, .int .i64 0, .int .i64 0, .int .i64 0, .int .i64 0, .int .i64 0, .int .i64 0, .int .i64 0, .slice none 0 0, .slice none 0 0, .slice none 0 0, .slice none 0 0]), (34, [.slice none 0 0, .int .i64 0, .int .i64 0, .int .i64 0, .int .i64 0, .int .i64 0, .int .i64 0, .int .i64 0, .int .i64 0]), (35, [.slice none 0 0]), (36, [.slice none 0 0]), (38, [.slice none 0 0, .int .i64 0, .int .i64 0, .int .i64 0, .int .i64 0, .int .i64 0, .int .i64 0, .int .i64 0, .int .i64 0, .int .i64 0, .int .i64 0, .slice none 0 0, .slice none 0 0, .slice none 0 0, .slice none 0 0]), (55, [.slice none 0 0]), (64, [.int .i64 0, .int .i64 0, .int .i64 0, .int .i64 0, .int .i64 0]), (65, [.slice none 0 0]), (66, [.slice none 0 0]), (68, [.slice none 0 0]), (70, [.int .i64 0, .int .i64 0, .int .i64 0, .int .i64 0, .int .i64 0, .slice none 0 0, .slice none 0 0]), (80, [.int .i64 0, .slice none 0 0]), (84, [.int .i64 0, .int .i64 0, .int .i64 0, .int .i64 0, .int .i64 0, .int .i64 0]), (89, [.int .i64 0, .int .i64 0, .int .i64 0, .int .i64 0, .int .i64 0]), (91, [.int .i64 0, .int .i64 0, .int .i64 0, .int .i64 0, .int .i64 0, .int .i64 0, .int .i64 0, .int .i64 0, .int .i64 0, .int .i64 0]), (117, [.int .i64 0, .int .i64 0, .int .i64 0, .int .i64 0, .int .i64 0, .int .i64 0]), (159, [.int .i64 0, .int .i64 0, .int .i64 0, .int .i64 0]), (166, [.int .i64 0, .int .i64 0]), (170, [.int .i64 0, .int .i64 0, .int .i64 0, .int .i64 0, .int .i64 0]), (171, [.slice none 0 0]), (172, [.slice none 0 0]), (174, [.slice none 0 0]), (176, [.int .i64 0, .int .i64 0, .int .i64 0, .int .i64 0, .int .i64 0, .slice none 0 0, .slice none 0 0]), (180, [.int .i64 0, .int .i64 0, .int .i64 0, .int .i64 0, .int .i64 0, .int .i64 0, .int .i64 0, .int .i64 0, .int .i64 0, .int .i64 0]), (191, [.slice none 0 0, .int .i64 0, .int .i64 0]), (199, [.slice none 0 0]), (271, [.int .i64 0, .int .i64 0, .int .i64 0, .int .i64 0]), (283, [.int .u64 0]), (292, [.slice none 0 0]), (301, [.int .i64 0, .int .i64 0])], row := [(22, 3, 1), (25, 180, 10), (26, 176, 7), (29, 117, 6), (35, 91, 10), (36, 70, 7), (40, 84, 6), (51, 89, 5), (55, 5, 1), (60, 80, 2), (65, 159, 4), (66, 199, 1), (171, 271, 4), (172, 292, 1), (199, 166, 2), (292, 301, 2)], ik := [(3, .i64), (5, .u8), (215, .u64), (264, .u32), (283, .u64)], nm := [(64, fun l => match l with | [.int _ x0, .int _ x1, .int _ x2, .int _ x3, .int _ x4] => some (ledgerE ⟨x0, x1, x2, x3, x4⟩) | _ => none), (84, fun l => match l with | [.int _ x0, .int _ x1, .int _ x2, .int _ x3, .int _ x4, .int _ x5] => some (reqE ⟨x0, x1, x2, x3, x4, x5⟩) | _ => none), (89, fun l => match l with | [.int _ x0, .int _ x1, .int _ x2, .int _ x3, .int _ x4] => some (lookE ⟨x0, x1, x2, x3, x4⟩) | _ => none), (91, fun l => match l with | [.int _ x0, .int _ x1, .int _ x2, .int _ x3, .int _ x4, .int _ x5, .int _ x6, .int _ x7, .int _ x8, .int _ x9] => some (partyE ⟨x0, x1, x2, x3, x4, x5, x6, x7, x8, x9⟩) | _ => none), (117, fun l => match l with | [.int _ x0, .int _ x1, .int _ x2, .int _ x3, .int _ x4, .int _ x5] => some (reqE ⟨x0, x1, x2, x3, x4, x5⟩) | _ => none), (159, fun l => match l with | [.int _ x0, .int _ x1, .int _ x2, .int _ x3] => some (entryE ⟨x0, x1, x2, x3⟩) | _ => none), (166, fun l => match l with | [.int _ x0, .int _ x1] => some (pinE ⟨x0, x1⟩) | _ => none), (170, fun l => match l with | [.int _ x0, .int _ x1, .int _ x2, .int _ x3, .int _ x4] => some (ledgerE ⟨x0, x1, x2, x3, x4⟩) | _ => none), (180, fun l => match l with | [.int _ x0, .int _ x1, .int _ x2, .int _ x3, .int _ x4, .int _ x5, .int _ x6, .int _ x7, .int _ x8, .int _ x9] => some (partyE ⟨x0, x1, x2, x3, x4, x5, x6, x7, x8, x9⟩) | _ => none), (271, fun l => match l with | [.int _ x0, .int _ x1, .int _ x2, .int _ x3] => some (entryE ⟨x0, x1, x2, x3⟩) | _ => none), (301, fun l => match l with | [.int _ x0, .int _ x1] => some (pinE ⟨x0, x1⟩) | _ => none)], loud := [1, 15, 16, 17, 18, 19, 22, 23, 24, 25, 26, 27, 28, 29, 30, 31, 33, 34, 35, 36, 37, 38, 39, 40, 41, 42, 43, 44, 45, 46, 47, 48, 49, 50, 51, 52, 53, 54, 55, 56, 57, 58, 59, 60, 61, 62, 65, 66, 67, 68, 69, 70, 71, 72, 73, 74, 75, 76, 77, 78, 79, 80, 81, 82, 85, 86, 87, 92, 93, 94, 95, 96, 97, 98, 99, 100, 101, 102, 103, 104, 105, 106, 107, 108, 109, 110, 111, 112, 113, 114, 115, 116, 118, 119, 120, 121, 122, 123, 124, 125, 126, 127, 128, 129, 130, 131, 132, 133, 134, 135, 136, 137, 138, 139, 140, 141, 142, 143, 144, 145, 146, 147, 148, 149, 150, 151, 152, 153, 154, 156, 157, 160, 161, 162, 163, 164, 167, 168, 169, 171, 172, 173, 174, 175, 176, 177, 178, 179, 181, 182, 183, 184, 185, 186, 187, 188, 189, 190, 191, 192, 193, 194, 195, 196, 197, 198, 199, 200, 201, 202, 203, 205, 207, 208, 209, 210, 211, 212, 213, 214, 216, 217, 218, 219, 220, 221, 222, 223, 224, 225, 227, 228, 229, 230, 231, 232, 233, 234, 235, 236, 237, 238, 239, 240, 241, 242, 243, 244, 245, 246, 247, 248, 249, 250, 251, 252, 253, 254, 255, 256, 259, 260, 261, 262, 263, 265, 267, 268, 269, 270, 272, 273, 274, 275, 276, 277, 278, 279, 280, 281, 282, 284, 285, 286, 287, 288, 289, 290, 291, 292, 293, 294, 295, 296, 297, 299, 300, 302, 303, 304, 305, 306, 307, 308, 309, 310, 311, 312, 313, 314, 315, 319, 322, 323, 326, 327], live := [(3, [0, 1, 2, 3, 6, 7, 8, 9, 10, 11, 12, 13, 18, 23, 51, 56, 61]),
 (4, [0, 1, 2, 4, 5, 6, 7, 8, 9, 10, 11, 12, 13, 18, 23, 39, 44, 49, 63, 71, 74, 83, 88, 91]),
 (5, [0, 1, 2, 4, 5, 6, 7, 8, 9, 10, 11, 12, 13, 18, 23, 39, 44, 49, 63, 71, 74, 83, 88, 91]),
 (6, [0, 2, 3, 4, 5, 6, 8, 9, 11, 22, 38, 66]),
 (7, [0, 2, 3, 4, 5, 6, 7, 8, 9, 11, 39, 42]),
 (8, [0, 2, 3, 4, 5, 6, 7, 8, 9, 10, 11, 13, 32, 52, 69, 97]),
 (9, [0, 2, 3, 4, 5, 6, 7, 8, 9, 10, 11, 12, 13, 14, 15, 17, 33, 48, 80, 103, 111, 173, 178, 236]),
 (10, [0, 2, 3, 4, 5, 6, 8, 9, 10, 11, 13, 27, 35, 74, 95, 100, 137]),
 (11, [0, 2, 3, 4, 5, 6, 7, 8, 9, 10, 11, 12, 13, 14, 16, 27, 75, 86, 103, 115, 131, 157, 165, 191, 202, 206, 213]),
 (12, [0, 1, 2, 4, 10, 16, 22, 28, 34]),
 (13, [0, 1, 4, 10]),
 (14, [0, 1, 2, 3, 6, 7, 8, 9, 10, 11, 12, 13, 21, 28, 41, 90]),
 (15, [0, 1, 2, 3]),
 (16, [0, 2, 3, 4, 11]),
 (17, [0, 1, 2, 3, 6, 7, 8, 9, 11, 12, 13, 14, 15, 16, 19, 22, 23, 24, 25, 32, 81, 83]),
 (18, [0, 1, 2, 3, 4, 10, 15, 20, 26, 32, 38, 44]),
 (19, [0, 1, 4, 5, 10, 14, 26]),
 (20, [0, 1, 2, 4, 5, 6, 7, 8, 13, 38]),
 (21, [0, 1, 2, 4, 5, 6, 7, 8, 9, 10, 13, 14, 15, 16, 39]),
 (22, [0, 1, 4, 5, 10, 14, 25]),
 (23, [0, 1, 2, 4]),
 (24, [0, 1, 4, 5, 9]),
 (25, [0, 1, 4, 5, 9]),
 (26, [0, 1, 4, 5, 9, 17]),
 (27, [0, 1, 2, 4, 5, 6, 7, 8, 9, 10, 11, 16, 31, 54]),
 (28, [0, 1, 2, 4, 5, 6, 7, 8, 9, 10, 11, 12, 14, 17, 18, 19, 20, 33, 44, 45, 46, 47]),
 (29, [0, 1, 4, 5, 10, 14, 26]),
 (30, [0, 1, 4, 5, 9]),
 (31, [0, 1, 4, 5, 9, 18, 27, 36, 45, 54]),
 (32, [0, 2]),
 (33, [0, 2, 3, 4, 5, 11]),
 (34, [0, 1, 2, 3, 35, 43, 48, 90]),
 (35, [0, 1, 2, 4, 5, 6, 7, 9, 10, 11, 14, 15, 16, 17]),
 (36, [0, 1, 2]),
 (37, [0, 2, 3, 4, 5, 6, 7, 8, 28]),
 (38, [0, 2]),
 (39, [0, 1, 2, 3, 4, 5, 6, 8, 11, 20, 41]),
 (40, [0, 1, 2, 6, 7, 8, 9, 10, 11, 12, 13, 31]),
 (41, [0, 1, 4, 5, 7, 9, 10, 11, 12, 13, 17, 18, 19, 20, 25]),
 (42, [0, 1, 2, 4, 5, 6, 7, 8, 9, 10, 17]),
 (43, [0, 1, 2, 5, 6]),
 (44, [0, 1, 2, 5, 6]),
 (45, [0, 1, 2, 3, 4, 5, 6, 7, 8, 13, 19, 30, 48, 58, 70, 80, 90]),
 (46, [0, 1, 2, 3, 4, 7, 11, 14, 16, 17, 22, 28, 29, 36, 40, 47, 48, 55, 59, 60, 67, 80]),
 (47, [0, 1, 2, 3, 4, 6, 7, 9, 10, 14, 18, 19, 20, 21, 47]),
 (48, [0, 1, 2, 3, 6, 7, 8, 9, 10, 14, 21, 53, 64, 74]),
 (49, [0, 1, 2, 4, 5, 11]),
 (50, [0, 1, 2, 4]),
 (51, [0, 1, 2, 4]),
 (52, [0, 1, 2, 4, 5, 6, 12]),
 (53, [0, 2, 3]),
 (54, [0, 1, 2, 4, 5, 6, 8, 12, 18, 26, 27, 28, 29]),
 (55, [0, 1, 4, 5, 10, 14, 25]),
 (56, [0, 1, 2, 4, 5, 6, 7, 8, 9, 10, 15, 22, 34, 47, 52]),
 (57, [0, 1, 2, 4, 5, 6, 7, 8, 9, 10, 16, 22, 37]),
 (58, [0, 1, 2, 3, 6, 7, 8, 9, 18]),
 (59, [0, 1, 4, 8]),
 (60, [0, 1, 2, 4, 5, 6, 7, 8, 9, 10, 15, 20, 35]),
 (61, [0, 1, 4]),
 (62, [0, 1, 4, 5, 10, 14, 25]),
 (63, [0, 2, 3, 7]),
 (64, [0, 1, 2, 3, 4, 5, 6, 61, 66, 79, 84, 98]),
 (65, [0, 1, 2, 3, 4, 9, 17]),
 (66, [0, 1, 2, 3, 4, 5, 12, 20]),
 (67, [0, 1, 2, 4, 13, 15, 16, 17, 18, 22]),
 (68, [0, 1, 2, 4, 14]),
 (69, [0, 1, 2, 4]),
 (70, [0, 1, 2, 4, 5, 6, 7, 8, 9, 10, 18, 68]),
 (71, [0, 1, 2, 4, 5, 6, 7, 8, 16]),
 (72, [0, 1, 2, 3, 4, 5, 6, 13, 22, 23, 24, 43]),
 (73, [0, 1, 2, 4, 5, 6, 16]),
 (74, [0, 1, 2, 4, 5, 6, 16]),
 (75, [0, 1, 2]),
 (76, [0, 1, 2, 4, 10]),
 (77, [0, 1, 4, 10]),
 (78, [0, 1, 4, 5, 11, 15, 25]),
 (79, [0, 1, 4, 10]),
 (80, [0, 1, 2, 3, 4, 5, 6, 7, 8, 15, 21, 30, 47, 56, 67, 76, 85]),
 (81, [0, 1, 4, 5, 9, 17]),
 (82, [0, 1, 2, 3, 4, 6, 11]),
 (83, [0, 1, 2, 3]),
 (84, [0, 2, 3, 4, 11]),
 (85, [0, 2, 3, 4, 11]),
 (86, [0, 2, 3, 4, 11]),
 (87, [0, 1, 2, 3]),
 (88, [0, 1, 2, 3, 4, 5, 7, 8, 9, 10, 11, 13, 49, 53, 55, 56, 57, 58, 91, 95, 96, 97, 98, 133, 137, 138, 139, 140, 175, 178, 179, 180, 181, 196, 199, 200, 201, 202, 209]),
 (89, [0, 1, 2, 3, 5, 24, 25, 26, 27]),
 (90, [0, 1, 2, 3, 4, 5, 6, 7, 11, 16, 24, 25, 27, 48, 56, 63, 68, 74, 84, 97, 101, 107, 108, 110, 116, 121, 129, 136, 139, 147, 156, 160, 161, 163, 170]),
 (91, [0, 1, 2, 3, 4, 6, 11]),
 (92, [0, 1, 4]),
 (93, [0, 1, 2, 3, 4, 10, 15, 20, 25, 30, 35, 40, 45, 50]),
 (94, [0, 1, 4, 5, 10, 14, 26]),
 (95, [0, 1, 4, 5, 10, 14, 26]),
 (96, [0, 1, 2, 3, 4, 9, 14, 19, 24, 29, 34]),
 (97, [0, 1, 2, 3, 4]),
 (98, [0, 1, 2, 4]),
 (99, [0, 1, 4, 5, 9]),
 (100, [0, 1, 4, 5, 9]),
 (101, [0, 1, 2, 4, 5, 7, 12, 13, 14, 15]),
 (102, [0, 1, 2, 4, 5, 6, 7, 8, 9, 16]),
 (103, [0, 1, 2, 3, 4, 9, 14, 19, 24, 29]),
 (104, [0, 2, 3, 4, 15]),
 (105, [0, 2, 3, 6]),
 (106, [0, 1, 4]),
 (107, [0, 2, 3, 4, 11, 12, 16, 20, 28, 36, 49, 54, 60, 70, 77, 82, 87]),
 (108, [0, 1, 2, 4, 6, 7, 8, 9, 13, 20, 25]),
 (109, [0, 1, 4, 5, 6, 7, 8, 10, 12]),
 (110, [0, 1, 2, 6, 7, 15]),
 (111, [0, 1, 2, 3, 32, 37, 46]),
 (112, [0, 1, 2, 6]),
 (113, [0, 1, 2, 3, 4, 5, 6, 11, 48, 51, 91]),
 (114, [0, 1, 2, 3, 4, 9, 34, 39, 52]),
 (115, [0, 1, 2, 3, 4, 5, 6, 10]),
 (116, [0, 1, 4, 5, 6, 10, 19]),
 (117, [0, 1, 2, 6]),
 (118, [0, 2, 5]),
 (119, [0, 2, 3, 4, 11, 12, 20, 24, 28, 32, 36, 40, 44, 48, 52]),
 (120, [0, 1, 2]),
 (121, [0, 2, 3, 4, 5, 12]),
 (122, [0, 1, 2, 3, 8]),
 (123, [0, 1, 2, 3, 4, 29]),
 (124, [0, 1, 2, 6, 7, 8, 9, 10, 11, 12, 13, 14, 15, 23, 43]),
 (125, [0, 1, 2, 3]),
 (126, [0, 1, 2, 3]),
 (127, [0, 1, 2, 3, 4, 5, 6, 12, 13, 14, 15, 16, 17, 30, 78]),
 (128, [0, 1, 2, 4, 5, 6, 7, 8, 9, 17, 34, 83]),
 (129, [0, 1, 2, 4, 5, 6, 7, 8, 9, 10, 18, 26]),
 (130, [0, 1, 2, 4, 5, 30, 47, 68]),
 (131, [0, 1, 2, 3, 4, 25, 32, 38, 42, 47, 56, 68, 71]),
 (132, [0, 1, 2, 4]),
 (133, [0, 1, 2, 4, 5, 10, 17, 25]),
 (134, [0, 1, 2, 4]),
 (135, [0, 1, 2, 3, 4, 6]),
 (136, [0, 1, 2, 3, 6, 7, 8, 10, 31, 33, 34, 35, 36, 55]),
 (137, [0, 1, 4]),
 (138, [0, 1, 2, 3, 4]),
 (139, [0, 1, 2, 4]),
 (140, [0, 1, 2, 3, 5, 6]),
 (141, [0, 1, 2, 3, 6, 7, 8, 9, 31, 37, 64]),
 (142, [0, 1, 2, 4, 5, 6, 13]),
 (143, [0, 1, 4, 5, 9, 18]),
 (144, [0, 1, 2, 4, 5, 6, 7, 8, 13]),
 (145, [0, 2, 3, 4, 5, 11, 15]),
 (146, [0, 1, 2, 3, 4, 5, 6, 10, 13, 14, 15, 20]),
 (147, [0, 1, 4, 5, 11]),
 (148, [0, 2]),
 (149, [0, 1, 2, 4, 5, 6, 7, 13, 20, 40]),
 (150, [0, 1, 4, 5, 11]),
 (151, [0, 1, 4, 7]),
 (152, [0, 1, 2, 3, 4, 5, 6, 7, 14, 21, 41]),
 (153, [0, 1, 2, 3, 4, 5]),
 (154, [0, 1, 2, 6]),
 (155, [0, 1, 2, 3, 4, 5, 7, 12, 15, 16, 17, 18, 30]),
 (156, [0, 1, 4, 5, 6, 10, 18]),
 (157, [0, 2, 3, 7, 8, 11, 16, 18]),
 (158, [0, 1, 2, 3, 4]),
 (159, [0, 1, 4, 5, 10, 14, 25]),
 (160, [0, 1, 2, 3, 4]),
 (161, [0, 1, 2, 3, 8, 16]),
 (162, [0, 1, 2, 4, 5, 6, 7, 8, 9, 10, 11, 19, 29]),
 (163, [0, 1, 2, 4, 9, 11, 12, 13, 14, 19]),
 (164, [0, 1, 4]),
 (165, [0, 1, 3, 4]),
 (166, [0, 1, 2, 3, 4, 5]),
 (167, [0, 1, 2, 3, 4, 5, 6, 7, 8, 18, 31]),
 (168, [0, 1, 4, 5, 6, 13]),
 (169, [0, 1, 2, 3, 4, 5]),
 (170, [0, 1, 2, 4, 5, 6, 7, 8, 9, 60, 95]),
 (171, [0, 1, 2, 3, 4, 8, 9, 11, 12, 13, 14, 15, 16, 17, 33]),
 (172, [0, 1, 4, 5, 7, 8, 9, 10, 11, 17]),
 (173, [0, 1, 2, 4]),
 (174, [0, 1, 2, 4, 10, 16]),
 (175, [0, 1, 2, 3, 4, 5, 6, 12, 13, 14, 15, 16, 28, 54]),
 (176, [0, 1, 2, 4, 5, 6, 7, 8, 16, 28]),
 (177, [0, 1, 2, 3, 6, 7, 8, 9, 18]),
 (178, [0, 1, 2, 4, 5, 6, 7, 8, 9, 17, 65]),
 (179, [0, 1, 2, 4, 5, 6, 7, 8, 16]),
 (180, [0, 1, 2, 3, 4, 5, 6, 13, 24, 44]),
 (181, [0, 1, 2, 3, 4, 6, 47, 84]),
 (182, [0, 1, 2, 3, 6]),
 (183, [0, 1, 2, 3]),
 (184, [0, 1, 2, 3]),
 (185, [0, 1, 2, 3, 4, 6, 46, 81]),
 (186, [0, 1, 2, 3, 4, 5, 6, 10]),
 (187, [0, 1, 2]),
 (188, [0, 2]),
 (189, [0, 1, 2]),
 (190, [0, 1, 2, 3, 5, 6, 35, 53, 76]),
 (191, [0, 1, 2, 4]),
 (192, [0, 1, 2, 4]),
 (193, [0, 1, 2, 3, 6, 20]),
 (194, [0, 1, 4, 5, 7, 8, 9, 16]),
 (195, [0, 1, 2, 3, 4, 9, 14, 19, 24, 29, 34, 39, 44, 49, 54]),
 (196, [0, 1, 2, 3, 4, 10, 16, 22]),
 (197, [0, 1, 2, 3, 4]),
 (198, [0, 1, 4, 5, 10, 12, 13, 14, 24]),
 (199, [0, 1, 4, 5, 10, 12, 13, 14, 24]),
 (200, [0, 1, 2, 6, 7, 8, 9, 14, 15, 16, 17, 18, 30]),
 (201, [0, 1, 2, 3, 4]),
 (202, [0, 1, 4, 5, 9]),
 (203, [0, 1, 4, 5, 9]),
 (204, [0, 1, 2, 4, 5, 7, 11, 20, 21, 22, 23]),
 (205, [0, 1, 2, 4, 5, 7, 8, 9, 13, 15, 16, 17, 18, 24, 44]),
 (206, [0, 1, 2, 3, 4, 5]),
 (207, [0, 1, 4, 5, 6, 7, 14]),
 (208, [0, 1, 3, 4, 5, 6, 7, 15, 25]),
 (209, [0, 1, 2, 3, 4, 5, 6, 7, 8, 18, 39, 55]),
 (210, [0, 2, 3, 4, 6, 7, 8, 9, 10, 11, 26, 57, 80, 94, 111, 121, 125]),
 (211, [0, 2, 3, 4, 5, 35]),
 (212, [0, 1, 4]),
 (213, [0, 1, 2, 4, 6, 7, 8, 11, 20, 21, 27, 31, 35, 39, 43, 47, 51, 55, 59]),
 (214, [0, 2, 3, 5, 18]),
 (215, [0, 1, 3, 4, 5, 6, 7, 19, 36, 37, 63, 69, 73, 83, 87, 91]),
 (216, [0, 1, 3, 4, 5, 10, 23, 35]),
 (217, [0, 1, 3, 4, 5, 6, 14, 15, 19, 23, 27, 31, 35]),
 (218, [0, 2, 3, 34]),
 (219, [0, 1, 2]),
 (220, [0, 1, 4, 5, 10, 14, 25]),
 (221, [0, 1, 2, 3, 4, 8, 9, 10, 11, 12, 18, 40]),
 (222, [0, 1, 4, 5, 10, 14, 25]),
 (223, [0, 1, 2, 3, 4, 5, 9, 16]),
 (224, [0, 1, 4, 5, 6, 11, 28]),
 (225, [0, 1, 4, 5, 6, 10, 35]),
 (226, [0, 1, 4, 5, 6, 10, 27]),
 (227, [0, 2, 3, 4, 10]),
 (228, [0, 1, 2, 5]),
 (229, [0, 1, 2]),
 (230, [0, 1, 2, 3, 8, 9, 10, 18, 33]),
 (231, [0, 1, 2, 3, 4, 6, 7, 17]),
 (232, [0, 1, 3, 4, 5, 6, 7, 8, 22, 38]),
 (233, [0, 1, 2, 3, 4, 5]),
 (234, [0, 1, 2, 3, 4, 5]),
 (235, [0, 1, 2, 4, 5, 6, 7, 8, 9, 20]),
 (236, [0, 2]),
 (237, [0, 1, 2, 4]),
 (238, [0, 1, 2, 3, 4, 5, 6, 8, 9, 10]),
 (239, [0, 1, 4, 5, 7, 8, 9, 16]),
 (240, [0, 1, 2, 3, 4, 5, 6, 8, 9, 10]),
 (241, [0, 1, 2, 4, 5, 6, 7, 21]),
 (242, [0, 1, 2, 3, 4, 5, 6, 20]),
 (243, [0, 1, 2, 4, 5, 6, 7, 13, 23, 49]),
 (244, [0, 1, 3, 4, 5, 6, 15, 34]),
 (245, [0, 1, 2, 4, 5]),
 (246, [0, 1, 4, 5, 6, 11]),
 (247, [0, 1, 2, 3, 4, 5, 6, 7, 17, 35]),
 (248, [0, 1, 4, 7]),
 (249, [0, 1, 2, 3, 4]),
 (250, [0, 1, 2, 3, 8, 9, 10, 11, 12, 13, 14, 15, 16, 17, 18, 23, 29, 35, 50, 68, 72, 87, 113]),
 (251, [0, 2]),
 (252, [0, 1, 2, 3, 6, 7, 8, 16, 23]),
 (253, [0, 1]),
 (254, [0, 1, 2, 3, 4]),
 (255, [0, 1, 2, 4, 5, 6, 7, 8, 9, 16, 29]),
 (256, [0, 1, 2, 3]),
 (257, [0, 1]),
 (258, [0, 1, 2, 3, 5, 7, 8, 9, 10]),
 (259, [0, 1, 2, 3, 4, 5, 6, 7, 8, 12, 15, 16, 17, 18, 22, 23, 24, 25, 52]),
 (260, [0, 1, 2]),
 (261, [0, 1, 3, 4, 5, 7, 8, 9, 16]),
 (262, [0, 1, 2, 6, 7, 16]),
 (263, [0, 1, 2, 6, 7, 16]),
 (264, [0, 1]),
 (265, [0, 1, 2, 3, 4, 6, 7, 25]),
 (266, [0, 1]),
 (267, [0, 1, 2, 3, 4, 5, 12]),
 (268, [0, 1, 4, 10]),
 (269, [0, 1, 2, 4, 10]),
 (270, [0, 1, 2, 3, 4, 5]),
 (271, [0, 1, 2, 4, 5]),
 (272, [0, 1, 2, 3, 4, 5]),
 (273, [0, 1, 2, 3, 4, 13]),
 (274, [0, 1, 2, 3, 6]),
 (275, [0, 1, 2, 4, 5]),
 (276, [0, 1, 2, 3, 4, 5, 6, 7, 8, 18, 30, 42]),
 (277, [0, 1, 2, 3]),
 (278, [0, 2, 3, 4, 11]),
 (279, [0, 1, 2, 3]),
 (280, [0, 1, 2]),
 (281, [0, 1, 4, 5, 10, 12, 13, 14, 24]),
 (282, [0, 1, 4, 5, 10, 12, 13, 14, 24]),
 (283, [0, 1, 2, 3, 5, 8, 10, 11, 12, 13]),
 (284, [0, 1, 4, 5, 7, 8, 9, 10, 11, 22]),
 (285, [0, 1, 4, 5, 7, 8, 9, 10, 11, 27]),
 (286, [0, 1, 4, 5, 7, 8, 9, 10, 11, 22]),
 (287, [0, 2]),
 (288, [0, 2]),
 (289, [0, 1, 2, 3, 4, 9, 14, 19, 24, 29]),
 (290, [0, 1, 4, 5, 10, 14, 26]),
 (291, [0, 1, 2, 3, 4, 10]),
 (292, [0, 1, 2, 3, 4]),
 (293, [0, 1, 4, 5, 9]),
 (294, [0, 1, 2, 4, 5, 7, 9, 10, 11, 12, 18]),
 (295, [0, 1, 2, 4, 5, 6]),
 (296, [0, 1]),
 (297, [0, 1, 3, 4]),
 (298, [0, 1, 2, 6, 7, 16]),
 (299, [0, 1, 2, 3]),
 (300, [0, 1, 2, 6, 7, 8, 9, 16, 22, 31, 68]),
 (301, [0, 1, 2, 3, 4, 5, 12]),
 (302, [0, 1, 2, 6, 7, 8, 9, 16, 22, 31, 68]),
 (303, [0, 1, 2, 4, 6, 7, 34, 41, 51, 62]),
 (304, [0, 1, 2, 3, 4, 5, 6, 18, 34]),
 (305, [0, 1, 2, 3, 4, 5, 10, 11, 12, 13, 14, 15, 16, 17, 25]),
 (306, [0, 2, 3, 4, 11, 12, 16, 20, 24, 28]),
 (307, [0, 2, 3, 4, 8, 9, 16, 20]),
 (308, [0, 2, 3, 4, 8, 9, 26, 34]),
 (309, [0, 2]),
 (310, [0, 1, 2]),
 (311, [0, 2, 3, 4, 7, 11, 39, 59]),
 (312, [0, 1, 2, 3, 4, 5, 6, 7, 18, 22, 40, 43, 56, 61, 71, 110]),
 (313, [0, 1, 2, 3, 4, 6, 7, 8, 19]),
 (314, [0, 1, 3, 4, 5, 6, 18]),
 (315, [0, 1, 2, 3, 4, 10]),
 (316, [0, 1, 3, 4, 5, 6, 18]),
 (317, [0, 2]),
 (318, [0, 1, 2, 3, 4, 10]),
 (319, [0, 1, 2, 3, 4]),
 (320, [0, 1, 2, 6, 7, 8, 9, 16, 22, 31, 68]),
 (321, [0, 2, 3, 4, 7, 8, 9, 10, 11, 35, 57]),
 (322, [0, 1]),
 (323, [0, 1]),
 (324, [0, 1, 2, 4, 5, 6, 7, 14, 23]),
 (325, [0, 1, 2, 3, 4, 6, 7, 25]),
 (326, [0, 1, 2, 6, 7, 11, 30]),
 (327, [0, 1, 2, 3, 4, 5, 6, 12, 13, 14, 22, 53]),
 (328, [0, 1, 4, 5, 9, 18]),
 (329, [0, 1, 2, 6, 7, 12, 30]),
 (330, [0, 1, 2, 6, 7, 8, 9, 10, 19, 30]),
 (331, [0, 1, 2, 6, 7, 8, 9, 10, 15, 33, 43]),
 (332, [0, 1, 2, 6, 7, 8, 9, 10, 11, 12, 32, 34, 49, 51, 54]),
 (333, [0, 1, 2, 6, 7, 13]),
 (334, [0, 1, 2, 6, 7, 8, 9, 10, 14, 32, 37, 41, 61, 65, 78, 98, 103, 116]),
 (335, [0, 1, 4]),
 (336, [0, 1, 2, 3, 8, 9, 10, 43, 59, 64]),
 (337, [0, 1, 2, 3, 8, 9, 10, 11, 43, 60, 65, 112, 129, 134]),
 (338, [0, 2, 4, 8]),
 (339, [0, 2, 4, 8, 14]),
 (340, [0, 1, 2, 6, 7, 8, 9, 13, 30, 35, 54]),
 (341, [0, 1, 4, 5, 6, 11, 12, 13, 16, 19]),
 (342, [0, 1, 4, 5, 11, 15, 25]),
 (343, [0, 1, 2, 4, 5]),
 (344, [0, 1, 4, 5, 10]),
 (345, [0, 1, 2, 4, 5]),
 (346, [0, 1, 2, 4, 5]),
 (347, [0, 1, 2, 3]),
 (348, [0, 2, 3, 4, 11]),
 (349, [0, 1, 4]),
 (350, [0, 1]),
 (351, [0, 1, 2, 3, 4, 9, 14, 19, 24]),
 (352, [0, 1, 4, 5, 10, 14, 26]),
 (353, [0, 1, 4, 5, 7, 8, 9, 16]),
 (354, [0, 1, 2, 3, 4]),
 (355, [0, 1, 2, 3]),
 (356, []),
 (357, [0, 1]),
 (358, []),
 (359, [0, 1]),
 (360, [0, 2, 3]),
 (361, [0, 2, 3, 4, 5, 6, 11, 17, 23]),
 (362, [0, 2, 3, 4, 21, 22, 26, 30, 34]),
 (363, [0, 2, 3, 4, 5, 6, 11, 13, 27]),
 (364, [0, 2, 3, 12, 13, 19]),
 (365, [0, 1, 2, 3, 4]),
 (366, [0, 1, 2, 3, 4]),
 (367, []),
 (368, [0, 1]),
 (369, [0, 1, 2, 3, 8, 9, 16, 36, 52]),
 (370, [0, 2]),
 (372, [0, 1, 2, 6]),
 (373, [0, 1, 2, 3, 4, 10]),
 (374, [0, 2]),
 (375, [0, 1, 2, 3, 8, 9, 14, 34]),
 (376, [0, 1, 2, 3, 4, 10, 11, 12, 13, 14, 15, 16, 17, 18, 19, 20, 21, 22, 23, 24, 28, 33, 50, 58, 80, 85, 103, 110, 140, 151, 171, 185, 199, 213]),
 (377, [0, 1, 4, 10]),
 (378, [0, 2, 3, 4, 11]),
 (379, [0, 1, 2, 3, 4, 10, 11, 12, 13, 14, 15, 16, 17, 18, 19, 20, 25, 32, 39, 56, 75, 80, 97, 125]),
 (380, [0, 1, 2, 6, 7, 8, 9, 13, 30, 35, 54]),
 (381, [0, 1, 4, 5, 10, 14, 26]),
 (382, [0, 1]),
 (383, [0, 1]),
 (384, [0, 1, 3, 4, 5, 6, 17]),
 (385, [0, 2, 3, 4, 5, 11]),
 (386, [0, 1]),
 (387, [0, 1, 2, 3, 8, 9, 18]),
 (388, [0, 1, 2, 3, 4, 10, 11, 20, 23]),
 (389, [0, 1, 2, 3]),
 (390, [0, 1, 2, 3, 8, 9, 14, 34]),
 (391, [0, 1, 2, 3, 8, 9, 10, 11, 12, 21, 33]),
 (392, [0, 1, 2, 8, 9, 10, 11, 12, 17, 35, 45]),
 (393, [0, 1, 2, 3, 8, 9, 10, 11, 12, 13, 14, 34, 36, 55, 57, 60]),
 (394, [0, 1, 2, 8, 9, 15]),
 (395, [0, 1, 2, 3, 8, 9, 10, 11, 12, 16, 36, 41, 45, 65, 69, 84, 104, 109, 124]),
 (396, [0, 1, 2, 3, 4, 10, 11, 12, 47, 65, 70]),
 (397, [0, 1, 2, 3, 4, 10, 11, 12, 13, 47, 66, 71, 120, 139, 144]),
 (398, [0, 1, 2, 3, 4, 10, 11, 12, 13, 14, 15, 16, 17, 18, 19, 20, 21, 22, 23, 24, 28, 33, 50, 58, 80, 85, 103, 110, 140, 151, 171, 185, 199, 213]),
 (399, [0, 1, 2, 3, 4, 9, 14]),
 (400, [0, 2, 3, 9]),
 (401, [0, 2, 3, 9]),
 (402, [0, 2, 3, 9]),
 (403, [0, 1, 2, 3, 10, 13]),
 (404, [0, 1, 2, 3, 4, 10, 11, 18, 40, 58]),
 (405, [0, 1, 2, 3, 8]),
 (406, [0, 1, 2, 3, 4, 5, 12]),
 (407, [0, 1, 2, 3, 4, 10, 11, 20, 23]),
 (408, [0, 1, 2, 3, 4, 10, 11, 22]),
 (409, [0, 1, 2, 3, 10, 13])] }⟩
instance : ElT Tryz.prog 3 Int 1 (fun z => [.int .i64 z]) (fun z => ⟨rfl, by simp [isCell]⟩) := ⟨.int .i64 0, 0, 8, fun l => match l with | [.int _ n] => some n | _ => none, by kernel_rfl, rfl, by decide, by decide⟩
instance : ElT Tryz.prog 84 Req 6 reqE reqH := ⟨.agg #[vi 0, vi 0, vi 0, vi 0, vi 0, vi 0], ⟨0, 0, 0, 0, 0, 0⟩, 48, fun l => match l with | [.int _ x0, .int _ x1, .int _ x2, .int _ x3, .int _ x4, .int _ x5] => some ⟨x0, x1, x2, x3, x4, x5⟩ | _ => none, by kernel_rfl, rfl, by decide, by decide⟩
instance : ElT Tryz.prog 89 LookR 5 lookE lookH := ⟨.agg #[vi 0, vi 0, vi 0, vi 0, vi 0], ⟨0, 0, 0, 0, 0⟩, 40, fun l => match l with | [.int _ x0, .int _ x1, .int _ x2, .int _ x3, .int _ x4] => some ⟨x0, x1, x2, x3, x4⟩ | _ => none, by kernel_rfl, rfl, by decide, by decide⟩
instance : ElT Tryz.prog 91 Party 10 partyE partyH := ⟨.agg #[vi 0, vi 0, vi 0, vi 0, vi 0, vi 0, vi 0, vi 0, vi 0, vi 0], ⟨0, 0, 0, 0, 0, 0, 0, 0, 0, 0⟩, 80, fun l => match l with | [.int _ x0, .int _ x1, .int _ x2, .int _ x3, .int _ x4, .int _ x5, .int _ x6, .int _ x7, .int _ x8, .int _ x9] => some ⟨x0, x1, x2, x3, x4, x5, x6, x7, x8, x9⟩ | _ => none, by kernel_rfl, rfl, by decide, by decide⟩
instance : ElT Tryz.prog 117 Req 6 reqE reqH := ⟨.agg #[vi 0, vi 0, vi 0, vi 0, vi 0, vi 0], ⟨0, 0, 0, 0, 0, 0⟩, 48, fun l => match l with | [.int _ x0, .int _ x1, .int _ x2, .int _ x3, .int _ x4, .int _ x5] => some ⟨x0, x1, x2, x3, x4, x5⟩ | _ => none, by kernel_rfl, rfl, by decide, by decide⟩
instance : ElT Tryz.prog 159 Entry 4 entryE entryH := ⟨.agg #[vi 0, vi 0, vi 0, vi 0], ⟨0, 0, 0, 0⟩, 32, fun l => match l with | [.int _ x0, .int _ x1, .int _ x2, .int _ x3] => some ⟨x0, x1, x2, x3⟩ | _ => none, by kernel_rfl, rfl, by decide, by decide⟩
instance : ElT Tryz.prog 166 Pin 2 pinE pinH := ⟨.agg #[vi 0, vi 0], ⟨0, 0⟩, 16, fun l => match l with | [.int _ x0, .int _ x1] => some ⟨x0, x1⟩ | _ => none, by kernel_rfl, rfl, by decide, by decide⟩
instance : ElT Tryz.prog 180 Party 10 partyE partyH := ⟨.agg #[vi 0, vi 0, vi 0, vi 0, vi 0, vi 0, vi 0, vi 0, vi 0, vi 0], ⟨0, 0, 0, 0, 0, 0, 0, 0, 0, 0⟩, 80, fun l => match l with | [.int _ x0, .int _ x1, .int _ x2, .int _ x3, .int _ x4, .int _ x5, .int _ x6, .int _ x7, .int _ x8, .int _ x9] => some ⟨x0, x1, x2, x3, x4, x5, x6, x7, x8, x9⟩ | _ => none, by kernel_rfl, rfl, by decide, by decide⟩
instance : ElT Tryz.prog 271 Entry 4 entryE entryH := ⟨.agg #[vi 0, vi 0, vi 0, vi 0], ⟨0, 0, 0, 0⟩, 32, fun l => match l with | [.int _ x0, .int _ x1, .int _ x2, .int _ x3] => some ⟨x0, x1, x2, x3⟩ | _ => none, by kernel_rfl, rfl, by decide, by decide⟩
instance : ElT Tryz.prog 301 Pin 2 pinE pinH := ⟨.agg #[vi 0, vi 0], ⟨0, 0⟩, 16, fun l => match l with | [.int _ x0, .int _ x1] => some ⟨x0, x1⟩ | _ => none, by kernel_rfl, rfl, by decide, by decide⟩
instance : ElN Tryz.prog 70 (cabinLx 159 199 166) := ⟨.agg #[.int .i64 0, .int .i64 0, .int .i64 0, .int .i64 0, .int .i64 0, .slice none 0 0, .slice none 0 0], 88, by kernel_rfl, by rfl, by decide, by decide⟩
instance : ElN Tryz.prog 80 (replyL 3) := ⟨.agg #[.int .i64 0, .slice none 0 0], 32, by kernel_rfl, by rfl, by decide, by decide⟩
instance : ElN Tryz.prog 176 (cabinLx 271 292 301) := ⟨.agg #[.int .i64 0, .int .i64 0, .int .i64 0, .int .i64 0, .int .i64 0, .slice none 0 0, .slice none 0 0], 88, by kernel_rfl, by rfl, by decide, by decide⟩
instance : ElN Tryz.prog 199 (sl 166 pinL) := ⟨.slice none 0 0, 24, by kernel_rfl, by rfl, by decide, by decide⟩
instance : ElN Tryz.prog 292 (sl 301 pinL) := ⟨.slice none 0 0, 24, by kernel_rfl, by rfl, by decide, by decide⟩
abbrev HC (f : Nat) (S : Prop) : Prop := HasC Tryz.prog f S
abbrev Sp := Spec Tryz.prog
set_option linter.unusedVariables false
set_option linter.unusedSimpArgs false
theorem hasCab_in {h : House} {cabin : Int} (hb : hasCab h cabin = true) : 0 ≤ cabin ∧ cabin < (h.cabins.length : Int) := by
 simp only [hasCab, Bool.and_eq_true, inB, decide_eq_true_eq] at hb
 have hp := houseP_of hb.1
 obtain ⟨h1, _, _, _, h5, _⟩ := hp
 have h9 := h1
 simp [rulesOk, inB] at h9
 have h2 := hb.2
 rw [wr_of (by omega) (by omega)] at h2
 omega
def restingB (p : Party) (now : Int) : Bool := p.state == 1 && decide (p.until' > now)
def freeAt (h : House) (cabin : Int) : Int := match h.cabins[cabin.toNat]? with
 | some c => c.seats.free
 | none => 0
def fitsB (h : House) (cabin : Int) (p : Party) : Bool := p.cabin == cabin && p.state == 1 && !restingB p h.now && decide (p.size ≤ freeAt h cabin)
def beforeB (r : Rules) (a b : Party) (now : Int) : Bool := decide (levelOf r a now ≥ 0) && decide (levelOf r b now ≥ 0) && (decide (levelOf r a now < levelOf r b now) || (levelOf r a now == levelOf r b now && decide (a.turn < b.turn)))
def atId (l : List Party) (id : Int) : Int := idxF (fun e : Party => e.id == id) l 0
theorem atId_lt (l : List Party) (id : Int) : atId l id < (l.length : Int) ∧ -1 ≤ atId l id := by
 have h1 := idxF_lt (q := fun e : Party => e.id == id) l 0
 have h2 := (idxF_none (q := fun e : Party => e.id == id) l 0).2
 unfold atId
 omega
def passGo (h : House) (cabin : Int) (q : Party) : List Party → List Int
 | [] => []
 | p :: ps => if fitsB h cabin p && beforeB h.rules p q h.now then p.id :: passGo h cabin q ps else passGo h cabin q ps
noncomputable def passed (h : House) (cabin id : Int) : List Int :=
 if hasCab h cabin && !decide (atId h.parties id < 0) then match h.parties[(atId h.parties id).toNat]? with
  | some q => if q.cabin == cabin then passGo h cabin q h.parties else []
  | none => []
 else []
def wheelIns (w : Wheel) (p : Pin) : Wheel := ⟨match w.spoke[(Int.tmod p.at' 9).toNat]? with
 | some l => w.spoke.set (Int.tmod p.at' 9).toNat (pIns l p)
 | none => w.spoke⟩
noncomputable def wheelPut (w : Wheel) (p : Pin) : Wheel := if wheelOk w && !decide (p.at' < 1) && wheelOk (wheelIns w p) then wheelIns w p else w
noncomputable def wheelPutB (w : Wheel) (p : Pin) : Bool := wheelOk w && !decide (p.at' < 1) && wheelOk (wheelIns w p)
theorem wheelIns_of {w : Wheel} {p : Pin} {l : List Pin} (h : w.spoke[(Int.tmod p.at' 9).toNat]? = some l) : wheelIns w p = ⟨w.spoke.set (Int.tmod p.at' 9).toNat (pIns l p)⟩ := by simp [wheelIns, h]
theorem flat_set_len {xss : List (List Pin)} {k : Nat} {x : List Pin} (y : List Pin) (h : xss[k]? = some x) : (xss.set k y).flatten.length + x.length = xss.flatten.length + y.length := by
 induction xss generalizing k with
 | nil => simp at h
 | cons z xss ih =>
   cases k with
   | zero => simp at h; subst h; simp; omega
   | succ k =>
     simp only [List.getElem?_cons_succ] at h
     have := ih h
     simp only [List.set_cons_succ, List.flatten_cons, List.length_append]
     omega
theorem flat_set_le : ∀ (xss : List (List Pin)) (k : Nat) (y : List Pin), (xss.set k y).flatten.length ≤ xss.flatten.length + y.length
 | [], k, y => by simp
 | z :: xss, 0, y => by simp only [List.set_cons_zero, List.flatten_cons, List.length_append]; omega
 | z :: xss, k + 1, y => by
   have := flat_set_le xss k y
   simp only [List.set_cons_succ, List.flatten_cons, List.length_append]; omega
theorem wheelIns_len (w : Wheel) (p : Pin) : (wheelIns w p).spoke.length = w.spoke.length ∧ (wheelIns w p).spoke.flatten.length ≤ w.spoke.flatten.length + 1 := by
 unfold wheelIns
 split
 · rename_i l hl
   have := flat_set_len (pIns l p) hl
   rw [pIns_len] at this
   dsimp only
   rw [List.length_set]
   omega
 · simp
theorem wheelPut_t {w : Wheel} {p : Pin} (h1 : wheelOk w = true) (h2 : ¬ p.at' < 1) (h3 : wheelOk (wheelIns w p) = true) : wheelPut w p = wheelIns w p ∧ wheelPutB w p = true := by simp [wheelPut, wheelPutB, h1, h2, h3]
theorem wheelPut_f {w : Wheel} {p : Pin} (h : wheelOk w = false ∨ p.at' < 1 ∨ wheelOk (wheelIns w p) = false) : wheelPut w p = w ∧ wheelPutB w p = false := by
 rcases h with h | h | h <;> simp [wheelPut, wheelPutB, h]
noncomputable def queuePutB (l : List Entry) (e : Entry) : Bool := queueOk l && queueOk (qIns l e)
noncomputable def queuePut (l : List Entry) (e : Entry) : List Entry := if queuePutB l e then qIns l e else l
theorem queuePut_t {l : List Entry} {e : Entry} (h1 : queueOk l = true) (h2 : queueOk (qIns l e) = true) : queuePut l e = qIns l e ∧ queuePutB l e = true := by simp [queuePut, queuePutB, h1, h2]
theorem queuePut_f {l : List Entry} {e : Entry} (h : queueOk l = false ∨ queueOk (qIns l e) = false) : queuePut l e = l ∧ queuePutB l e = false := by
 rcases h with h | h <;> simp [queuePut, queuePutB, h]
def idLess (a b : Party) : Bool := decide (a.id < b.id)
def partyPut (l : List Party) (p : Party) : List Party := if atId l p.id ≥ 0 then l.set (atId l p.id).toNat p else insL idLess l p
theorem partyPut_len (l : List Party) (p : Party) : (partyPut l p).length ≤ l.length + 1 := by
 unfold partyPut
 split
 · simp
 · rw [insL_len]; omega
theorem partyPut_set {l : List Party} {p : Party} (h : atId l p.id ≥ 0) : partyPut l p = l.set (atId l p.id).toNat p := by simp [partyPut, h]
theorem partyPut_ins {l : List Party} {p : Party} (h : ¬ atId l p.id ≥ 0) : partyPut l p = insL idLess l p := by simp only [partyPut, if_neg h]
theorem rulesOk_len {r : Rules} (h : rulesOk r = true) : 1 ≤ r.seats.length ∧ r.seats.length ≤ 4 ∧ r.crew ≤ 3 ∧ 1 ≤ r.crew := by
 simp [rulesOk, inB] at h; omega
theorem mem_set_of {α : Type} {P : α → Prop} {l : List α} {k : Nat} {x : α} (h : ∀ c ∈ l, P c) (hx : P x) : ∀ c ∈ l.set k x, P c :=
 fun c hc => (List.mem_or_eq_of_mem_set hc).elim (h c) (fun e => e ▸ hx)
theorem nodup_le {α : Type} [DecidableEq α] : ∀ {l m : List α}, l.Nodup → (∀ x ∈ l, x ∈ m) → l.length ≤ m.length
 | [], m, _, _ => Nat.zero_le _
 | x :: l, m, hd, hs => by
   have hd' := List.nodup_cons.1 hd
   have h1 := List.perm_cons_erase (hs x (by simp))
   have h2 := nodup_le (l := l) (m := m.erase x) hd'.2 fun y hy => (List.mem_erase_of_ne (by intro he; subst he; exact hd'.1 hy)).2 (hs y (by simp [hy]))
   rw [h1.length_eq, List.length_cons, List.length_cons]; omega
theorem todo_le {h : House} (hh : HouseP h) : h.todo.length ≤ h.cabins.length := by
 obtain ⟨hr, _, _, _, hc, _, hj, _⟩ := hh
 have hrl := rulesOk_len hr
 have h1 := hj.1
 have hw : wr ((h.cabins.length : Int) - 1) = (h.cabins.length : Int) - 1 := wr_of (by omega) (by omega)
 have hnd : (h.todo.map Int.toNat).Nodup := by
  rw [List.Nodup, List.pairwise_map, List.pairwise_iff_getElem]
  intro i j hi hj hij he
  have h2 := h1 j _ (List.getElem?_eq_getElem hj)
  have h3 := h1 i _ (List.getElem?_eq_getElem hi)
  have h4 := h2.2 i _ hij (List.getElem?_eq_getElem hi)
  have h5 := h2.1; have h6 := h3.1
  simp only [inB, Bool.and_eq_true, decide_eq_true_eq] at h5 h6
  omega
 have hsub : h.todo.map Int.toNat ⊆ List.range h.cabins.length := by
  intro x hx
  obtain ⟨y, hy, rfl⟩ := List.mem_map.1 hx
  obtain ⟨i, hi⟩ := List.mem_iff_getElem?.1 hy
  have h5 := (h1 i y hi).1
  rw [hw] at h5
  simp only [inB, Bool.and_eq_true, decide_eq_true_eq] at h5
  rw [List.mem_range]; omega
 have := nodup_le hnd hsub
 simpa using this
def cnt (l : List Party) (k : Int) : Nat := (l.filter fun p => p.cabin == k).length
theorem countGo_cnt (k : Int) : ∀ (l : List Party) (n : Int), 0 ≤ n → n + l.length ≤ 9223372036854775807 → countGo l k n = n + (cnt l k : Nat)
 | [], n, _, _ => by simp [countGo, cnt]
 | p :: ps, n, h0, h1 => by
   simp only [List.length_cons] at h1
   unfold countGo cnt
   rw [List.filter_cons]
   split
   · rw [countGo_cnt k ps _ (by rw [wr_of (by omega) (by omega)]; omega) (by rw [wr_of (by omega) (by omega)]; omega), wr_of (by omega) (by omega)]
     simp only [List.length_cons, cnt]; omega
   · rw [countGo_cnt k ps _ h0 (by omega)]; rfl
theorem cnt_all (m : Nat) : ∀ (s : Nat) (l : List Party), (∀ p ∈ l, 0 ≤ p.cabin ∧ p.cabin < (s : Int)) → (∀ k : Nat, k < s → cnt l k ≤ m) → l.length ≤ m * s
 | 0, l, h, _ => by
   cases l with
   | nil => simp
   | cons p l => have := h p (by simp); omega
 | s + 1, l, h, hk => by
   have h1 := hk s (by omega)
   have h2 := cnt_all m s (l.filter fun p => !(p.cabin == (s : Int))) (fun p hp => by
    have h3 := List.mem_filter.1 hp
    have h4 := h p h3.1
    have h5 := h3.2
    simp at h5
    omega) (fun k hks => by
    refine Nat.le_trans ?_ (hk k (by omega))
    unfold cnt
    exact (List.Sublist.filter _ List.filter_sublist).length_le)
   have h6 : ∀ q : List Party, q.length = (q.filter fun p => p.cabin == (s : Int)).length + (q.filter fun p => !(p.cabin == (s : Int))).length := by
    intro q
    induction q with
    | nil => rfl
    | cons a q ih =>
      rw [List.filter_cons, List.filter_cons]
      cases ha : (a.cabin == (s : Int)) with
      | true => simp only [if_true, Bool.not_true, Bool.false_eq_true, if_false, List.length_cons]; omega
      | false => simp only [Bool.not_false, if_true, Bool.false_eq_true, if_false, List.length_cons]; omega
   have h7 := h6 l
   unfold cnt at h1
   rw [Nat.mul_add, Nat.mul_one]
   omega
theorem insL_memR {α : Type} {lt : α → α → Bool} {e x : α} : ∀ {l : List α}, x = e ∨ x ∈ l → x ∈ insL lt l e
 | [], h => by simpa [insL] using h
 | y :: l, h => by
   unfold insL
   split
   · rcases h with h | h
     · exact List.mem_cons_of_mem _ (insL_memR (.inl h))
     · rcases List.mem_cons.1 h with rfl | h
       · simp
       · exact List.mem_cons_of_mem _ (insL_memR (.inr h))
   · rcases h with rfl | h <;> simp [*]
theorem queueOf_in {r : Rules} {cabin now : Int} {p : Party} : ∀ {list : List Party}, p ∈ list → entryOk r p now = true → p.cabin = cabin → entryOf r p now ∈ queueOf r list cabin now
 | [], h, _, _ => absurd h List.not_mem_nil
 | q :: ps, h, ho, hc => by
   unfold queueOf
   rcases List.mem_cons.1 h with rfl | h
   · simp only [ho, hc, beq_self_eq_true, Bool.and_self, if_true, qIns_eq]
     exact insL_memR (.inl rfl)
   · split
     · rw [qIns_eq]; exact insL_memR (.inr (queueOf_in h ho hc))
     · exact queueOf_in h ho hc
theorem insL_memL {α : Type} {lt : α → α → Bool} {e x : α} : ∀ {l : List α}, x ∈ insL lt l e → x = e ∨ x ∈ l
 | [], h => by simpa [insL] using h
 | y :: l, h => by
   unfold insL at h
   split at h
   · rcases List.mem_cons.1 h with rfl | h
     · simp
     · rcases insL_memL h with h | h <;> simp [h]
   · rcases List.mem_cons.1 h with rfl | h
     · simp
     · exact .inr h
theorem queueOf_out {r : Rules} {cabin now : Int} {e : Entry} : ∀ {list : List Party}, e ∈ queueOf r list cabin now → ∃ p ∈ list, entryOk r p now = true ∧ p.cabin = cabin ∧ e = entryOf r p now
 | [], h => by simp [queueOf] at h
 | p :: ps, h => by
   unfold queueOf at h
   split at h
   · rename_i hc
     simp only [Bool.and_eq_true, beq_iff_eq] at hc
     rw [qIns_eq] at h
     rcases insL_memL h with rfl | h
     · exact ⟨p, by simp, hc.1, hc.2, rfl⟩
     · obtain ⟨q, hq, h2⟩ := queueOf_out h
       exact ⟨q, by simp [hq], h2⟩
   · obtain ⟨q, hq, h2⟩ := queueOf_out h
     exact ⟨q, by simp [hq], h2⟩
theorem idxF_at {α : Type} {q : α → Bool} : ∀ (l : List α) (n : Nat), 0 ≤ idxF q l n → ∃ (i : Nat) (e : α), idxF q l n = ((n + i : Nat) : Int) ∧ l[i]? = some e ∧ q e = true ∧ ∀ (j : Nat) (y : α), j < i → l[j]? = some y → q y = false
 | [], n, h => by simp [idxF] at h
 | e :: es, n, h => by
   unfold idxF at h ⊢
   cases hq : q e with
   | true => exact ⟨0, e, by simp, rfl, hq, fun j y hj => absurd hj (Nat.not_lt_zero _)⟩
   | false =>
     simp only [hq, Bool.false_eq_true, if_false] at h ⊢
     obtain ⟨i, x, h1, h2, h3, h4⟩ := idxF_at es (n + 1) h
     refine ⟨i + 1, x, by rw [h1]; omega, by simpa using h2, h3, fun j y hj hy => ?_⟩
     cases j with
     | zero => simp at hy; subst hy; exact hq
     | succ j => exact h4 j y (by omega) (by simpa using hy)
theorem ids_lt {h : House} (hp : PartiesP h) : ∀ (d i : Nat) (x y : Party), h.parties[i]? = some x → h.parties[i + d + 1]? = some y → x.id < y.id
 | 0, i, x, y, hx, hy => (hp (i + 0 + 1) y hy).2.2.1 (by omega) x (by simpa using hx)
 | d + 1, i, x, y, hx, hy => by
   have hl : i + d + 1 < h.parties.length := by have := (List.getElem?_eq_some_iff.1 hy).1; omega
   have hz : h.parties[i + d + 1]? = some h.parties[i + d + 1] := List.getElem?_eq_getElem hl
   have h1 := ids_lt hp d i x _ hx hz
   have h2 := (hp (i + (d + 1) + 1) y hy).2.2.1 (by omega) h.parties[i + d + 1] (by rw [show i + (d + 1) + 1 - 1 = i + d + 1 by omega]; exact hz)
   omega
def skipGo (now : Int) : List Party → List Int
 | [] => []
 | p :: ps => if restingB p now then p.id :: skipGo now ps else skipGo now ps
def fitE (free : Int) (skip : List Int) (e : Entry) : Bool := decide (e.size ≤ free) && !(skip.any fun y => y == e.id)
def firstFit (row : List Entry) (free : Int) (skip : List Int) : Int := idxF (fitE free skip) row 0
theorem firstFit_lt (row : List Entry) (free : Int) (skip : List Int) : firstFit row free skip < (row.length : Int) ∧ -1 ≤ firstFit row free skip := by
 have h1 := idxF_lt (q := fitE free skip) row 0
 have h2 := (idxF_none (q := fitE free skip) row 0).2
 unfold firstFit
 omega
noncomputable def nextOffer (h : House) (cabin : Int) : Int :=
 if hasCab h cabin then match h.cabins[cabin.toNat]? with
  | some c => if firstFit c.row c.seats.free (skipGo h.now h.parties) < 0 then 0 else match c.row[(firstFit c.row c.seats.free (skipGo h.now h.parties)).toNat]? with
    | some e => e.id
    | none => 0
  | none => 0
 else 0
theorem nextOffer_no {h : House} {cabin : Int} (hb : hasCab h cabin = false) : nextOffer h cabin = 0 := by simp [nextOffer, hb]
theorem nextOffer_neg {h : House} {cabin : Int} {c : Cabin} (hb : hasCab h cabin = true) (hc : h.cabins[cabin.toNat]? = some c) (hk : firstFit c.row c.seats.free (skipGo h.now h.parties) < 0) : nextOffer h cabin = 0 := by
 simp [nextOffer, hb, hc, hk]
theorem nextOffer_at {h : House} {cabin : Int} {c : Cabin} {e : Entry} (hb : hasCab h cabin = true) (hc : h.cabins[cabin.toNat]? = some c) (hk : ¬ firstFit c.row c.seats.free (skipGo h.now h.parties) < 0)
 (he : c.row[(firstFit c.row c.seats.free (skipGo h.now h.parties)).toNat]? = some e) : nextOffer h cabin = e.id := by
 simp [nextOffer, hb, hc, hk, he]
theorem atId_at {l : List Party} {id : Int} (h : ¬ atId l id < 0) : ∃ p, l[(atId l id).toNat]? = some p ∧ p.id = id := by
 obtain ⟨i, e, h1, h2, h3, _⟩ := idxF_at (q := fun e : Party => e.id == id) l 0 (by unfold atId at h; omega)
 refine ⟨e, ?_, by simpa using h3⟩
 unfold atId
 rw [h1]; simpa using h2
theorem agrees_row {h : House} {k : Nat} {c : Cabin} (hh : HouseP h) (hc : h.cabins[k]? = some c) : QueueP c.row ∧ c.row = queueOf h.rules h.parties k h.now := by
 obtain ⟨_, _, _, _, _, _, _, h8⟩ := hh
 have ha := (h8 k c hc).2.1
 simp only [agrees, Bool.and_eq_true, cabinOk] at ha
 obtain ⟨⟨⟨⟨⟨⟨_, hq⟩, _⟩, hr⟩, _⟩, _⟩, _⟩ := ha
 exact ⟨queueP_of hq, (sameRow_iff _ _).1 hr⟩
theorem hasCab_P {h : House} {cabin : Int} (hb : hasCab h cabin = true) : HouseP h := by
 simp only [hasCab, Bool.and_eq_true] at hb; exact houseP_of hb.1
section
variable {α : Type} {lt : α → α → Bool}
abbrev SS (lt : α → α → Bool) (l : List α) : Prop := l.Pairwise fun a b => lt a b = true
theorem Ord.ir (h : Ord lt) (z : α) : lt z z = false := by
 cases hz : lt z z with
 | false => rfl
 | true => have := h.as z z hz; rw [hz] at this; cases this
theorem ss_eq (h : Ord lt) : ∀ {a b : List α}, SS lt a → SS lt b → (∀ x, x ∈ a ↔ x ∈ b) → a = b
 | [], [], _, _, _ => rfl
 | [], y :: b, _, _, hm => absurd ((hm y).2 (by simp)) List.not_mem_nil
 | x :: a, [], _, _, hm => absurd ((hm x).1 (by simp)) List.not_mem_nil
 | x :: a, y :: b, ha, hb, hm => by
   have ha' := List.pairwise_cons.1 ha
   have hb' := List.pairwise_cons.1 hb
   have hxy : x = y := by
    rcases List.mem_cons.1 ((hm x).1 (by simp)) with h1 | h1
    · exact h1
    · rcases List.mem_cons.1 ((hm y).2 (by simp)) with h2 | h2
      · exact h2.symm
      · have h3 := hb'.1 x h1
        have h4 := ha'.1 y h2
        rw [h.as _ _ h3] at h4; cases h4
   subst hxy
   congr 1
   refine ss_eq h ha'.2 hb'.2 fun z => ⟨fun hz => ?_, fun hz => ?_⟩
   · rcases List.mem_cons.1 ((hm z).1 (by simp [hz])) with h1 | h1
     · subst h1; have := ha'.1 z hz; rw [h.ir] at this; cases this
     · exact h1
   · rcases List.mem_cons.1 ((hm z).2 (by simp [hz])) with h1 | h1
     · subst h1; have := hb'.1 z hz; rw [h.ir] at this; cases this
     · exact h1
theorem ss_ins (h : Ord lt) : ∀ {l : List α} {e : α}, SS lt l → (∀ y ∈ l, lt y e = true ∨ lt e y = true) → SS lt (insL lt l e)
 | [], e, _, _ => by simp [insL]
 | y :: ys, e, hs, hc => by
   have hs' := List.pairwise_cons.1 hs
   unfold insL
   split
   · rename_i h1
     refine List.pairwise_cons.2 ⟨fun z hz => ?_, ss_ins h hs'.2 fun z hz => hc z (by simp [hz])⟩
     rcases insL_memL hz with rfl | hz
     · exact h1
     · exact hs'.1 z hz
   · rename_i h1
     have h2 : lt e y = true := (hc y (by simp)).resolve_left h1
     refine List.pairwise_cons.2 ⟨fun z hz => ?_, hs⟩
     rcases List.mem_cons.1 hz with rfl | hz
     · exact h2
     · exact h.tr h2 (hs'.1 z hz)
theorem insL_iff {l : List α} {e x : α} : x ∈ insL lt l e ↔ x = e ∨ x ∈ l := ⟨insL_memL, insL_memR⟩
theorem insL_perm (e : α) : ∀ l : List α, (insL lt l e).Perm (e :: l)
 | [] => List.Perm.refl _
 | y :: ys => by
   unfold insL
   split
   · exact ((insL_perm e ys).cons y).trans (List.Perm.swap e y ys)
   · exact List.Perm.refl _
theorem foldr_iff {x : α} : ∀ {l : List α}, x ∈ l.foldr (fun e l => insL lt l e) [] ↔ x ∈ l
 | [] => by simp
 | y :: l => by rw [List.foldr_cons, insL_iff, foldr_iff, List.mem_cons]
theorem foldr_ss (h : Ord lt) : ∀ {l : List α}, l.Pairwise (fun a b => lt a b = true ∨ lt b a = true) → SS lt (l.foldr (fun e l => insL lt l e) [])
 | [], _ => by simp
 | y :: l, hp => by
   have hp' := List.pairwise_cons.1 hp
   refine ss_ins h (foldr_ss h hp'.2) fun z hz => ?_
   exact (hp'.1 z (foldr_iff.1 hz)).symm
theorem foldr_perm : ∀ l : List α, (l.foldr (fun e l => insL lt l e) []).Perm l
 | [] => List.Perm.refl _
 | y :: l => (insL_perm y _).trans ((foldr_perm l).cons y)
end
def rowM (r : Rules) (now : Int) (l : List Party) (k : Int) (e : Entry) : Prop := ∃ p ∈ l, entryOk r p now = true ∧ p.cabin = k ∧ e = entryOf r p now
theorem queueOf_iff {r : Rules} {now k : Int} {l : List Party} {e : Entry} : e ∈ queueOf r l k now ↔ rowM r now l k e := by
 constructor
 · intro h; exact queueOf_out h
 · rintro ⟨p, hp, h1, h2, rfl⟩; exact queueOf_in hp h1 h2
theorem entryOf_ok {r : Rules} {p : Party} {now : Int} (h : entryOk r p now = true) : entryOf r p now = ⟨levelOf r p now, p.turn, p.id, p.size⟩ := by simp [entryOf, h]
theorem entry_cmp {r : Rules} {p q : Party} {now : Int} (hp : entryOk r p now = true) (hq : entryOk r q now = true) (h : p.turn ≠ q.turn) : entryLess (entryOf r p now) (entryOf r q now) = true ∨ entryLess (entryOf r q now) (entryOf r p now) = true := by
 rw [entryOf_ok hp, entryOf_ok hq]
 simp only [entryLess, Bool.or_eq_true, Bool.and_eq_true, decide_eq_true_eq, beq_iff_eq]
 omega
theorem queueOf_ss {r : Rules} {now k : Int} : ∀ {l : List Party}, (l.map (·.turn)).Nodup → SS entryLess (queueOf r l k now)
 | [], _ => by simp [queueOf]
 | p :: l, hd => by
   rw [List.map_cons, List.nodup_cons] at hd
   unfold queueOf
   split
   · rename_i hc
     simp only [Bool.and_eq_true] at hc
     rw [qIns_eq]
     refine ss_ins entryOrd (queueOf_ss hd.2) fun y hy => ?_
     obtain ⟨q, hq, h1, h2, rfl⟩ := queueOf_out hy
     refine entry_cmp h1 hc.1 fun he => hd.1 ?_
     rw [← he]; exact List.mem_map.2 ⟨q, hq, rfl⟩
   · exact queueOf_ss hd.2
def pinM (l : List Party) (k : Int) (x : Pin) : Prop := ∃ p ∈ l, p.state = 2 ∧ p.cabin = k ∧ x = ⟨p.until', p.id⟩
theorem pinsRaw_iff {k : Int} {x : Pin} : ∀ {l : List Party}, x ∈ pinsRaw l k ↔ pinM l k x
 | [] => by simp [pinsRaw, pinM]
 | p :: l => by
   unfold pinsRaw
   split
   · rename_i hc
     simp only [Bool.and_eq_true, beq_iff_eq] at hc
     rw [List.mem_cons, pinsRaw_iff]
     constructor
     · rintro (rfl | ⟨q, hq, h⟩)
       · exact ⟨p, by simp, hc.1, hc.2, rfl⟩
       · exact ⟨q, by simp [hq], h⟩
     · rintro ⟨q, hq, h1, h2, h3⟩
       rcases List.mem_cons.1 hq with rfl | hq
       · exact .inl h3
       · exact .inr ⟨q, hq, h1, h2, h3⟩
   · rename_i hc
     simp only [Bool.and_eq_true, beq_iff_eq] at hc
     rw [pinsRaw_iff]
     constructor
     · rintro ⟨q, hq, h⟩; exact ⟨q, by simp [hq], h⟩
     · rintro ⟨q, hq, h1, h2, h3⟩
       rcases List.mem_cons.1 hq with rfl | hq
       · exact absurd ⟨h1, h2⟩ hc
       · exact ⟨q, hq, h1, h2, h3⟩
theorem pinsGo_foldr (l : List Party) (k : Int) : pinsGo l k [] = (pinsRaw l k).foldr (fun e l => insL pinLess l e) [] := by
 rw [pinsGo_raw, foldl_insL pinOrd pinTot]
theorem pinsGo_iff {l : List Party} {k : Int} {x : Pin} : x ∈ pinsGo l k [] ↔ pinM l k x := by
 rw [pinsGo_foldr, foldr_iff, pinsRaw_iff]
theorem pin_cmp {a b : Pin} (h : a ≠ b) : pinLess a b = true ∨ pinLess b a = true := by
 cases h1 : pinLess a b with
 | true => exact .inl rfl
 | false => cases h2 : pinLess b a with
   | true => exact .inr rfl
   | false => exact absurd (pinTot a b h1 h2) h
theorem pinsRaw_pw {k : Int} : ∀ {l : List Party}, (l.map (·.id)).Nodup → (pinsRaw l k).Pairwise fun a b => a ≠ b
 | [], _ => by simp [pinsRaw]
 | p :: l, hd => by
   rw [List.map_cons, List.nodup_cons] at hd
   unfold pinsRaw
   split
   · refine List.pairwise_cons.2 ⟨fun x hx => ?_, pinsRaw_pw hd.2⟩
     obtain ⟨q, hq, _, _, rfl⟩ := pinsRaw_iff.1 hx
     intro he
     injection he with h1 h2
     exact hd.1 (by rw [h2]; exact List.mem_map.2 ⟨q, hq, rfl⟩)
   · exact pinsRaw_pw hd.2
theorem pinsGo_ss {l : List Party} {k : Int} (hd : (l.map (·.id)).Nodup) : SS pinLess (pinsGo l k []) := by
 rw [pinsGo_foldr]
 exact foldr_ss pinOrd ((pinsRaw_pw hd).imp pin_cmp)
theorem pinsSort_foldr (l : List Pin) : pinsSort l = l.foldr (fun e l => insL pinLess l e) [] := by
 rw [pinsSort, pIns_eq', foldl_insL pinOrd pinTot]
theorem pinsSort_iff {l : List Pin} {x : Pin} : x ∈ pinsSort l ↔ x ∈ l := by rw [pinsSort_foldr, foldr_iff]
theorem pinsSort_ss {l : List Pin} (hd : (l.map (·.id)).Nodup) : SS pinLess (pinsSort l) := by
 rw [pinsSort_foldr]
 refine foldr_ss pinOrd ?_
 have h1 : l.Pairwise fun a b => a.id ≠ b.id := by
  have := hd
  rw [List.Nodup, List.pairwise_map] at this; exact this
 exact h1.imp fun hne => pin_cmp fun he => hne (by rw [he])
theorem pinsOf_of {wh : Wheel} (h : WheelP wh) : pinsOf wh = pinsSort wh.spoke.flatten := by simp [pinsOf, wheelOk_t h]
theorem pins_agree {wh : Wheel} {l : List Party} {k : Int} (hw : WheelP wh) (hd : (l.map (·.id)).Nodup) : samePins (pinsOf wh) (pinsGo l k []) = true ↔ ∀ x, x ∈ wh.spoke.flatten ↔ pinM l k x := by
 rw [samePins_iff, pinsOf_of hw]
 constructor
 · intro he x
   rw [← pinsSort_iff, he, pinsGo_iff]
 · intro hm
   refine ss_eq pinOrd (pinsSort_ss hw.2.2.2.1) (pinsGo_ss hd) fun x => ?_
   rw [pinsSort_iff, pinsGo_iff]; exact hm x
def heldW (k : Int) (p : Party) : Int := if p.state = 2 ∧ p.cabin = k then p.size else 0
def tiedW (k : Int) (p : Party) : Int := if p.from' = k then p.size else 0
theorem isum_perm {a b : List Int} (h : a.Perm b) : a.sum = b.sum := by
 induction h with
 | nil => rfl
 | cons x _ ih => simp [ih]
 | swap x y l => simp only [List.sum_cons]; omega
 | trans _ _ h1 h2 => exact h1.trans h2
theorem sum_perm {f : Party → Int} {a b : List Party} (h : a.Perm b) : (a.map f).sum = (b.map f).sum := isum_perm (h.map f)
theorem heldGo_sum (k : Int) : ∀ (l : List Party) (n : Int), (∀ p ∈ l, 1 ≤ p.size ∧ p.size ≤ 6) → 0 ≤ n → n + 6 * l.length ≤ 9223372036854775807 → heldGo l k n = n + (l.map (heldW k)).sum
 | [], n, _, _, _ => by simp [heldGo]
 | p :: l, n, hs, h0, hn => by
   have hp := hs p (by simp)
   have hs' : ∀ q ∈ l, 1 ≤ q.size ∧ q.size ≤ 6 := fun q hq => hs q (by simp [hq])
   simp only [List.length_cons] at hn
   unfold heldGo
   have hin : inB p.size 1 6 = true := by simp only [inB, Bool.and_eq_true, decide_eq_true_eq]; exact hp
   rw [List.map_cons, List.sum_cons]
   by_cases hc : p.state = 2 ∧ p.cabin = k
   · rw [if_pos (by simp [hc.1, hc.2, hin]), wr_of (by omega) (by omega), heldGo_sum k l _ hs' (by omega) (by omega), heldW, if_pos hc]; omega
   · rw [if_neg (by simp only [Bool.and_eq_true, beq_iff_eq]; exact fun h => hc h.1), heldGo_sum k l _ hs' h0 (by omega), heldW, if_neg hc]; omega
theorem tiedGo_sum (k : Int) : ∀ (l : List Party) (n : Int), (∀ p ∈ l, 1 ≤ p.size ∧ p.size ≤ 6) → 0 ≤ n → n + 6 * l.length ≤ 9223372036854775807 → tiedGo l k n = n + (l.map (tiedW k)).sum
 | [], n, _, _, _ => by simp [tiedGo]
 | p :: l, n, hs, h0, hn => by
   have hp := hs p (by simp)
   have hs' : ∀ q ∈ l, 1 ≤ q.size ∧ q.size ≤ 6 := fun q hq => hs q (by simp [hq])
   simp only [List.length_cons] at hn
   unfold tiedGo
   have hin : inB p.size 1 6 = true := by simp only [inB, Bool.and_eq_true, decide_eq_true_eq]; exact hp
   rw [List.map_cons, List.sum_cons]
   by_cases hc : p.from' = k
   · rw [if_pos (by simp [hc, hin]), wr_of (by omega) (by omega), tiedGo_sum k l _ hs' (by omega) (by omega), tiedW, if_pos hc]; omega
   · rw [if_neg (by simp only [Bool.and_eq_true, beq_iff_eq]; exact fun h => hc h.1), tiedGo_sum k l _ hs' h0 (by omega), tiedW, if_neg hc]; omega
theorem sum_nn {f : Party → Int} : ∀ {l : List Party}, (∀ p ∈ l, 0 ≤ f p) → 0 ≤ (l.map f).sum
 | [], _ => by simp
 | p :: l, h => by
   have h1 := h p (by simp)
   have h2 := sum_nn (f := f) (l := l) fun q hq => h q (by simp [hq])
   rw [List.map_cons, List.sum_cons]; omega
theorem cnt_perm {a b : List Party} (h : a.Perm b) (k : Int) : cnt a k = cnt b k := (h.filter _).length_eq
theorem cnt_cons (p : Party) (l : List Party) (k : Int) : cnt (p :: l) k = (if p.cabin = k then 1 else 0) + cnt l k := by
 unfold cnt
 rw [List.filter_cons]
 by_cases h : p.cabin = k
 · rw [if_pos (by simpa using h), if_pos h, List.length_cons]; omega
 · rw [if_neg (by simpa using h), if_neg h]; omega
structure PR (r : Rules) (now : Int) (p : Party) : Prop where
 id0 : 1 ≤ p.id
 id1 : p.id ≤ 999
 cab : 0 ≤ p.cabin ∧ p.cabin < (r.seats.length : Int)
 frm : -1 ≤ p.from' ∧ p.from' < (r.seats.length : Int)
 ne : p.from' ≠ p.cabin
 size : 1 ≤ p.size ∧ p.size ≤ r.size ∧ p.size ≤ 6
 tier : 0 ≤ p.tier ∧ p.tier < r.tiers
 since : 0 ≤ p.since ∧ p.since ≤ now
 turn : 1 ≤ p.turn ∧ p.turn ≤ 1000000
 asked : 0 ≤ p.asked ∧ p.asked < r.tries
 st : (p.state = 1 ∧ 0 ≤ p.until' ∧ p.until' ≤ now + r.rest) ∨ (p.state = 2 ∧ 1 ≤ p.until' ∧ p.until' ≤ now + r.window)
structure RR (r : Rules) : Prop where
 seats : 1 ≤ r.seats.length ∧ r.seats.length ≤ 4
 tiers : 1 ≤ r.tiers ∧ r.tiers ≤ 5
 room : 1 ≤ r.room ∧ r.room ≤ 10
 size : 1 ≤ r.size ∧ r.size ≤ 6
 period : 1 ≤ r.period ∧ r.period ≤ 12
 window : 1 ≤ r.window ∧ r.window ≤ 8
 rest : 0 ≤ r.rest ∧ r.rest ≤ 8
 tries : 1 ≤ r.tries ∧ r.tries ≤ 4
 crew : 1 ≤ r.crew ∧ r.crew ≤ 3
theorem rr_of {r : Rules} (h : rulesOk r = true) : RR r := by
 simp only [rulesOk, inB, Bool.and_eq_true, decide_eq_true_eq] at h
 obtain ⟨⟨⟨⟨⟨⟨⟨⟨⟨q1, q2⟩, q3⟩, q4⟩, q5⟩, q6⟩, q7⟩, q8⟩, q9⟩, _⟩ := h
 exact ⟨by omega, q2, q3, q4, q5, q6, q7, q8, q9⟩
theorem partyOk_iff {r : Rules} {p : Party} {now : Int} : partyOk r p now = true ↔ rulesOk r = true ∧ (0 ≤ now ∧ now ≤ 1000000) ∧ PR r now p := by
 unfold partyOk
 cases hr : rulesOk r with
 | false => simp
 | true =>
   have rr := rr_of hr
   have h1 := rr.seats; have h2 := rr.tiers; have h3 := rr.tries; have h4 := rr.rest; have h5 := rr.window; have h6 := rr.size
   rw [wr_of (x := (r.seats.length : Int) - 1) (by omega) (by omega), wr_of (x := r.tiers - 1) (by omega) (by omega), wr_of (x := r.tries - 1) (by omega) (by omega)]
   by_cases hn : 0 ≤ now ∧ now ≤ 1000000
   · rw [wr_of (x := now + r.rest) (by omega) (by omega), wr_of (x := now + r.window) (by omega) (by omega)]
     simp only [Bool.true_and, inB, Bool.and_eq_true, Bool.or_eq_true, decide_eq_true_eq, beq_iff_eq, Bool.not_eq_true', beq_eq_false_iff_ne, ne_eq, true_and]
     constructor
     · rintro ⟨⟨⟨⟨⟨⟨⟨⟨⟨⟨_, a1⟩, a2⟩, a3⟩, a4⟩, a5⟩, a6⟩, a7⟩, a8⟩, a9⟩, a10⟩
       exact ⟨hn, ⟨a1.1, a1.2, ⟨a2.1, by omega⟩, ⟨a3.1, by omega⟩, a4, ⟨a5.1, a5.2, by omega⟩, ⟨a6.1, by omega⟩, a7, a8, ⟨a9.1, by omega⟩, a10⟩⟩
     · rintro ⟨_, g⟩
       have b2 := g.cab; have b3 := g.frm; have b5 := g.size; have b6 := g.tier; have b9 := g.asked
       exact ⟨⟨⟨⟨⟨⟨⟨⟨⟨⟨hn, g.id0, g.id1⟩, b2.1, by omega⟩, b3.1, by omega⟩, g.ne⟩, b5.1, b5.2.1⟩, b6.1, by omega⟩, g.since⟩, g.turn⟩, b9.1, by omega⟩, g.st⟩
   · constructor
     · intro h
       simp only [Bool.and_eq_true, inB, decide_eq_true_eq] at h
       exact absurd h.1.1.1.1.1.1.1.1.1.1.2 hn
     · rintro ⟨_, h, _⟩; exact absurd h hn
structure Good (r : Rules) (now : Int) (l : List Party) : Prop where
 rules : rulesOk r = true
 nw : 0 ≤ now ∧ now ≤ 1000000
 ok : ∀ p ∈ l, PR r now p
 ids : (l.map (·.id)).Nodup
 turns : (l.map (·.turn)).Nodup
 len : l.length ≤ 40
theorem Good.pok {r : Rules} {now : Int} {l : List Party} (g : Good r now l) {p : Party} (hp : p ∈ l) : partyOk r p now = true := partyOk_iff.2 ⟨g.rules, g.nw, g.ok p hp⟩
theorem nodup_one {β : Type} {f : Party → β} : ∀ {l : List Party}, (l.map f).Nodup → ∀ {x y : Party}, x ∈ l → y ∈ l → f x = f y → x = y
 | [], _, x, y, hx, _, _ => absurd hx List.not_mem_nil
 | p :: l, hd, x, y, hx, hy, he => by
   rw [List.map_cons, List.nodup_cons] at hd
   rcases List.mem_cons.1 hx with h1 | h1 <;> rcases List.mem_cons.1 hy with h2 | h2
   · rw [h1, h2]
   · exact absurd (List.mem_map.2 ⟨y, h2, by rw [← he, h1]⟩) hd.1
   · exact absurd (List.mem_map.2 ⟨x, h1, by rw [he, h2]⟩) hd.1
   · exact nodup_one hd.2 h1 h2 he
theorem Good.one {r : Rules} {now : Int} {l : List Party} (g : Good r now l) {x y : Party} (hx : x ∈ l) (hy : y ∈ l) (h : x.id = y.id) : x = y := nodup_one g.ids hx hy h
theorem Good.perm {r : Rules} {now : Int} {l m : List Party} (g : Good r now l) (h : l.Perm m) : Good r now m :=
 ⟨g.rules, g.nw, fun p hp => g.ok p (h.mem_iff.2 hp), (h.map _).nodup_iff.1 g.ids, (h.map _).nodup_iff.1 g.turns, by rw [← h.length_eq]; exact g.len⟩
theorem Good.tail {r : Rules} {now : Int} {p : Party} {l : List Party} (g : Good r now (p :: l)) : Good r now l :=
 ⟨g.rules, g.nw, fun q hq => g.ok q (by simp [hq]), (List.nodup_cons.1 (by simpa using g.ids)).2, (List.nodup_cons.1 (by simpa using g.turns)).2, by have := g.len; simp only [List.length_cons] at this; omega⟩
theorem level_rng {r : Rules} {p : Party} {now : Int} (h : partyOk r p now = true) : 0 ≤ levelOf r p now ∧ levelOf r p now ≤ 4 := by
 obtain ⟨hr, hn, g⟩ := partyOk_iff.1 h
 have rr := rr_of hr
 have h1 := rr.tiers; have h2 := rr.period; have h3 := g.tier; have h4 := g.since
 simp only [levelOf, h, if_true]
 rw [wr_of (x := now - p.since) (by omega) (by omega)]
 refine ⟨levelAt_nn _ _ _, ?_⟩
 unfold levelAt
 have h5 : 0 ≤ Int.tdiv (now - p.since) r.period := Int.tdiv_nonneg (by omega) (by omega)
 have h6 : Int.tdiv (now - p.since) r.period ≤ now - p.since := by
  rw [Int.tdiv_eq_ediv_of_nonneg (by omega)]
  exact Int.ediv_le_self _ (by omega)
 rw [wr_of (x := Int.tdiv (now - p.since) r.period) (by omega) (by omega), wr_of (x := p.tier - _) (by omega) (by omega)]
 split <;> omega
structure Rep (r : Rules) (now : Int) (l : List Party) (k : Int) (c : Cabin) : Prop where
 led : ledgerOk c.seats = true
 ss : SS entryLess c.row
 row : ∀ e, e ∈ c.row ↔ rowM r now l k e
 wh : WheelP c.wheel
 pin : ∀ x, x ∈ c.wheel.spoke.flatten ↔ pinM l k x
 held : c.seats.held = (l.map (heldW k)).sum
 tied : c.seats.tied = (l.map (tiedW k)).sum
theorem ss_ids {r : Rules} {now k : Int} {l : List Party} {row : List Entry} (g : Good r now l) (hs : SS entryLess row) (hm : ∀ e ∈ row, rowM r now l k e) : (row.map (·.id)).Nodup := by
 rw [List.Nodup, List.pairwise_map]
 refine List.Pairwise.imp_of_mem (fun {a b} ha hb hl he => ?_) hs
 obtain ⟨p, hp, h1, h2, rfl⟩ := hm a ha
 obtain ⟨q, hq, h3, h4, rfl⟩ := hm b hb
 rw [entryOf_ok h1, entryOf_ok h3] at he
 have := g.one hp hq he
 subst this
 rw [entryOrd.ir] at hl; cases hl
theorem queueP_row {r : Rules} {now k : Int} {l : List Party} {row : List Entry} (g : Good r now l) (hc : row.length ≤ 10) (hs : SS entryLess row) (hm : ∀ e ∈ row, rowM r now l k e) : QueueP row := by
 refine ⟨hc, fun i e he => ⟨?_, fun h0 y hy => ?_, fun j y hj hy => ?_⟩⟩
 · obtain ⟨p, hp, h1, h2, rfl⟩ := hm e (List.mem_of_getElem? he)
   have hl := level_rng (g.pok hp)
   have gp := g.ok p hp
   have a1 := gp.turn; have a2 := gp.id0; have a3 := gp.id1; have a4 := gp.size
   rw [entryOf_ok h1]
   unfold EntryR
   simp only [inB, Bool.and_eq_true, decide_eq_true_eq]
   omega
 · obtain ⟨g1, e1⟩ := List.getElem?_eq_some_iff.1 hy
   obtain ⟨g2, e2⟩ := List.getElem?_eq_some_iff.1 he
   have := (List.pairwise_iff_getElem.1 hs) (i - 1) i g1 g2 (by omega)
   rw [e1, e2] at this; exact this
 · obtain ⟨g1, e1⟩ := List.getElem?_eq_some_iff.1 hy
   obtain ⟨g2, e2⟩ := List.getElem?_eq_some_iff.1 he
   have h9 := ss_ids g hs hm
   rw [List.Nodup, List.pairwise_map, List.pairwise_iff_getElem] at h9
   have := h9 j i g1 g2 hj
   rw [e1, e2] at this; exact this
theorem agrees_iff {r : Rules} {now k : Int} {l : List Party} {c : Cabin} (g : Good r now l) (hc : cnt l k ≤ 10) : agrees r c l k now = true ↔ Rep r now l k c := by
 have hsz : ∀ p ∈ l, 1 ≤ p.size ∧ p.size ≤ 6 := fun p hp => ⟨(g.ok p hp).size.1, (g.ok p hp).size.2.2⟩
 have hlen := g.len
 have hh := heldGo_sum k l 0 hsz (by omega) (by omega)
 have ht := tiedGo_sum k l 0 hsz (by omega) (by omega)
 rw [Int.zero_add] at hh ht
 unfold agrees
 simp only [Bool.and_eq_true, beq_iff_eq, cabinOk, sameRow_iff, hh, ht]
 constructor
 · rintro ⟨⟨⟨⟨⟨⟨h1, h2⟩, h3⟩, h4⟩, h5⟩, h6⟩, h7⟩
   have hw := wheelP_of h3
   exact ⟨h1, h4 ▸ queueOf_ss g.turns, fun e => by rw [h4]; exact queueOf_iff, hw, (pins_agree hw g.ids).1 h5, h6, h7⟩
 · rintro ⟨h1, h2, h3, h4, h5, h6, h7⟩
   have hq : c.row = queueOf r l k now := ss_eq entryOrd h2 (queueOf_ss g.turns) fun e => by rw [queueOf_iff]; exact h3 e
   refine ⟨⟨⟨⟨⟨⟨h1, queueOk_t (queueP_row g ?_ h2 fun e he => (h3 e).1 he)⟩, wheelOk_t h4⟩, hq⟩, (pins_agree h4 g.ids).2 h5⟩, h6⟩, h7⟩
   rw [hq, queueOf_raw, (foldr_perm _).length_eq]
   have h8 := queueRaw_len r k now l 0 (by omega) (by omega)
   rw [countGo_cnt k l 0 (by omega) (by omega)] at h8
   omega
def KK (q p : Party) : Prop := q.turn ≠ p.turn ∧ ¬ (q.turn < p.turn ∧ p.since < q.since) ∧ ¬ (p.turn < q.turn ∧ q.since < p.since)
theorem KK.symm {q p : Party} (h : KK q p) : KK p q := ⟨h.1.symm, h.2.2, h.2.1⟩
structure PPs (h : House) : Prop where
 ok : ∀ p ∈ h.parties, partyOk h.rules p h.now = true ∧ p.turn < h.turn
 ids : h.parties.Pairwise fun a b => a.id < b.id
 kk : h.parties.Pairwise KK
theorem partiesP_pw {h : House} : PartiesP h ↔ PPs h := by
 constructor
 · intro hp
   refine ⟨fun p hm => ?_, ?_, ?_⟩
   · obtain ⟨i, hi⟩ := List.mem_iff_getElem?.1 hm
     exact ⟨(hp i p hi).1, (hp i p hi).2.1⟩
   · rw [List.pairwise_iff_getElem]
     intro i j hi hj hij
     exact ids_lt hp (j - i - 1) i _ _ (List.getElem?_eq_getElem hi) (by rw [show i + (j - i - 1) + 1 = j by omega]; exact List.getElem?_eq_getElem hj)
   · rw [List.pairwise_iff_getElem]
     intro i j hi hj hij
     exact (hp j _ (List.getElem?_eq_getElem hj)).2.2.2 i _ hij (List.getElem?_eq_getElem hi)
 · intro hp i p hi
   have hm := hp.ok p (List.mem_of_getElem? hi)
   obtain ⟨g2, e2⟩ := List.getElem?_eq_some_iff.1 hi
   refine ⟨hm.1, hm.2, fun h0 q hq => ?_, fun j q hj hq => ?_⟩
   · obtain ⟨g1, e1⟩ := List.getElem?_eq_some_iff.1 hq
     have := (List.pairwise_iff_getElem.1 hp.ids) (i - 1) i g1 g2 (by omega)
     rw [e1, e2] at this; exact this
   · obtain ⟨g1, e1⟩ := List.getElem?_eq_some_iff.1 hq
     have := (List.pairwise_iff_getElem.1 hp.kk) j i g1 g2 hj
     rw [e1, e2] at this; exact this
structure HRep (h : House) : Prop where
 rules : rulesOk h.rules = true
 now : 0 ≤ h.now ∧ h.now ≤ 1000000
 turn : 1 ≤ h.turn ∧ h.turn ≤ 1000001
 len : h.parties.length ≤ 40
 cabs : h.cabins.length = h.rules.seats.length
 pps : PPs h
 jobs : JobsP h
 cab : ∀ (k : Nat) (c : Cabin), h.cabins[k]? = some c → h.rules.seats[k]? = some c.seats.total ∧ Rep h.rules h.now h.parties k c ∧ (cnt h.parties k : Int) ≤ h.rules.room
theorem PPs.good {h : House} (hp : PPs h) (hr : rulesOk h.rules = true) (hn : 0 ≤ h.now ∧ h.now ≤ 1000000) (hl : h.parties.length ≤ 40) : Good h.rules h.now h.parties := by
 refine ⟨hr, hn, fun p hm => (partyOk_iff.1 (hp.ok p hm).1).2.2, ?_, ?_, hl⟩
 · rw [List.Nodup, List.pairwise_map]
   exact hp.ids.imp fun h => by omega
 · rw [List.Nodup, List.pairwise_map]
   exact hp.kk.imp fun h => h.1
theorem HRep.good {h : House} (hp : HRep h) : Good h.rules h.now h.parties := hp.pps.good hp.rules hp.now hp.len
theorem houseP_iff {h : House} : HouseP h ↔ HRep h := by
 constructor
 · rintro ⟨h1, h2, h3, h4, h5, h6, h7, h8⟩
   simp only [inB, Bool.and_eq_true, decide_eq_true_eq] at h2 h3
   have hpp := partiesP_pw.1 h6
   refine ⟨h1, h2, h3, h4, h5, hpp, h7, fun k c hk => ?_⟩
   obtain ⟨g1, g2, g3⟩ := h8 k c hk
   have hroom := (rr_of h1).room
   rw [countGo_cnt k _ 0 (by omega) (by omega)] at g3
   exact ⟨g1, (agrees_iff (hpp.good h1 h2 h4) (by omega)).1 g2, by omega⟩
 · intro hp
   have hroom := (rr_of hp.rules).room
   have hlen := hp.len
   refine ⟨hp.rules, by simp only [inB, Bool.and_eq_true, decide_eq_true_eq]; exact hp.now, by simp only [inB, Bool.and_eq_true, decide_eq_true_eq]; exact hp.turn, hp.len, hp.cabs, partiesP_pw.2 hp.pps, hp.jobs, fun k c hk => ?_⟩
   obtain ⟨g1, g2, g3⟩ := hp.cab k c hk
   refine ⟨g1, (agrees_iff hp.good (by omega)).2 g2, ?_⟩
   rw [countGo_cnt k _ 0 (by omega) (by omega)]; omega
end SX
end Go.Proofs.YtejojcoaohlfbaaGreat
