/- Texts of this claim, put together by program. -/
import Derived.Test.YtejojcoaohlfbaaGreatSu8
import Derived.Test.YtejojcoaohlfbaaGreatSu1
/- The engine: one step, found by trying. It imports no program. -/
namespace Go.Proofs.YtejojcoaohlfbaaGreat
namespace SX
set_option linter.unusedVariables false
set_option linter.unusedSimpArgs false
open Go Go.RowKit
section step
variable {X : List Nat} {P : Program} {N : Nat} {W : World} {S0 : List Nat} {Q : Exit → Go.Act → World → Prop} {T : Tm} {L : Bx} {C : List Ass} {ops : Array Oper} {Kn : List (Nat × Nat)} {i : Nat}
theorem idAT {x : Nx} (k : AT x X P N W S0 ops Q Kn i T L C) : AT x X P N W S0 ops Q Kn i T L C := k
theorem aWr {n : Nat} {T' : Tm} {d : Nat} {e : Int} {L' : Bx} (k : AT (.wrp n T' d e L') X P N W S0 ops Q Kn i T L C) : AT (.wrp n T' d e L') X P N W S0 ops Q Kn i T L C := k
theorem aCa {f : FuncId} {vs : Array Value} {d : Option Nat} (k : AT (.call f vs d) X P N W S0 ops Q Kn i T L C) : AT (.call f vs d) X P N W S0 ops Q Kn i T L C := k
theorem aAs {d : Nat} (k : AT (.ask d) X P N W S0 ops Q Kn i T L C) : AT (.ask d) X P N W S0 ops Q Kn i T L C := k
theorem aIx {t : TypeId} {x ix : Operand} {d : Option Nat} {ty : TypeId} (k : AT (.op (.indexAddr t x ix) d ty) X P N W S0 ops Q Kn i T L C) : AT (.op (.indexAddr t x ix) d ty) X P N W S0 ops Q Kn i T L C := k
theorem aLd {t : TypeId} {x : Operand} {d : Option Nat} {ty : TypeId} (k : AT (.op (.load t x) d ty) X P N W S0 ops Q Kn i T L C) : AT (.op (.load t x) d ty) X P N W S0 ops Q Kn i T L C := k
theorem aBi {b : BinOp} {t z : TypeId} {x y : Operand} {d : Option Nat} {ty : TypeId} (k : AT (.op (.binOp b t x y z) d ty) X P N W S0 ops Q Kn i T L C) : AT (.op (.binOp b t x y z) d ty) X P N W S0 ops Q Kn i T L C := k
theorem qWr {n : Nat} {T' : Tm} {d : Nat} {e : Int} {L' : Bx} (k : QT (.wrp n T' d e L') X P N W S0 ops Q Kn i T L C) : QT (.wrp n T' d e L') X P N W S0 ops Q Kn i T L C := k
theorem qCa {f : FuncId} {vs : Array Value} {d : Option Nat} (k : QT (.call f vs d) X P N W S0 ops Q Kn i T L C) : QT (.call f vs d) X P N W S0 ops Q Kn i T L C := k
theorem qAs {d : Nat} (k : QT (.ask d) X P N W S0 ops Q Kn i T L C) : QT (.ask d) X P N W S0 ops Q Kn i T L C := k
theorem qIx {t : TypeId} {x ix : Operand} {d : Option Nat} {ty : TypeId} (k : QT (.op (.indexAddr t x ix) d ty) X P N W S0 ops Q Kn i T L C) : QT (.op (.indexAddr t x ix) d ty) X P N W S0 ops Q Kn i T L C := k
theorem qLd {t : TypeId} {x : Operand} {d : Option Nat} {ty : TypeId} (k : QT (.op (.load t x) d ty) X P N W S0 ops Q Kn i T L C) : QT (.op (.load t x) d ty) X P N W S0 ops Q Kn i T L C := k
theorem qBi {b : BinOp} {t z : TypeId} {x y : Operand} {d : Option Nat} {ty : TypeId} (k : QT (.op (.binOp b t x y z) d ty) X P N W S0 ops Q Kn i T L C) : QT (.op (.binOp b t x y z) d ty) X P N W S0 ops Q Kn i T L C := k
theorem idOPL (k : OPL X P N W S0 ops Q Kn i T L C) : OPL X P N W S0 ops Q Kn i T L C := k
theorem idQT {x : Nx} (k : QT x X P N W S0 ops Q Kn i T L C) : QT x X P N W S0 ops Q Kn i T L C := k
theorem idCD {c : Code} (k : CD X P N W S0 c Q T L C) : CD X P N W S0 c Q T L C := k
theorem idBK {ι : Type} {Tf : ι → Tm} {Lf : ι → Bx} {Cf : ι → List Ass} {Inv : ι → Prop} {m : ι → Nat} {j : ι} {Q : Exit → Go.Act → World → Prop} (k : DN X N W S0 (Exit.then (BKP N W S0 Tf Lf Cf Inv m j) Q) .normal T L C) : DN X N W S0 (Exit.then (BKP N W S0 Tf Lf Cf Inv m j) Q) .normal T L C := k
theorem idDN {e : Exit} (k : DN X N W S0 Q e T L C) : DN X N W S0 Q e T L C := k
theorem idCND {b : Bool} {A B : Prop} (k : CND b A B) : CND b A B := k
theorem idHT {x : Hx} {bs : List Nat} {L0 : Bx} {Ks : Keys} {T0 : Tm} {f : Nat} {Ls : List Nat} {la : Array Bool} (k : HT x X P N W S0 ops Q bs L0 Ks T0 f Ls la Kn T L C) : HT x X P N W S0 ops Q bs L0 Ks T0 f Ls la Kn T L C := k
theorem idHO {x : Nx} {bs : List Nat} {L0 : Bx} {Ks : Keys} {T0 : Tm} {f : Nat} {Ls : List Nat} {la : Array Bool} (k : HO x i X P N W S0 ops Q bs L0 Ks T0 f Ls la Kn T L C) : HO x i X P N W S0 ops Q bs L0 Ks T0 f Ls la Kn T L C := k
theorem idRN {A : Ass} (k : CD X P N W S0 .ret Q T L (A :: C)) : CD X P N W S0 .ret Q T L (A :: C) := k
theorem idRS {a : Option Addr} {n c : Nat} {r : Res} (k : RETG (.slice a n c) r C) : RETG (.slice a n c) r C := k
theorem idRA {l : Array Value} {r : Res} (k : RETG (.agg l) r C) : RETG (.agg l) r C := k
theorem idRU {l : Array Value} {r : Res} (k : RETG (.tuple l) r C) : RETG (.tuple l) r C := k
theorem idRET {v : Value} {r : Res} (k : RETG v r C) : RETG v r C := k
theorem aRUN' [TB P] {n : Nat} {T' : Tm} {L' : Bx} {x : Nx} (k : AT x X P N W S0 ops Q Kn (i + n) T' L' C) (h : runP P N ops n ((List.range ops.size).drop i) T L = some (T', L') := by kernel_rfl) (h2 : nxt (TB.D P) ops Kn (i + n) T' L' = some x := by conv => lhs; whnf) : AT (.run n T' L') X P N W S0 ops Q Kn i T L C := aRUN k h
theorem qRUN' [TB P] {n : Nat} {T' : Tm} {x : Nx} (k : QT x X P N W S0 ops Q Kn (i + n) T' L C) (h : runQ P N ops L n i T = some T' := by kernel_rfl) (h2 : nxt (TB.D P) ops Kn (i + n) T' L = some x := by conv => lhs; whnf) : QT (.run n T' L) X P N W S0 ops Q Kn i T L C := qRUN k h
/-! ### Gates: what stands next, told at once -/
section gates
variable {d : Option Nat} {ty : TypeId} {bs : List Nat} {L0 : Bx} {Ks : Keys} {T0 : Tm} {f : Nat} {Ls : List Nat} {la : Array Bool}
theorem gtB {t : TypeId} {n : Nat} {ps : Array (Nat × Operand)} (k : AT (.op (.buildSlice t n ps) d ty) X P N W S0 ops Q Kn i T L C) : AT (.op (.buildSlice t n ps) d ty) X P N W S0 ops Q Kn i T L C := k
theorem gtC {t : TypeId} {x : Operand} {a b c : Option Operand} (k : AT (.op (.slice t x a b c) d ty) X P N W S0 ops Q Kn i T L C) : AT (.op (.slice t x a b c) d ty) X P N W S0 ops Q Kn i T L C := k
theorem gtP {c : Call} (k : AT (.op (.call c) d ty) X P N W S0 ops Q Kn i T L C) : AT (.op (.call c) d ty) X P N W S0 ops Q Kn i T L C := k
theorem gtS {t : TypeId} {x y : Operand} (k : AT (.op (.store t x y) d ty) X P N W S0 ops Q Kn i T L C) : AT (.op (.store t x y) d ty) X P N W S0 ops Q Kn i T L C := k
theorem gtR {n : Nat} {T' : Tm} {L' : Bx} (k : AT (.run n T' L') X P N W S0 ops Q Kn i T L C) : AT (.run n T' L') X P N W S0 ops Q Kn i T L C := k
theorem gtF (k : AT .fin X P N W S0 ops Q Kn i T L C) : AT .fin X P N W S0 ops Q Kn i T L C := k
theorem ghR {is l : List Nat} {T' : Tm} (k : HT (.run is l T') X P N W S0 ops Q bs L0 Ks T0 f Ls la Kn T L C) : HT (.run is l T') X P N W S0 ops Q bs L0 Ks T0 f Ls la Kn T L C := k
theorem ghA {e : Nat} (k : HT (.ask e) X P N W S0 ops Q bs L0 Ks T0 f Ls la Kn T L C) : HT (.ask e) X P N W S0 ops Q bs L0 Ks T0 f Ls la Kn T L C := k
theorem ghX {j : Nat} {t : TypeId} {x y : Operand} (k : HT (.op j (.indexAddr t x y) d ty) X P N W S0 ops Q bs L0 Ks T0 f Ls la Kn T L C) : HT (.op j (.indexAddr t x y) d ty) X P N W S0 ops Q bs L0 Ks T0 f Ls la Kn T L C := k
theorem ghL {j : Nat} {t : TypeId} {x : Operand} (k : HT (.op j (.load t x) d ty) X P N W S0 ops Q bs L0 Ks T0 f Ls la Kn T L C) : HT (.op j (.load t x) d ty) X P N W S0 ops Q bs L0 Ks T0 f Ls la Kn T L C := k
theorem ghC {j : Nat} {t : TypeId} {x : Operand} {a b c : Option Operand} (k : HT (.op j (.slice t x a b c) d ty) X P N W S0 ops Q bs L0 Ks T0 f Ls la Kn T L C) : HT (.op j (.slice t x a b c) d ty) X P N W S0 ops Q bs L0 Ks T0 f Ls la Kn T L C := k
theorem ghB {j : Nat} {b : BinOp} {t z : TypeId} {x y : Operand} (k : HT (.op j (.binOp b t x y z) d ty) X P N W S0 ops Q bs L0 Ks T0 f Ls la Kn T L C) : HT (.op j (.binOp b t x y z) d ty) X P N W S0 ops Q bs L0 Ks T0 f Ls la Kn T L C := k
theorem ghE (k : HT (.loud []) X P N W S0 ops Q bs L0 Ks T0 f Ls la Kn T L C) : HT (.loud []) X P N W S0 ops Q bs L0 Ks T0 f Ls la Kn T L C := k
theorem ghD {j : Nat} {l : List Nat} (k : HT (.loud (j :: l)) X P N W S0 ops Q bs L0 Ks T0 f Ls la Kn T L C) : HT (.loud (j :: l)) X P N W S0 ops Q bs L0 Ks T0 f Ls la Kn T L C := k
theorem goC {fn : FuncId} {vs : Array Value} (k : HO (.call fn vs d) i X P N W S0 ops Q bs L0 Ks T0 f Ls la Kn T L C) : HO (.call fn vs d) i X P N W S0 ops Q bs L0 Ks T0 f Ls la Kn T L C := k
theorem goB {t : TypeId} {n : Nat} {ps : Array (Nat × Operand)} (k : HO (.op (.buildSlice t n ps) d ty) i X P N W S0 ops Q bs L0 Ks T0 f Ls la Kn T L C) : HO (.op (.buildSlice t n ps) d ty) i X P N W S0 ops Q bs L0 Ks T0 f Ls la Kn T L C := k
theorem goP {c : Call} (k : HO (.op (.call c) d ty) i X P N W S0 ops Q bs L0 Ks T0 f Ls la Kn T L C) : HO (.op (.call c) d ty) i X P N W S0 ops Q bs L0 Ks T0 f Ls la Kn T L C := k
theorem goL {t : TypeId} {x : Operand} (k : HO (.op (.load t x) d ty) i X P N W S0 ops Q bs L0 Ks T0 f Ls la Kn T L C) : HO (.op (.load t x) d ty) i X P N W S0 ops Q bs L0 Ks T0 f Ls la Kn T L C := k
theorem goS {t : TypeId} {x y : Operand} (k : HO (.op (.store t x y) d ty) i X P N W S0 ops Q bs L0 Ks T0 f Ls la Kn T L C) : HO (.op (.store t x y) d ty) i X P N W S0 ops Q bs L0 Ks T0 f Ls la Kn T L C := k
end gates
/-- a premise of a contract -/
theorem SIDE {A : Prop} (h : A := by first | assumption | omega | exact Rd.fr (by assumption) (At.fr (by assumption)) | exact Rs.mk (by assumption) (by assumption) (At.fr (by assumption)) | exact Rs.own (by assumption) NT | exact RulesR.fr (by assumption) (At.fr (by assumption)) | exact RulesR.mk (by assumption) (by assumption) (At.fr (by assumption)) | exact CabinR.mk (by assumption) (by assumption) (by assumption) (by assumption) (At.fr (by assumption)) | exact HouseR.fr (by assumption) (At.fr (by assumption)) | exact HouseR.ownE (by assumption) NT NT NT NT NT | exact HouseR.own (by assumption) NT NT NT NT NT | exact RulesR.own (by assumption) NT | exact CabinR.own (by assumption) NT NT | exact Rs.ownN (by assumption) NT | exact HO9.ownE (by assumption) NT NT NT NT NT | exact HO9.own (by assumption) NT NT NT NT NT | exact SO9.own (by assumption) NT | exact HO9q.ownE (by assumption) NT NT NT NT NT | exact HO9q.own (by assumption) NT NT NT NT NT | (simp only [List.length_append, List.length_cons, List.length_nil, List.length_take, List.length_drop, List.length_set, List.length_replicate]; omega) | (solve_by_elim; done)) : A := h
/-- a step -/
theorem ST {A B : Prop} (k : B) (h : B → A := by
    intro k
    first
    | (refine idAT ?_
       first
       | (refine gtR ?_; exact aRUN' k)
       | (refine gtF ?_; exact aFIN k)
       | (refine aCa ?_
          first
          | exact aCV k (hcon := by intro c w hw; first | (apply c <;> exact SIDE) | fail)
          | exact aCX (hcon := by intro c w hw; first | (apply c <;> exact SIDE) | fail) (hp := by first | exact pl0 | exact plS PU pl0 | exact plS PU (plS PU pl0) | exact plS PU (plS PU (plS PU pl0)) | exact plS PU (plS PU (plS PU (plS PU (plS PU pl0))))) (k := k))
       | (refine aAs ?_
          first
          | exact aASK k
          | exact aASKU k)
       | (refine aIx ?_
          first
          | exact aIN k (ha := by intro w hw; exact Rd.some (by assumption) (by omega)) (hn := by omega)
          | exact aIX k (ha := by intro w hw; exact Rd.some (by assumption) (by omega)) (h0 := by omega) (hn := by omega)
          | exact aIO (k := k)
          | exact aIOz (k := k)
          | exact aIH (k := k)
          | exact aIHz (k := k))
       | (refine aLd ?_
          first
          | exact aLF (hr := by assumption) (hj := by omega) (k := k)
          | exact aLG (hr := by assumption) (hj := by omega) (k := k)
          | exact aLO (k := k)
          | exact aLH (k := k)
          | exact aHL (k := k))
       | (refine aWr ?_
          first
          | exact aWRN k (by omega)
          | exact aWRM k (by omega) (by omega)
          | exact aWRX k)
       | (refine aBi ?_
          first
          | exact aRV rQUO k
          | exact aRV rREM k
          | exact aRV rEQL k
          | exact aRV rNEQ k)
       | (refine gtB ?_
          first
          | exact aBUILD (k := k)
          | exact aBUS (k := k)
          | exact aBUC (k := k))
       | (refine gtC ?_
          first
          | exact aCH (hr := by assumption) (hc := by omega) (hz := by omega) (k := k)
          | exact aCL (hr := by assumption) (hc := by omega) (hz := by omega) (k := k)
          | exact aCHz (hr := by assumption) (hc := by omega) (h0 := INT) (hz := INT) (k := k)
          | exact aCLz (hr := by assumption) (hc := by omega) (h0 := INT) (hz := INT) (k := k))
       | (refine gtP ?_
          first
          | exact aAPR (hr := by assumption) (k := k)
          | exact aAPP (k := k)
          | exact aAPN (k := k)
          | exact aNIL (aAPP (k := k))
          | exact aNIL (aAPN (k := k))
          | exact aNIL (aAPR (hr := by assumption) (k := k)))
       | (refine gtS ?_
          first
          | exact aSO (k := k)
          | exact aSH (k := k)
          | exact aHS (k := k)))
    | (refine idOPL ?_; exact gNXT k)
    | (refine idCD ?_
       first
       | exact gSEQ (gRG (gNXT k))
       | exact gRG (gNXT k)
       | exact gSEQ k
       | exact gCD k
       | (refine idRN ?_
          first
          | exact gUNC (c := .ret) (k := k)
          | exact gUNS (c := .ret) (k := k))
       | exact gRET k
       | exact gSKIP (gNEXT k)
       | exact gSKIP k
       | exact gRQ (qNXT k)
       | exact gRH0 k
       | exact gRH1 (k := k)
       | exact gRH2 (k := k)
       | exact gRH3 (k := k)
       | exact gRH4 (k := k)
       | exact gRH5 (k := k)
       | exact gRH6 (k := k)
       | exact gBLOCK k
       | exact gEXIT k)
    | (refine idDN ?_
       first
       | exact gNEXT (gSEQ (gRG (gNXT k)))
       | exact gNEXT (gCD k)
       | exact gNEXT (gRG (gNXT k))
       | exact gNEXT k
       | exact gOUT k
       | exact gOUTN k
       | exact gOUTR k
       | exact gPASS k
       | exact gPASR k
       | (refine idBK ?_
          first
          | exact gFBACK k (by omega) (R := [])
          | exact gFABACK k (by omega) (R := [])
          | exact gFOBACK (α := Unit) (x' := ()) (hlt := by omega) (h := k)
          | exact gFOBACK (hlt := by omega) (h := k)
          | exact gFDBACK (hlt := by omega) (hk9 := by omega) (h := k)
          | exact gFBACK k (by omega))
       | exact gOUTX k (by decide))
    | (refine idCND ?_
       first
       | with_reducible exact cdT k
       | with_reducible exact cF k
       | with_reducible exact cNT k
       | with_reducible exact cNF k
       | exact cFK k)
    | (refine idQT ?_
       first
       | exact qRUN' k
       | exact qFIN k
       | (refine qCa ?_; exact qCV k (hcon := by intro c w hw; first | (apply c <;> exact SIDE) | fail))
       | (refine qAs ?_
          first
          | exact qASK k
          | exact qASKU k)
       | (refine qIx ?_
          first
          | exact qIN k (ha := Rd.some (by assumption) (by omega)) (hn := by omega)
          | exact qIX k (ha := Rd.some (by assumption) (by omega)) (h0 := by omega) (hn := by omega)
          | exact qIN k (ha := Iss.get (by assumption) (by omega)) (hn := by omega))
       | (refine qLd ?_
          first
          | exact qLF (hr := by assumption) (hj := by omega) (k := k)
          | exact qLG (hr := by assumption) (hj := by omega) (k := k)
          | exact qLO (k := k))
       | (refine qWr ?_
          first
          | exact qWRN k (by omega)
          | exact qWRM k (by omega) (by omega)
          | exact qWRX k)
       | (refine qBi ?_
          first
          | exact qRV rQUO k
          | exact qRV rREM k
          | exact qRV rEQL k
          | exact qRV rNEQ k))
    | exact qNXT k
    | exact hNXT (k := k)
    | (refine idHT ?_
       first
       | (refine ghR ?_; exact hRUN k)
       | (refine ghA ?_
          first
          | exact hASK k
          | exact hASKU k)
       | (refine ghX ?_
          first
          | exact hIX (ha := Rd.some (by assumption) (by omega)) (hn := by omega) (k := k)
          | exact hIXz (ha := Rd.some (by assumption) (by omega)) (h0 := by omega) (hn := by omega) (k := k)
          | exact hION (k := k)
          | exact hIO (k := k)
          | exact hIO (h0 := INTD) (hn := INTD) (k := k)
          | exact hIH (k := k))
       | (refine ghL ?_
          first
          | exact hLF (hr := by assumption) (hj := by omega) (k := k)
          | exact hLF2 (hr := by assumption) (hj := by omega) (k := k)
          | exact hLB (k := k)
          | exact hLK (k := k)
          | exact hLD (k := k))
       | (refine ghC ?_
          first
          | exact hCH (hr := by assumption) (hc := by omega) (hz := by omega) (k := k)
          | exact hCL (hr := by assumption) (hc := by omega) (hz := by omega) (k := k)
          | exact hCHz (hr := by assumption) (hc := by omega) (h0 := INT) (hz := INT) (k := k)
          | exact hCLz (hr := by assumption) (hc := by omega) (h0 := INT) (hz := INT) (k := k))
       | (refine ghB ?_
          first
          | exact hRV rQUO k
          | exact hRV rREM k
          | exact hRV rEQL k
          | exact hRV rNEQ k)
       | (refine ghE ?_; exact hEND (k := k))
       | (refine ghD ?_
          first
          | exact hALL1 (k := k)
          | exact hALL2 (k := k)
          | exact hALL3 (k := k)
          | exact hALL4 (k := k))
       | exact hLD (k := k))
    | (refine idHO ?_
       first
       | (refine goC ?_
          first
          | exact hCV (hcon := by intro c w hw; first | (apply c <;> exact SIDE) | fail) (k := k)
          | exact hCX (hcon := by intro c w hw; first | (apply c <;> exact SIDE) | fail) (hp := by first | exact pl0 | exact plS PU pl0 | exact plS PU (plS PU pl0) | exact plS PU (plS PU (plS PU (plS PU (plS PU pl0))))) (k := k))
       | (refine goB ?_
          first
          | exact hBUILD (k := k)
          | exact hBUS (k := k)
          | exact hBUC (k := k))
       | (refine goP ?_
          first
          | exact hAPR (hr := by assumption) (k := k)
          | exact hAPP (k := k)
          | exact hAPN (k := k)
          | exact hNIL (hAPP (k := k))
          | exact hNIL (hAPN (k := k))
          | exact hNIL (hAPR (hr := by assumption) (k := k)))
       | (refine goL ?_
          first
          | exact hLW (k := k)
          | exact hLH (k := k)
          | exact hLO (k := k)
          | exact hHL (k := k)
          | exact hONE (k := k))
       | (refine goS ?_
          first
          | exact hSW (k := k)
          | exact hSH (k := k)
          | exact hHS (k := k)
          | exact hONE (k := k))
       | exact hONE (k := k))
    | (refine idRET ?_
       first
       | exact rRVi k
       | exact rRVb k
       | (refine idRS ?_
          first
          | exact rOWN (h := k)
          | exact r1 (pOWN (h := k)))
       | (refine idRA ?_
          first
          | exact r1 (pHO (h := k))
          | exact r1 (pWh (h := k))
          | exact r1 (pRu (h := k))
          | exact r1 (pCa (h := k)))
       | (refine idRU ?_
          first
          | exact rT2 k
          | exact rT3 k)
       | exact rRV k)) : A := h k
end step
end SX
end Go.Proofs.YtejojcoaohlfbaaGreat
/- Rules for owned rows that are cut from the top. -/
namespace Go.Proofs.YtejojcoaohlfbaaGreat
namespace SX
set_option linter.unusedVariables false
set_option linter.unusedSimpArgs false
open Go Go.RowKit
theorem cellsRep.takeF {α : Type} {L : Lay α} {m : Bool} {w : World} : ∀ {xs : List α} {cells f} (k : Nat), cellsRep L m w cells xs f → ∃ f1 f2, f = f1 ++ f2 ∧ cellsRep L m w (cells.take (k * L.sz)) (xs.take k) f1
  | [], cells, f, k, h => by simp [cellsRep] at h; exact ⟨[], f, rfl, by simp [h.1, cellsRep]⟩
  | x :: xs, cells, f, 0, h => ⟨[], f, rfl, by simp [cellsRep]⟩
  | x :: xs, cells, f, k + 1, ⟨cs, rest, f1, f2, h1, h2, h3, h4⟩ => by
    subst h1; subst h2
    obtain ⟨g1, g2, e, h5⟩ := h4.takeF k
    refine ⟨f1 ++ g1, g2, by rw [e, List.append_assoc], cs, rest.take (k * L.sz), f1, g1, ?_, rfl, h3, h5⟩
    have hl := L.len h3
    rw [List.take_append, hl, List.take_of_length_le (by rw [hl, Nat.add_mul]; omega)]
    congr 2
    rw [Nat.add_mul]; omega
section
variable {P : Program} {N : Nat} {W : World} {S0 : List Nat} {ops : Array Oper} {Q : Exit → Go.Act → World → Prop} {T : Tm} {L : Bx} {C : List Ass} {α : Type}
theorem SHRINK {K : Go.Act → World → Prop} {e : TypeId} {La : Lay α} {a : Option Addr} {n c : Nat} {xs : List α} (k j : Nat) (R : List Ass) (hp : pulls [j] C = some ([slA e La (.slice a n c) xs], R)) (hk : k ≤ xs.length) (kk : G N W S0 K T L (R ++ [slA e La (.slice a k c) (xs.take k)])) : G N W S0 K T L C := by
  rintro ac w ⟨bs, fps, ht, hb, hm⟩
  obtain ⟨xps, hx, hnx, hex⟩ := hm.exch hp
  match xps, hx with
  | [fp], ⟨⟨cells, g, h1, h2, h3, h4⟩, _⟩ =>
    obtain ⟨f1, f2, rfl, h5⟩ := h3.takeF k
    have hl : (xs.take k).length = k := by rw [List.length_take]; omega
    have ho : ownsR w e La.sz (.slice a k c) (xs.take k).length (cells.take (k * La.sz)) := by
      rw [hl]
      rcases h1.2 with ⟨hv, h0⟩ | ⟨b, ob, cap, cur, fz, hv, hg, hfz, hnc, hcm, hcs, htake⟩
      · simp only [Value.slice.injEq] at hv
        obtain ⟨rfl, rfl, rfl⟩ := hv
        have hk0 : k = 0 := by omega
        subst hk0
        simpa using ownsR_nil w e La.sz
      · simp only [Value.slice.injEq] at hv
        obtain ⟨rfl, rfl, rfl⟩ := hv
        refine ⟨?_, .inr ⟨b, ob, c, cur, fz, rfl, hg, hfz, by omega, hcm, hcs, ?_⟩⟩
        · rw [List.length_take, h1.1]
          have := Nat.mul_le_mul_right La.sz hk
          omega
        · rw [← htake, List.take_take]
          congr 1
          have := Nat.mul_le_mul_right La.sz hk
          omega
    have hob : (Value.slice a k c).ownBlock = (Value.slice a n c).ownBlock := by cases a <;> rfl
    obtain ⟨fps', hmem⟩ := hex w [slA e La (.slice a k c) (xs.take k)] [(Value.slice a n c).ownBlock.toList ++ f1] ⟨⟨_, f1, ho, by rw [hob], h5, by rw [hl]; omega⟩, trivial⟩
      (by
        simp only [List.flatten_cons, List.flatten_nil, List.append_nil]
        have h9 : ((Value.slice a n c).ownBlock.toList ++ (f1 ++ f2)).Nodup := by rw [← h2]; simpa using hnx
        rw [← List.append_assoc] at h9
        exact (List.nodup_append.1 h9).1)
      (fun b hb _ => by
        simp only [List.flatten_cons, List.flatten_nil, List.append_nil] at hb ⊢
        rw [h2]
        rcases List.mem_append.1 hb with h | h
        · exact List.mem_append.2 (.inl h)
        · exact List.mem_append.2 (.inr (List.mem_append.2 (.inl h)))) (Fr.refl _ _)
    exact kk ac w ⟨bs, fps', ht, hb, hmem⟩
theorem cellsRep.dropF {α : Type} {L : Lay α} {m : Bool} {w : World} : ∀ {xs : List α} {cells f} (k : Nat), cellsRep L m w cells xs f → ∃ f1 f2, f = f1 ++ f2 ∧ cellsRep L m w (cells.drop (k * L.sz)) (xs.drop k) f2
  | [], cells, f, k, h => by simp [cellsRep] at h; exact ⟨f, [], by simp, by simp [h.1, cellsRep]⟩
  | x :: xs, cells, f, 0, h => ⟨[], f, rfl, by simpa using h⟩
  | x :: xs, cells, f, k + 1, ⟨cs, rest, f1, f2, h1, h2, h3, h4⟩ => by
    subst h1; subst h2
    obtain ⟨g1, g2, e, h5⟩ := h4.dropF k
    refine ⟨f1 ++ g1, g2, by rw [e, List.append_assoc], ?_⟩
    have hl := L.len h3
    have e9 : (cs ++ rest).drop ((k + 1) * L.sz) = rest.drop (k * L.sz) := by
      rw [List.drop_append, hl, List.drop_eq_nil_of_le (by rw [hl, Nat.add_mul]; omega), List.nil_append]
      congr 1
      rw [Nat.add_mul]; omega
    rw [e9]
    exact h5
/-- where the row begins, less its first elements -/
def cutA (a : Option Addr) (c l sz : Nat) : Option Addr := if c = l then a else a.map (·.add (l * sz))
theorem BEHEAD {K : Go.Act → World → Prop} {e : TypeId} {La : Lay α} {a : Option Addr} {n c : Nat} {xs : List α} (k j : Nat) (R : List Ass) (hp : pulls [j] C = some ([slA e La (.slice a n c) xs], R)) (hk : k ≤ xs.length) (kk : G N W S0 K T L (R ++ [slA e La (.slice (cutA a c k La.sz) (xs.drop k).length (c - k)) (xs.drop k)])) : G N W S0 K T L C := by
  rintro ac w ⟨bs, fps, ht, hb, hm⟩
  obtain ⟨xps, hx, hnx, hex⟩ := hm.exch hp
  match xps, hx with
  | [fp], ⟨⟨cells, g, h1, h2, h3, h4⟩, _⟩ =>
    obtain ⟨f1, f2, rfl, h5⟩ := h3.dropF k
    have hl : (xs.drop k).length = xs.length - k := List.length_drop
    have ho : ownsR w e La.sz (.slice (cutA a c k La.sz) (xs.drop k).length (c - k)) (xs.drop k).length (cells.drop (k * La.sz)) := by
      rw [hl]
      rcases h1.2 with ⟨hv, h0⟩ | ⟨b, ob, cap, cur, fz, hv, hg, hfz, hnc, hcm, hcs, htake⟩
      · simp only [Value.slice.injEq] at hv
        obtain ⟨rfl, rfl, rfl⟩ := hv
        have hk0 : k = 0 := by omega
        subst hk0
        have hc0 : cells = [] := List.eq_nil_of_length_eq_zero (by rw [h1.1, h0, Nat.zero_mul])
        subst hc0
        rw [h0]
        simpa [cutA] using ownsR_nil w e La.sz
      · simp only [Value.slice.injEq] at hv
        obtain ⟨rfl, rfl, rfl⟩ := hv
        have h9 := h1.tail (k := k) hk
        have ea : cutA (some ⟨b, ob, none⟩) c k La.sz = some ⟨b, if c = k then ob else ob + k * La.sz, none⟩ := by
          unfold cutA
          split
          · rfl
          · simp [add_lit]
        rw [ea]
        exact h9
    have hob : (Value.slice (cutA a c k La.sz) (xs.drop k).length (c - k)).ownBlock = (Value.slice a n c).ownBlock := by
      unfold cutA
      cases a with
      | none => split <;> rfl
      | some ad => split
                   · rfl
                   · simp only [Value.ownBlock, Option.map_some, Addr.add]; split <;> rfl
    obtain ⟨fps', hmem⟩ := hex w [slA e La (.slice (cutA a c k La.sz) (xs.drop k).length (c - k)) (xs.drop k)] [(Value.slice a n c).ownBlock.toList ++ f2] ⟨⟨_, f2, ho, by rw [hob], h5, by rw [hl]; omega⟩, trivial⟩
      (by
        simp only [List.flatten_cons, List.flatten_nil, List.append_nil]
        have h9 : ((Value.slice a n c).ownBlock.toList ++ (f1 ++ f2)).Nodup := by rw [← h2]; simpa using hnx
        exact h9.sublist (List.Sublist.append (List.Sublist.refl _) (List.sublist_append_right f1 f2)))
      (fun b hb _ => by
        simp only [List.flatten_cons, List.flatten_nil, List.append_nil] at hb ⊢
        rw [h2]
        rcases List.mem_append.1 hb with h | h
        · exact List.mem_append.2 (.inl h)
        · exact List.mem_append.2 (.inr (List.mem_append.2 (.inr h)))) (Fr.refl _ _)
    exact kk ac w ⟨bs, fps', ht, hb, hmem⟩
/-- s[lo:], where nobody has a further use for s -/
theorem CUTOL {i : Nat} {K : Go.Act → World → Prop} (t : TypeId) (x lo : Operand) (d : Nat) (ty : TypeId) (ho : opAt ops T i = some (.slice t x (some lo) none none, some d, ty)) (hd : d < N) (a : Option Addr) (n cap : Nat) (kl : IntKind) (l : Int)
    (hx : evv T x = some (.slice a n cap)) (hl : evv T lo = some (.int kl l)) (e : TypeId) (La : Lay α) (xs : List α) (hu : P.underlying t = some (.slice e)) (hs : (P.info? e).map (·.size) = some La.sz) (h0 : 0 ≤ l) (h1 : l ≤ n) (hn : n = xs.length)
    (j : Nat) (R : List Ass) (hp : pulls [j] C = some ([slA e La (.slice a n cap) xs], R))
    (k : ∀ a' : Option Addr, G N W S0 K ((d, .v (.slice a' (xs.drop l.toNat).length (cap - l.toNat))) :: T) L (R ++ [slA e La (.slice a' (xs.drop l.toNat).length (cap - l.toNat)) (xs.drop l.toNat)])) : OP P N W S0 ops Q i K T L C := by
  refine STEP _ _ _ ho (by rintro _ ⟨⟩; exact hd) (.v (.slice (cutA a cap l.toNat La.sz) (xs.drop l.toNat).length (cap - l.toNat))) (by intro j off he; cases he) ?_ (BEHEAD l.toNat j R hp (by omega) (k _))
  intro ac o bs w hev hop _ _
  obtain ⟨inf, hi, hsz⟩ := Option.map_eq_some_iff.1 hs
  have hel : P.elem t = e := by unfold Program.elem; rw [hu]
  have hu' : P.underlying t = some (.slice (P.elem t)) := by rw [hel]; exact hu
  have e1 : ac.eval x = .slice a n cap := hev x _ (evo_of_evv hx)
  have e2 : ac.eval lo = .int kl l := hev lo _ (evo_of_evv hl)
  rw [List.length_drop, ← hn]
  simp only [execOp, hop, e1, e2, Option.map_some, Option.map_none, Sem.run_bind, run_sliceAt_slice w t _ _ _ _ hu', run_slice_l w t a n cap hu' kl l h0 h1, hel, run_sizeOf hi, Result.andThen_ok, Sem.run_pure, hsz, sliced, den, cutA]
/-- s[:hi], where nobody has a further use for s -/
theorem CUTO {i : Nat} {K : Go.Act → World → Prop} (t : TypeId) (x hi : Operand) (d : Nat) (ty : TypeId) (ho : opAt ops T i = some (.slice t x none (some hi) none, some d, ty)) (hd : d < N) (a : Option Addr) (n cap : Nat) (kl : IntKind) (l : Int)
    (hx : evv T x = some (.slice a n cap)) (hl : evv T hi = some (.int kl l)) (e : TypeId) (La : Lay α) (xs : List α) (hu : P.underlying t = some (.slice e)) (hs : (P.info? e).map (·.size) = some La.sz) (h0 : 0 ≤ l) (h1 : l ≤ n) (hn : n = xs.length) (hcap : n ≤ cap)
    (j : Nat) (R : List Ass) (hp : pulls [j] C = some ([slA e La (.slice a n cap) xs], R))
    (k : G N W S0 K ((d, .v (.slice a l.toNat cap)) :: T) L (R ++ [slA e La (.slice a l.toNat cap) (xs.take l.toNat)])) : OP P N W S0 ops Q i K T L C := by
  have hz : a.map (·.add (0 * La.sz)) = a := by
    cases a with
    | none => rfl
    | some ad => simp only [Option.map_some, Nat.zero_mul]; congr 1
  refine STEP _ _ _ ho (by rintro _ ⟨⟩; exact hd) (.v (.slice a l.toNat cap)) (by intro j off he; cases he) ?_ (SHRINK l.toNat j R hp (by omega) k)
  intro ac o bs w hev hop _ _
  obtain ⟨inf, hi, hsz⟩ := Option.map_eq_some_iff.1 hs
  have hel : P.elem t = e := by unfold Program.elem; rw [hu]
  have hu' : P.underlying t = some (.slice (P.elem t)) := by rw [hel]; exact hu
  have e1 : ac.eval x = .slice a n cap := hev x _ (evo_of_evv hx)
  have e2 := hev _ _ (evo_of_evv hl)
  simp only [den] at e2
  simp only [execOp, hop, e1, e2, Option.map_some, Option.map_none, Sem.run_bind, run_sliceAt_slice w t _ _ _ _ hu', run_slice_h w t a n cap hu' kl l h0 (by omega), hel, run_sizeOf hi, Result.andThen_ok, Sem.run_pure, hsz, sliced, hz, ite_self, Nat.sub_zero, den]
end
end SX
end Go.Proofs.YtejojcoaohlfbaaGreat
/- Boxes whose addresses are named; closures. It imports no program. -/
namespace Go.Proofs.YtejojcoaohlfbaaGreat
namespace SX
set_option linter.unusedVariables false
set_option linter.unusedSimpArgs false
open Go Go.RowKit
section rules
variable {X : List Nat} {P : Program} {N : Nat} {W : World} {S0 : List Nat} {Q : Exit → Go.Act → World → Prop} {T : Tm} {L : Bx} {C : List Ass} {ops : Array Oper} {Kn : List (Nat × Nat)} {i : Nat}
/-- a load out of a box that is named; a store -/
theorem aLP {t : TypeId} {x : Operand} {d b bt : Nat} {ty : TypeId} {j off : Nat} {cs : List Value} {v : Value} [TB P]
    (hx : evo T x = some (.e (some ⟨b, 0, none⟩) 0 off) := by conv => lhs; whnf) (hC : C[j]? = some (ptC b bt cs) := by exact NT) (hv : ldB (TB.D P) t cs off some = some v := by conv => lhs; whnf) (k : OPL X P N W S0 ops Q Kn (i + 1) ((d, .v v) :: T) L C)
    (hi : Nat.blt i ops.size = true := by rfl) (ho : opAt ops T i = some (.load t x, some d, ty) := by kernel_rfl) (hd : d < N := by exact NL rfl) (hl : loadOf P t cs off = some v := by kernel_rfl) :
    AT (.op (.load t x) (some d) ty) X P N W S0 ops Q Kn i T L C := opsOne (lt_of_blt hi) (LOADE t x d ty ho hd (some ⟨b, 0, none⟩) 0 off cs v hx (fun w hw => ptC_elem (hw.own j hC)) hl k)
theorem qLP {t : TypeId} {x : Operand} {d b bt : Nat} {ty : TypeId} {j off : Nat} {cs : List Value} {v : Value} [TB P]
    (hx : evo T x = some (.e (some ⟨b, 0, none⟩) 0 off) := by conv => lhs; whnf) (hC : C[j]? = some (ptC b bt cs) := by exact NT) (hv : ldB (TB.D P) t cs off some = some v := by conv => lhs; whnf) (k : QL X P N W S0 ops Q Kn (i + 1) ((d, .v v) :: T) L C)
    (ho : opAt ops T i = some (.load t x, some d, ty) := by kernel_rfl) (hd : d < N := by exact NL rfl) (hl : loadOf P t cs off = some v := by kernel_rfl) :
    QT (.op (.load t x) (some d) ty) X P N W S0 ops Q Kn i T L C := QLOADE t x d ty ho hd (some ⟨b, 0, none⟩) 0 off cs v hx (fun w hw => ptC_elem (hw.own j hC)) hl k
theorem aSP {t : TypeId} {x y : Operand} {b bt : Nat} {ty : TypeId} {j off : Nat} {cs cs' : List Value} {v : Value} {R : List Ass} [TB P]
    (hx : evo T x = some (.e (some ⟨b, 0, none⟩) 0 off) := by conv => lhs; whnf) (hp : pull j C = some (ptC b bt cs, R) := by exact PU) (hy : evv T y = some v := by conv => lhs; whnf) (hv : stB (TB.D P) t bt cs off v = some cs' := by conv => lhs; whnf)
    (k : OPL X P N W S0 ops Q Kn (i + 1) T L (R ++ [ptC b bt cs'])) (hi : Nat.blt i ops.size = true := by rfl) (ho : opAt ops T i = some (.store t x y, none, ty) := by kernel_rfl) (hst : storeOf P t cs off v = some cs' := by kernel_rfl) :
    AT (.op (.store t x y) none ty) X P N W S0 ops Q Kn i T L C := opsOne (lt_of_blt hi) (STOREC t x y ty ho j R b off bt cs cs' (by simp [pulls, hp]) v hx hy hst k)
/-- what lies in the caller's memory is read -/
theorem aLW {t : TypeId} {x : Operand} {d b : Nat} {ty : TypeId} {off : Nat} {cs : List Value} {v : Value} [TB P]
    (hx : evo T x = some (.e (some ⟨b, 0, none⟩) 0 off) := by conv => lhs; whnf) (he : ElemAt W (some ⟨b, 0, none⟩) 0 cs) (hv : ldB (TB.D P) t cs off some = some v := by conv => lhs; whnf) (k : OPL X P N W [] ops Q Kn (i + 1) ((d, .v v) :: T) L C)
    (hi : Nat.blt i ops.size = true := by rfl) (ho : opAt ops T i = some (.load t x, some d, ty) := by kernel_rfl) (hd : d < N := by exact NL rfl) (hl : loadOf P t cs off = some v := by kernel_rfl) :
    AT (.op (.load t x) (some d) ty) X P N W [] ops Q Kn i T L C := opsOne (lt_of_blt hi) (LOADE t x d ty ho hd (some ⟨b, 0, none⟩) 0 off cs v hx (fun w hw j hj => ElemAt.fr he hw.fr j hj) hl k)
variable {bs : List Nat} {L0 : Bx} {Ks : Keys} {T0 : Tm} {f : Nat} {Ls : List Nat} {la : Array Bool}
theorem hLWd {t : TypeId} {x : Operand} {d b : Nat} {ty : TypeId} {off : Nat} {cs : List Value} {v : Value} [TB P]
    (hx : evo T x = some (.e (some ⟨b, 0, none⟩) 0 off) := by conv => lhs; whnf) (he : ∀ w, At W S0 (frz bs L0) w → ElemAt w (some ⟨b, 0, none⟩) 0 cs) (hv : ldB (TB.D P) t cs off some = some v := by conv => lhs; whnf)
    (k : HL X P N W S0 ops Q bs L0 Ks T0 f (i :: Ls) (la.setIfInBounds i true) Kn ((d, .v v) :: T) L C) (hC : KP (frz bs L0) Ks Ls la C := by exact KP.mk)
    (hk : takeB ops la Ks i = true := by kernel_rfl) (ho : opAt ops T i = some (.load t x, some d, ty) := by kernel_rfl) (hd : d < N := by exact NL rfl) (hl : loadOf P t cs off = some v := by kernel_rfl) :
    HT (.op i (.load t x) (some d) ty) X P N W S0 ops Q bs L0 Ks T0 (f + 1) Ls la Kn T L C := hC.pulls.elim fun _ h9 => HDLOADE t x d ty ho hd (some ⟨b, 0, none⟩) 0 off cs v hx he hl hk h9 k
/-- a closure is made, over boxes that are named -/
def capO {R : Type} (T : Tm) : List Operand → (List Value → Option R) → Option R
  | [], k => k []
  | x :: xs, k => match evo T x with
    | some (.e (some ⟨b, 0, none⟩) 0 0) => capO T xs (fun l => k (.pointer (some ⟨b, 0, none⟩) :: l))
    | some (.v v) => capO T xs (fun l => k (v :: l))
    | _ => none
theorem capO_ok {T : Tm} {a : Go.Act} {bs : List Nat} (hev : ∀ x s, evo T x = some s → a.eval x = den bs s) : ∀ (xs : List Operand) (k : List Value → Option (List Value)) (vs : List Value), capO T xs k = some vs → ∃ l, k l = some vs ∧ xs.map a.eval = l
  | [], k, vs, h => ⟨[], h, rfl⟩
  | x :: xs, k, vs, h => by
    simp only [capO] at h
    split at h
    · rename_i b hx
      obtain ⟨l, h1, h2⟩ := capO_ok hev xs _ vs h
      refine ⟨_, h1, ?_⟩
      rw [List.map_cons, h2, hev _ _ hx]
      simp [den, addrOf, add_lit]
    · rename_i v hx
      obtain ⟨l, h1, h2⟩ := capO_ok hev xs _ vs h
      refine ⟨_, h1, ?_⟩
      rw [List.map_cons, h2, hev _ _ hx]
      rfl
    · cases h
theorem aMF {fn : FuncId} {caps : Array Operand} {d : Nat} {ty : TypeId} {vs : List Value} (hv : capO T caps.toList some = some vs := by conv => lhs; whnf) (k : OPL X P N W S0 ops Q Kn (i + 1) ((d, .v (.func (.func fn) #[] vs.toArray)) :: T) L C)
    (hv' : capO T caps.toList some = some vs := by rfl) (hi : Nat.blt i ops.size = true := by rfl) (ho : opAt ops T i = some (.makeFunc (.func fn) #[] caps, some d, ty) := by kernel_rfl) (hd : d < N := by exact NL rfl) :
    AT (.op (.makeFunc (.func fn) #[] caps) (some d) ty) X P N W S0 ops Q Kn i T L C :=
  opsOne (lt_of_blt hi) (RUNV _ d ty ho hd _ (by
    intro a o bs w hev hop _ _
    obtain ⟨l, h1, h2⟩ := capO_ok hev _ _ _ hv'
    simp only [Option.some.injEq] at h1
    subst h1
    have h3 : caps.map a.eval = l.toArray := by
      apply Array.toList_inj.1
      rw [Array.toList_map, h2]
    simp [execOp, hop, Instr.makeFunc, Sem.run_pure, h3, den]) k)
theorem cOP {c : Code} (k : ∀ bs : List Nat, bs.length = L.length → CD X P N W S0 c Q (expT bs T) [] (expC bs L ++ C)) : CD X P N W S0 c Q T L C := EXPORT (K := c.wp P Q) k
theorem oOP (k : ∀ bs : List Nat, bs.length = L.length → OPL X P N W S0 ops Q Kn i (expT bs T) [] (expC bs L ++ C)) : OPL X P N W S0 ops Q Kn i T L C := EXPORT k
theorem tOP {x : Nx} (k : ∀ bs : List Nat, bs.length = L.length → AT x X P N W S0 ops Q Kn i (expT bs T) [] (expC bs L ++ C)) : AT x X P N W S0 ops Q Kn i T L C := EXPORT k
/-- a pointer to a box that is named, as a value -/
theorem oPV {d b : Nat} (hd : lk T d = some (.e (some ⟨b, 0, none⟩) 0 0)) (k : OPL X P N W S0 ops Q Kn i ((d, .v (.pointer (some ⟨b, 0, none⟩))) :: T) L C) : OPL X P N W S0 ops Q Kn i T L C := ASV hd k
theorem gVP {K : Go.Act → World → Prop} {d b : Nat} (hd : lk T d = some (.v (.pointer (some ⟨b, 0, none⟩)))) (k : G N W S0 K ((d, .e (some ⟨b, 0, none⟩) 0 0) :: T) L C) : G N W S0 K T L C := by
  rintro a w ⟨bs, fps, ht, hb, hm⟩
  refine k a w ⟨bs, fps, ⟨ht.1, ht.2.1, fun i x hx => ?_⟩, hb, hm⟩
  simp only [lk] at hx
  by_cases hk : d = i
  · subst hk
    simp at hx; subst hx
    have := ht.2.2 d _ hd
    rw [this]
    simp [den, addrOf, add_lit]
  · have : (d == i) = false := by simpa using hk
    simp only [this, Bool.false_eq_true, if_false] at hx
    exact ht.2.2 i x hx
theorem oVP {d b : Nat} (hd : lk T d = some (.v (.pointer (some ⟨b, 0, none⟩)))) (k : OPL X P N W S0 ops Q Kn i ((d, .e (some ⟨b, 0, none⟩) 0 0) :: T) L C) : OPL X P N W S0 ops Q Kn i T L C := gVP hd k
theorem cVP {c : Code} {d b : Nat} (hd : lk T d = some (.v (.pointer (some ⟨b, 0, none⟩)))) (k : CD X P N W S0 c Q ((d, .e (some ⟨b, 0, none⟩) 0 0) :: T) L C) : CD X P N W S0 c Q T L C := gVP (K := c.wp P Q) hd k
/-- a result's box is closed again -/
def cellE (T : Tm) : List ResultVar → Option Nat
  | [] => none
  | .cell t _ :: r => match lk T t with
    | some (.e _ _ _) => some t
    | _ => cellE T r
  | _ :: r => cellE T r
theorem gCB {K : Go.Act → World → Prop} {d b t : Nat} {cs : List Value} {j : Nat} {R : List Ass} (hl : lk T d = some (.e (some ⟨b, 0, none⟩) 0 0)) (hp : pull j C = some (ptC b t cs, R)) (k : G N W S0 K ((d, .p L.length 0) :: T) (L ++ [(t, cs)]) R) : G N W S0 K T L C := by
  rintro a w ⟨bs, fps, ht, hb, hm⟩
  obtain ⟨fp, gps, ha, hr, hperm⟩ := holds.pull j hm.ch hp
  have hfp : fp = [b] := ha.1
  subst hfp
  have hbl := boxes_len hm.bx
  have hfl : (b :: gps.flatten).Perm fps.flatten := by simpa using flat_perm hperm
  have hall : ((bs ++ [b]) ++ gps.flatten).Perm (bs ++ fps.flatten) := by
    rw [List.append_assoc]
    exact hfl.append_left bs
  refine k a w ⟨bs ++ [b], gps, ⟨ht.1, ht.2.1, fun i x hx => ?_⟩, ?_, ⟨hm.fr, boxes_append hm.bx ⟨ha.2, trivial⟩, hr, hall.nodup_iff.2 hm.nd, fun c hc => hm.new c (hall.subset hc)⟩⟩
  · simp only [lk] at hx
    by_cases hk : d = i
    · subst hk
      simp at hx; subst hx
      have := ht.2.2 d _ hl
      rw [this]
      simp [den, addrOf, add_lit, hbl, List.getD_eq_getElem?_getD]
    · have h9 : (d == i) = false := by simpa using hk
      simp only [h9, Bool.false_eq_true, if_false] at hx
      have := ht.2.2 i x hx
      rw [this]
      cases x with
      | v _ => rfl
      | e _ _ _ => rfl
      | p m off =>
        have hlt := hb.lk hx
        simp only [den, List.getD_eq_getElem?_getD]
        rw [List.getElem?_append_left (by rw [← hbl] at hlt; exact hlt)]
  · refine ⟨by simp, hb.mono (by simp)⟩
theorem gRTC {fn : Func} {d b t : Nat} {cs : List Value} {j : Nat} {R : List Ass} {r : Res} {n : Nat} {L1 : Bx} (hq : Q .ret = bodyPost P fn (RetM S0 r W) .ret := by rfl) (hd : cellE T fn.results.toList = some d := by conv => lhs; whnf) (hl : lk T d = some (.e (some ⟨b, 0, none⟩) 0 0) := by conv => lhs; whnf) (hp : pull j C = some (ptC b t cs, R) := by exact PU)
    (hL : snocBx L 0 (t, cs) (fun i l => some (i, l)) = some (n, L1) := by conv => lhs; whnf) (k : CD X P N W S0 .ret Q ((d, .p n 0) :: T) L1 R) (hn : n = L.length := by rfl) (hL1 : L1 = L ++ [(t, cs)] := by rfl) : CD X P N W S0 .ret Q T L C := by
  subst hn hL1
  exact gCB (K := Code.ret.wp P Q) hl hp k
theorem rEX {v : Value} {r : Res} {R : List Ass} {js : List Nat} (x : r.ι) (hp : pulls js C = some (r.own x, R)) (hv : v = r.val x) : RETG v r C := ⟨x, js, hv, by rw [hp]; rfl⟩
theorem gFINN [TB P] {fn : Func} {r : Res} {v : Value} (k : RETG v r C) (hv : resV (TB.D P) fn T L = some v := by conv => lhs; whnf) (hv' : resOf fn P T L = some v := by kernel_rfl) : DN X N W S0 (bodyPost P fn (RetM S0 r W)) .normal T L C := by
  obtain ⟨x, js, hx, hp⟩ := k
  exact FINN v hv' x hx js hp
/-- loops without a counter: U slots, bs boxes, O own rows, m what becomes less -/
def LGT {α : Type} (U : α → Tm) (T : Tm) (q : α) : Tm := U q ++ T
def LGC {α : Type} (O : α → List Ass) (C0 : List Ass) (q : α) : List Ass := C0 ++ O q
theorem gLPG {c : Code} {L : Bx} {α : Type} (U : α → Tm) (bs : List (Nat × (α → List Value))) (O : α → List Ass) (Inv : α → Prop) (m : α → Nat) (x0 : α) {Lf : α → Bx} {js : List Nat} {C0 : List Ass}
    (hLf : ∀ x, setBs x bs L some = some (Lf x) := by intro x; conv => lhs; whnf) (hp : pulls js C = some (O x0, C0) := by first | exact pl0 | exact plS PU pl0 | exact plS PU (plS PU pl0) | exact plS PU (plS PU (plS PU (plS PU (plS PU pl0)))) | exact plS PU (plS PU (plS PU (plS PU (plS PU (plS PU pl0)))))) (h0 : Inv x0)
    (body : ∀ x, Inv x → CD X P N W S0 c (Exit.then (BKP N W S0 (LGT U T) Lf (LGC O C0) Inv m x) Q) (U x ++ T) (Lf x) (C0 ++ O x))
    (hL : L = Lf x0 := by rfl) (hT : keep T ((LGT U T x0).map (·.1)) = keep (LGT U T x0) ((LGT U T x0).map (·.1)) := by kernel_rfl) (hn : boundedB (Lf x0).length (LGT U T x0) = true := by kernel_rfl) : CD X P N W S0 (.loop c) Q T L C := by
  have h := gLOOP (X := X) (P := P) (N := N) (W := W) (S0 := S0) (Q := Q) (T := T) (L := L) (C := C0 ++ O x0) (LGT U T) Lf (LGC O C0) Inv m x0 h0 (fun q hk => body q hk) hT hn hL rfl
  unfold CD at *
  intro a w hs
  exact h a w (hs.turn (fun _ => rfl) id rfl ((pulls_perm hp).trans List.perm_append_comm))
theorem gLBK {α : Type} {U : α → Tm} {O : α → List Ass} {Lf : α → Bx} {x : α} {Inv : α → Prop} {m : α → Nat} {T1 : Tm} {L1 : Bx} {C0 C1 R R2 : List Ass} {js : List Nat} (x' : α) (hm : m x' < m x) (hU : keep T1 ((U x).map (·.1)) = some (U x') := by conv => lhs; whnf) (hLx : tkB (Lf x) L1 some = some (Lf x') := by conv => lhs; whnf)
    (hp : pulls js C1 = some (O x', R) := by first | exact pl0 | exact plS PU pl0 | exact plS PU (plS PU pl0) | exact plS PU (plS PU (plS PU (plS PU (plS PU pl0)))) | exact plS PU (plS PU (plS PU (plS PU (plS PU (plS PU pl0)))))) (h : Inv x') (hR : R = C0 ++ R2 := by rfl)
    (hT : keep T1 ((LGT U T x').map (·.1)) = keep (LGT U T x') ((LGT U T x').map (·.1)) := by kernel_rfl)
    (hn : boundedB (Lf x').length (LGT U T x') = true := by kernel_rfl) (hL : L1.take (Lf x').length = Lf x' := by kernel_rfl) : DN X N W S0 (Exit.then (BKP N W S0 (LGT U T) Lf (LGC O C0) Inv m x) Q) .normal T1 L1 C1 := by
  subst hR
  intro aa w hs
  have hperm : C1.Perm ((C0 ++ O x') ++ R2) := by
    refine (pulls_perm hp).trans ?_
    rw [← List.append_assoc]
    exact List.perm_append_comm.append_right R2
  have h1 := hs.turn (T1 := T1) (fun _ => rfl) id rfl hperm
  exact ⟨x', h, hm, h1.into (js := zeros (C0 ++ O x')) (R := R2) hT hn hL (pulls_zeros _ _)⟩
/-- an element that is out is put back -/
theorem tUNC {x : Nx} {e e4 e5 e6 : TypeId} {v : Value} {xs : List Cabin} {m j j1 j2 : Nat} {R R1 R2 : List Ass} {t f9 h s ti : Int} {a1 a2 : Option Addr} {n1 n2 c1 c2 : Nat} {row : List Entry} {sp : List (List Pin)}
    (hp : pull j C = some (slHo e (cabinLx e4 e5 e6) v xs m [vi t, vi f9, vi h, vi s, vi ti, .slice a1 n1 c1, .slice a2 n2 c2], R) := by exact PU) (hp1 : pull j1 R = some (slA e4 entryL (.slice a1 n1 c1) row, R1) := by exact PU) (hp2 : pull j2 R1 = some (slA e5 (sl e6 pinL) (.slice a2 n2 c2) sp, R2) := by exact PU)
    (k : AT x X P N W S0 ops Q Kn i T L (R2 ++ [slA e (cabinLx e4 e5 e6) v (xs.set m ⟨⟨t, f9, h, s, ti⟩, row, ⟨sp⟩⟩)])) : AT x X P N W S0 ops Q Kn i T L C := by
  unfold AT OPL at *
  exact oUNC hp hp1 hp2 k
theorem tUNS {x : Nx} {α : Type} {La : Lay α} {e e1 : TypeId} {v : Value} {xs : List (List α)} {m j j1 : Nat} {R R1 : List Ass} {a1 : Option Addr} {n1 c1 : Nat} {row : List α}
    (hp : pull j C = some (slHo e (sl e1 La) v xs m [.slice a1 n1 c1], R) := by exact PU) (hp1 : pull j1 R = some (slA e1 La (.slice a1 n1 c1) row, R1) := by exact PU)
    (k : AT x X P N W S0 ops Q Kn i T L (R1 ++ [slA e (sl e1 La) v (xs.set m row)])) : AT x X P N W S0 ops Q Kn i T L C := by
  unfold AT OPL at *
  exact oUNS hp hp1 k
theorem uUNC {x : Nx} {e e4 e5 e6 : TypeId} {v : Value} {xs : List Cabin} {m j j1 j2 : Nat} {R R1 R2 : List Ass} {t f9 h s ti : Int} {a1 a2 : Option Addr} {n1 n2 c1 c2 : Nat} {row : List Entry} {sp : List (List Pin)}
    (hp : pull j C = some (slHo e (cabinLx e4 e5 e6) v xs m [vi t, vi f9, vi h, vi s, vi ti, .slice a1 n1 c1, .slice a2 n2 c2], R) := by exact PU) (hp1 : pull j1 R = some (slA e4 entryL (.slice a1 n1 c1) row, R1) := by exact PU) (hp2 : pull j2 R1 = some (slA e5 (sl e6 pinL) (.slice a2 n2 c2) sp, R2) := by exact PU)
    (k : HO x i X P N W S0 ops Q bs L0 Ks T0 f Ls la Kn T L (R2 ++ [slA e (cabinLx e4 e5 e6) v (xs.set m ⟨⟨t, f9, h, s, ti⟩, row, ⟨sp⟩⟩)])) : HO x i X P N W S0 ops Q bs L0 Ks T0 f Ls la Kn T L C := by
  unfold HO OP at *
  exact oUNC hp hp1 hp2 k
theorem uUNS {x : Nx} {α : Type} {La : Lay α} {e e1 : TypeId} {v : Value} {xs : List (List α)} {m j j1 : Nat} {R R1 : List Ass} {a1 : Option Addr} {n1 c1 : Nat} {row : List α}
    (hp : pull j C = some (slHo e (sl e1 La) v xs m [.slice a1 n1 c1], R) := by exact PU) (hp1 : pull j1 R = some (slA e1 La (.slice a1 n1 c1) row, R1) := by exact PU)
    (k : HO x i X P N W S0 ops Q bs L0 Ks T0 f Ls la Kn T L (R1 ++ [slA e (sl e1 La) v (xs.set m row)])) : HO x i X P N W S0 ops Q bs L0 Ks T0 f Ls la Kn T L C := by
  unfold HO OP at *
  exact oUNS hp hp1 k
/-- a row that is built plain, for an insertion -/
theorem oBUILDP {K : Go.Act → World → Prop} {t : TypeId} {len : Nat} {parts : Array (Nat × Operand)} {d : Nat} {ty : TypeId} {e sz : Nat} {α : Type} {enc : α → List Value} {hh : ∀ x, (enc x).length = sz ∧ ∀ u ∈ enc x, isCell u = true} {xs : List α} [TB P]
    (he : lkn (TB.D P).row t = some (e, sz) := by conv => lhs; whnf) (el : ElT P e α sz enc hh := by infer_instance) (hx : partsO el.dec T 0 parts.toList some = some xs := by conv => lhs; whnf)
    (k : ∀ a : Option Addr, a.isSome = true → G N W S0 K ((d, .v (.slice a len len)) :: T) L (C ++ [slP e (flat sz enc hh) (.slice a len len) xs]))
    (ho : opAt ops T i = some (.buildSlice t len parts, some d, ty) := by kernel_rfl) (hd : d < N := by exact NL rfl) (hb : (partsOf T parts.toList).bind (bsOf P t len) = some (e, xs.flatMap enc) := by kernel_rfl) (hl : xs.length = len := by kernel_rfl) (hm : Nat.ble len maxLen = true := by rfl) : OP P N W S0 ops Q i K T L C :=
  BUILDP t len parts d ty e (xs.flatMap enc) (flat sz enc hh) xs (flatRep rfl) k ho hd hb hl (Nat.le_of_ble_eq_true hm)
theorem aBUILDP {t : TypeId} {len : Nat} {parts : Array (Nat × Operand)} {d : Nat} {ty : TypeId} {e sz : Nat} {α : Type} {enc : α → List Value} {hh : ∀ x, (enc x).length = sz ∧ ∀ u ∈ enc x, isCell u = true} {xs : List α} [TB P]
    (he : lkn (TB.D P).row t = some (e, sz) := by conv => lhs; whnf) (el : ElT P e α sz enc hh := by infer_instance) (hx : partsO el.dec T 0 parts.toList some = some xs := by conv => lhs; whnf)
    (k : ∀ a : Option Addr, a.isSome = true → OPL X P N W S0 ops Q Kn (i + 1) ((d, .v (.slice a len len)) :: T) L (C ++ [slP e (flat sz enc hh) (.slice a len len) xs])) (hi : Nat.blt i ops.size = true := by rfl)
    (ho : opAt ops T i = some (.buildSlice t len parts, some d, ty) := by kernel_rfl) (hd : d < N := by exact NL rfl) (hb : (partsOf T parts.toList).bind (bsOf P t len) = some (e, xs.flatMap enc) := by kernel_rfl) (hl : xs.length = len := by kernel_rfl) (hm : Nat.ble len maxLen = true := by rfl) :
    AT (.op (.buildSlice t len parts) (some d) ty) X P N W S0 ops Q Kn i T L C := opsOne (lt_of_blt hi) (oBUILDP he el hx k ho hd hb hl hm)
theorem hBUILDP {t : TypeId} {len : Nat} {parts : Array (Nat × Operand)} {d : Nat} {ty : TypeId} {e sz : Nat} {α : Type} {enc : α → List Value} {hh : ∀ x, (enc x).length = sz ∧ ∀ u ∈ enc x, isCell u = true} {xs : List α} [TB P]
    (he : lkn (TB.D P).row t = some (e, sz) := by conv => lhs; whnf) (el : ElT P e α sz enc hh := by infer_instance) (hx : partsO el.dec T 0 parts.toList some = some xs := by conv => lhs; whnf)
    (k : ∀ a : Option Addr, a.isSome = true → HL X P N W S0 ops Q bs L0 Ks T0 f (i :: Ls) (la.setIfInBounds i true) Kn ((d, .v (.slice a len len)) :: T) L (C ++ [slP e (flat sz enc hh) (.slice a len len) xs])) (hC : KP (frz bs L0) Ks (i :: Ls) (la.setIfInBounds i true) C := by exact KP.mk)
    (ho : opAt ops T i = some (.buildSlice t len parts, some d, ty) := by kernel_rfl) (hd : d < N := by exact NL rfl) (hb : (partsOf T parts.toList).bind (bsOf P t len) = some (e, xs.flatMap enc) := by kernel_rfl) (hl : xs.length = len := by kernel_rfl) (hm : Nat.ble len maxLen = true := by rfl) :
    HO (.op (.buildSlice t len parts) (some d) ty) i X P N W S0 ops Q bs L0 Ks T0 f Ls la Kn T L C := oBUILDP he el hx (fun a ha => hKEEP hC.app (k a ha)) ho hd hb hl hm
theorem STP {A B : Prop} (k : B) (h : B → A := by
    intro k
    first
    | (refine gtB ?_; exact aBUILDP (k := k))
    | (refine goB ?_; exact hBUILDP (k := k))) : A := h k
theorem ST2 {A B : Prop} (k : B) (h : B → A := by
    intro k
    first
    | (refine idAT ?_
       first
       | (refine aLd ?_
          first
          | exact aLP (k := k)
          | exact aLW (he := by assumption) (k := k))
       | (refine gtS ?_; exact aSP (k := k))
       | (refine aCa ?_
          first
          | exact tUNS (k := k)
          | exact tUNC (k := k))
       | exact aMF (k := k))
    | (refine idHO ?_
       refine goC ?_
       first
       | exact uUNS (k := k)
       | exact uUNC (k := k))
    | (refine idDN ?_; exact gFINN k)
    | (refine idCD ?_; exact gRTC (k := k))
    | (refine idQT ?_; refine qLd ?_; exact qLP (k := k))
    | (refine idHT ?_; refine ghL ?_; exact hLWd (he := fun w hw j hj => ElemAt.fr (by assumption) hw.fr j hj) (k := k))) : A := h k
end rules
end SX
end Go.Proofs.YtejojcoaohlfbaaGreat
/- More steps where a region's order is open: stores into flat rows of one's own, remainders. It imports no program. -/
namespace Go.Proofs.YtejojcoaohlfbaaGreat
namespace SX
set_option linter.unusedVariables false
set_option linter.unusedSimpArgs false
open Go Go.RowKit
section rules
variable {X : List Nat} {P : Program} {N : Nat} {W : World} {S0 : List Nat} {Q : Exit → Go.Act → World → Prop} {T : Tm} {L : Bx} {C : List Ass} {ops : Array Oper} {Kn : List (Nat × Nat)} {i : Nat} {bs : List Nat} {L0 : Bx} {Ks : Keys} {T0 : Tm} {f : Nat} {Ls : List Nat} {la : Array Bool}
theorem hSOF {t : TypeId} {x y : Operand} {ty : TypeId} {a : Option Addr} {m n cap sz off j e : Nat} {α : Type} {enc : α → List Value} {hh : ∀ x, (enc x).length = sz ∧ ∀ u ∈ enc x, isCell u = true} {xs : List α} {v : Value} {x1 : α} {R : List Ass}
    (hx : evo T x = some (.e a (m * sz) off) := by conv => lhs; whnf) (hy : evv T y = some v := by conv => lhs; whnf) (hp : pull j C = some (slA e (flat sz enc hh) (.slice a n cap) xs, R) := by exact PU) (el : ElT P e α sz enc hh := by infer_instance) (hj : m < xs.length := by exact LEN) (hv : stE el.dec off (enc xs[m]) v some = some x1 := by conv => lhs; whnf)
    (k : HL X P N W S0 ops Q bs L0 Ks T0 f (i :: Ls) (la.setIfInBounds i true) Kn T L (R ++ [slA e (flat sz enc hh) (.slice a n cap) (xs.set m x1)])) (hR : KP (frz bs L0) Ks (i :: Ls) (la.setIfInBounds i true) R := by exact KP.mk)
    (ho : opAt ops T i = some (.store t x y, none, ty) := by kernel_rfl) (hst : storeOf P t (enc xs[m]) off v = some (enc x1) := by kernel_rfl) :
    HO (.op (.store t x y) none ty) i X P N W S0 ops Q bs L0 Ks T0 f Ls la Kn T L C :=
  STOREF t x y ty ho j R e a n cap m off xs (by simp [pulls, hp]) xs[m] x1 (List.getElem?_eq_getElem hj) v hx hy hst (hKEEP hR.app k)
theorem hSOz {t : TypeId} {x y : Operand} {ty : TypeId} {a : Option Addr} {z : Int} {n cap sz off j e : Nat} {α : Type} {enc : α → List Value} {hh : ∀ x, (enc x).length = sz ∧ ∀ u ∈ enc x, isCell u = true} {xs : List α} {v : Value} {x1 : α} {R : List Ass}
    (hx : evo T x = some (.e a (z.toNat * sz) off) := by conv => lhs; whnf) (hy : evv T y = some v := by conv => lhs; whnf) (hp : pull j C = some (slA e (flat sz enc hh) (.slice a n cap) xs, R) := by exact PU) (el : ElT P e α sz enc hh := by infer_instance) (hj : z.toNat < xs.length := by exact LEN) (hv : stE el.dec off (enc xs[z.toNat]) v some = some x1 := by conv => lhs; whnf)
    (k : HL X P N W S0 ops Q bs L0 Ks T0 f (i :: Ls) (la.setIfInBounds i true) Kn T L (R ++ [slA e (flat sz enc hh) (.slice a n cap) (xs.set z.toNat x1)])) (hR : KP (frz bs L0) Ks (i :: Ls) (la.setIfInBounds i true) R := by exact KP.mk)
    (ho : opAt ops T i = some (.store t x y, none, ty) := by kernel_rfl) (hst : storeOf P t (enc xs[z.toNat]) off v = some (enc x1) := by kernel_rfl) :
    HO (.op (.store t x y) none ty) i X P N W S0 ops Q bs L0 Ks T0 f Ls la Kn T L C :=
  STOREF t x y ty ho j R e a n cap z.toNat off xs (by simp [pulls, hp]) xs[z.toNat] x1 (List.getElem?_eq_getElem hj) v hx hy hst (hKEEP hR.app k)
theorem uRV {op : Op} {d : Nat} {ty : TypeId} {v : Value} (hrun : Runs P W S0 T C op ty v) (k : HL X P N W S0 ops Q bs L0 Ks T0 f (i :: Ls) (la.setIfInBounds i true) Kn ((d, .v v) :: T) L C) (hC : KP (frz bs L0) Ks (i :: Ls) (la.setIfInBounds i true) C := by exact KP.mk)
    (ho : opAt ops T i = some (op, some d, ty) := by kernel_rfl) (hd : d < N := by exact NL rfl) : HO (.op op (some d) ty) i X P N W S0 ops Q bs L0 Ks T0 f Ls la Kn T L C := RUNV op d ty ho hd v hrun (hKEEP hC k)
theorem goZ {b : BinOp} {t z : TypeId} {x y : Operand} {d : Option Nat} {ty : TypeId} (k : HO (.op (.binOp b t x y z) d ty) i X P N W S0 ops Q bs L0 Ks T0 f Ls la Kn T L C) : HO (.op (.binOp b t x y z) d ty) i X P N W S0 ops Q bs L0 Ks T0 f Ls la Kn T L C := k
/-- an owned row without its first elements -/
theorem aCLOz [TB P] {t : TypeId} {x lo : Operand} {d : Nat} {ty : TypeId} {kl : IntKind} {z : Int} {n cap j : Nat} {a : Option Addr} {e : TypeId} {α : Type} {La : Lay α} {xs : List α} {R : List Ass}
    (hl : evv T lo = some (.int kl z) := by conv => lhs; whnf) (hx : evv T x = some (.slice a n cap) := by conv => lhs; whnf) (hp : pull j C = some (slA e La (.slice a n cap) xs, R) := by exact PU) (h0 : 0 ≤ z) (hz : z ≤ n) (hn : n = xs.length := by rfl)
    (k : ∀ a' : Option Addr, OPL X P N W S0 ops Q Kn (i + 1) ((d, .v (.slice a' (xs.drop z.toNat).length (cap - z.toNat))) :: T) L (R ++ [slA e La (.slice a' (xs.drop z.toNat).length (cap - z.toNat)) (xs.drop z.toNat)])) (hi : Nat.blt i ops.size = true := by rfl)
    (ho : opAt ops T i = some (.slice t x (some lo) none none, some d, ty) := by kernel_rfl) (hd : d < N := by exact NL rfl) (hu : P.underlying t = some (.slice e) := by kernel_rfl) (hs : (P.info? e).map (·.size) = some La.sz := by kernel_rfl) :
    AT (.op (.slice t x (some lo) none none) (some d) ty) X P N W S0 ops Q Kn i T L C :=
  opsOne (lt_of_blt hi) (CUTOL t x lo d ty ho hd a n cap kl z hx hl e La xs hu hs h0 hz hn j R (by simp [pulls, hp]) (fun a' => k a'))
/-- an own row is appended onto an own row; its source is kept -/
theorem aAPO {t : TypeId} {s x : Operand} {d : Nat} {ty : TypeId} {v : Value} {a2 : Option Addr} {n2 c2 e sz : Nat} {α : Type} {enc : α → List Value} {hh : ∀ x, (enc x).length = sz ∧ ∀ u ∈ enc x, isCell u = true} {xs ys : List α} {j1 j2 : Nat} {R : List Ass} [TB P]
    (he : lkn (TB.D P).row t = some (e, sz) := by conv => lhs; whnf) (el : ElT P e α sz enc hh := by infer_instance) (hs : evv T s = some v := by conv => lhs; whnf) (hx : evv T x = some (.slice a2 n2 c2) := by conv => lhs; whnf)
    (hp1 : pull j1 C = some (slA e (flat sz enc hh) v xs, R) := by exact PU) (hr : C[j2]? = some (slA e (flat sz enc hh) (.slice a2 n2 c2) ys) := by exact NT) (hn2 : ys.length = n2 := by rfl) (hlen : xs.length + n2 ≤ 100000000000 := by exact LEN)
    (k : ∀ (a : Option Addr) (c : Nat), NNil a (xs ++ ys).length → OPL X P N W S0 ops Q Kn (i + 1) ((d, .v (.slice a (xs ++ ys).length c)) :: T) L (R ++ [slA e (flat sz enc hh) (.slice a (xs ++ ys).length c) (xs ++ ys)])) (hi : Nat.blt i ops.size = true := by rfl)
    (ho : opAt ops T i = some (.call { callee := .builtin .append, args := #[s, x], argTypes := #[t, t] }, some d, ty) := by kernel_rfl) (hd : d < N := by exact NL rfl) (hu : P.underlying t = some (.slice e) := by kernel_rfl) :
    AT (.op (.call { callee := .builtin .append, args := #[s, x], argTypes := #[t, t] }) (some d) ty) X P N W S0 ops Q Kn i T L C := by
  have hb := el.small
  have hm : (xs.length + n2) * el.bytes ≤ (xs.length + n2) * 1024 := Nat.mul_le_mul_left _ hb
  have hz : el.z.cells.size = sz := by
    have h1 := congrArg List.length el.zc
    rw [(hh el.x0).1] at h1
    simpa using h1
  exact opsOne (lt_of_blt hi) (APPENDR t s x d ty ho hd v a2 n2 c2 hs hx e hu el.z el.bytes el.info hz el.pos j1 xs ys R (by simp [pulls, hp1]) hn2 (fun w hw => hw.rdO j2 hr) (by omega) (by simp only [maxLen]; omega) k)
theorem ST3 {A B : Prop} (k : B) (h : B → A := by
    intro k
    first
    | (refine idHO ?_
       refine goS ?_
       first
       | exact hSOz (k := k)
       | exact hSOF (k := k))
    | (refine idHO ?_
       refine goZ ?_
       exact uRV rREM k)
    | (refine idAT ?_; refine gtP ?_; exact aAPO (k := k))
    | (refine idAT ?_; refine gtC ?_; exact aCLOz (h0 := by omega) (hz := by omega) (k := k))) : A := h k
end rules
end SX
end Go.Proofs.YtejojcoaohlfbaaGreat
