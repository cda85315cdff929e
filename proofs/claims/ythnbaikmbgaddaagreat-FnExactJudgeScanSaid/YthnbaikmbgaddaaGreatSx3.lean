/- The rules: what a run of pure and boxed operations comes to; regions, tests, blocks, loops; calls; returns. It imports no program. -/
import Derived.Test.YthnbaikmbgaddaaGreatSx2
import Derived.Orders
namespace Go.Proofs.YthnbaikmbgaddaaGreat
namespace SX
set_option linter.unusedVariables false
set_option linter.unusedSimpArgs false
open Go Go.RowKit

/-! ### Boxes in memory -/
theorem cell_box {w : World} {b : Nat} {cs : List Value} {t : TypeId} (h : w.heap[b]? = some (.cells cs.toArray t (0, 0))) (i : Nat) : w.cell? ⟨b, i, none⟩ = cs[i]? := by
  simp [World.cell?, h]
theorem frozen_box {w : World} {b : Nat} {cs : List Value} {t : TypeId} (h : w.heap[b]? = some (.cells cs.toArray t (0, 0))) (i : Nat) : w.frozen? ⟨b, i, none⟩ = false := by
  simp [World.frozen?, h]
theorem add_lit (b o n : Nat) : (⟨b, o, none⟩ : Addr).add n = ⟨b, o + n, none⟩ := by
  unfold Addr.add
  by_cases h : n = 0 <;> simp [h]

theorem run_loadCellsFrom {P : Program} {w : World} (a : Addr) : ∀ (n i : Nat) (acc : Array Value) (vs : List Value), vs.length = n → (∀ j, j < n → w.cell? (a.add (i + j)) = vs[j]?) →
    (loadCellsFrom a i n acc).run P w = .ok (acc ++ vs.toArray) w
  | 0, i, acc, vs, hl, h => by
    have : vs = [] := List.eq_nil_of_length_eq_zero hl
    subst this
    simp [loadCellsFrom, Sem.run_pure]
  | n + 1, i, acc, vs, hl, h => by
    cases vs with
    | nil => simp at hl
    | cons v vs =>
      have h0 := h 0 (by omega)
      simp only [Nat.add_zero, List.getElem?_cons_zero] at h0
      have ih := run_loadCellsFrom (P := P) (w := w) a n (i + 1) (acc.push v) vs (by simpa using hl) (fun j hj => by
        have := h (j + 1) (by omega)
        rw [show i + 1 + j = i + (j + 1) by omega]
        simpa using this)
      have hload : (load (a.add i)).run P w = .ok v w := by simp [load, Sem.run, h0]
      simp only [loadCellsFrom, Sem.run_bind, hload, Result.andThen_ok]
      rw [ih]
      simp

theorem run_isAgg {P : Program} {w : World} {t : TypeId} {b : Bool} (h : aggOf P t = some b) : (isAgg t).run P w = .ok b w := by
  unfold aggOf at h
  unfold isAgg
  cases hu : P.underlying t with
  | none => simp [hu] at h
  | some d =>
    rw [Sem.run_bind, run_underlying hu w]
    simp only [hu] at h
    cases d <;> simp_all [Sem.run_pure]

theorem run_sizeOf {P : Program} {w : World} {t : TypeId} {i : TypeInfo} (h : P.info? t = some i) : (sizeOf t).run P w = .ok i.size w := by
  simp [sizeOf, typeInfo, h]

/-- a load that finds its cells -/
theorem run_loadVar_cells {P : Program} {w : World} {t : TypeId} {a : Addr} {v : Value} {b : Bool} (hb : aggOf P t = some b)
    (h : (b = true ∧ ∃ (i : TypeInfo) (vs : List Value), P.info? t = some i ∧ vs.length = i.size ∧ v = .agg vs.toArray ∧ ∀ j, j < i.size → w.cell? (a.add j) = vs[j]?) ∨ (b = false ∧ w.cell? a = some v)) :
    (loadVar t a).run P w = .ok v w := by
  unfold loadVar
  rw [Sem.run_bind, run_isAgg hb]
  rcases h with ⟨rfl, i, vs, hi, hl, rfl, hc⟩ | ⟨rfl, hc⟩
  · simp only [Result.andThen_ok, if_true, Sem.run_bind, run_sizeOf hi, loadCells]
    rw [run_loadCellsFrom a i.size 0 #[] vs hl (by simpa using hc)]
    simp [Sem.run_pure]
  · simp [load, Sem.run, hc]

theorem loadOf_run {P : Program} {w : World} {b : Nat} {t ty : TypeId} {cs : List Value} {off : Nat} {v : Value} (hb : w.heap[b]? = some (.cells cs.toArray ty (0, 0))) (h : loadOf P t cs off = some v) :
    (loadVar t ⟨b, off, none⟩).run P w = .ok v w := by
  unfold loadOf at h
  split at h
  · rename_i hg
    split at h
    · rename_i i hi
      split at h
      · rename_i hle
        simp only [Option.some.injEq] at h
        subst h
        refine run_loadVar_cells hg (.inl ⟨rfl, i, _, hi, ?_, rfl, fun j hj => ?_⟩)
        · simp; omega
        · rw [add_lit, cell_box hb]
          simp [List.getElem?_take, hj]
      · cases h
    · cases h
  · rename_i hg
    exact run_loadVar_cells hg (.inr ⟨rfl, by rw [cell_box hb]; exact h⟩)
  · cases h

theorem setCell_heap_ne {w : World} {a : Addr} {u : Value} {k : Nat} (h : k ≠ a.block) : (w.setCell a u).heap[k]? = w.heap[k]? := Below.heap_setCell w a u k h
theorem setCell_heap_box {w : World} {b i : Nat} {u : Value} {cs : List Value} {t : TypeId} (h : w.heap[b]? = some (.cells cs.toArray t (0, 0))) :
    (w.setCell ⟨b, i, none⟩ u).heap[b]? = some (.cells (cs.set i u).toArray t (0, 0)) := by
  simp [World.setCell, Array.getElem?_modify, h]

/-- cells stored one behind the other into a box -/
theorem run_storeCells_box {P : Program} {b off : Nat} {t : TypeId} : ∀ (vs : List Value) (w : World) (i : Nat) (cs : List Value), w.heap[b]? = some (.cells cs.toArray t (0, 0)) →
    vs.all isCell = true → off + i + vs.length ≤ cs.length →
    ∃ w', (storeCells ⟨b, off, none⟩ vs i).run P w = .ok () w' ∧ w'.heap[b]? = some (.cells (setCells cs (off + i) vs).toArray t (0, 0)) ∧ w'.heap.size = w.heap.size ∧ w'.os = w.os ∧ w'.tape = w.tape ∧ w'.output = w.output ∧
      ∀ k, k ≠ b → w'.heap[k]? = w.heap[k]?
  | [], w, i, cs, h, _, _ => ⟨w, by simp [storeCells, Sem.run_pure], h, rfl, rfl, rfl, rfl, fun _ _ => rfl⟩
  | v :: vs, w, i, cs, h, ha, hl => by
    simp only [List.all_cons, Bool.and_eq_true] at ha
    simp only [List.length_cons] at hl
    have h1 := setCell_heap_box (i := off + i) (u := v) h
    obtain ⟨w', hr, hb, hs, ho, ht, hout, hk⟩ := run_storeCells_box (P := P) (off := off) vs (w.setCell ⟨b, off + i, none⟩ v) (i + 1) (cs.set (off + i) v) h1 ha.2 (by rw [List.length_set]; omega)
    refine ⟨w', ?_, by simpa [setCells, Nat.add_assoc] using hb, by rw [hs]; simp [World.setCell], ho, ht, hout, fun k hne => (hk k hne).trans (setCell_heap_ne hne)⟩
    have hst : (store ((⟨b, off, none⟩ : Addr).add i) v).run P w = .ok () (w.setCell ⟨b, off + i, none⟩ v) := by
      rw [add_lit]
      have hc : w.cell? ⟨b, off + i, none⟩ = some (cs[off + i]'(by omega)) := by rw [cell_box h]; exact List.getElem?_eq_getElem (by omega)
      have hf := frozen_box h (off + i)
      cases v <;> simp_all [store, Sem.run, isCell]
    simp only [storeCells, Sem.run_bind, hst, Result.andThen_ok]
    exact hr

theorem storeOf_run {P : Program} {w : World} {b : Nat} {t ty : TypeId} {cs cs' : List Value} {off : Nat} {v : Value} (hb : w.heap[b]? = some (.cells cs.toArray ty (0, 0))) (h : storeOf P t cs off v = some cs') :
    ∃ w', (storeVar t ⟨b, off, none⟩ v).run P w = .ok () w' ∧ w'.heap[b]? = some (.cells cs'.toArray ty (0, 0)) ∧ w'.heap.size = w.heap.size ∧ w'.os = w.os ∧ w'.tape = w.tape ∧ w'.output = w.output ∧
      ∀ k, k ≠ b → w'.heap[k]? = w.heap[k]? := by
  unfold storeOf at h
  split at h
  · rename_i i hi
    split at h
    · rename_i hc
      simp only [Option.some.injEq] at h
      subst h
      obtain ⟨w', hr, h2⟩ := run_storeCells_box (P := P) (off := off) v.cells.toList w 0 cs hb hc.2.2 (by simp; omega)
      refine ⟨w', ?_, by simpa using h2⟩
      unfold storeVar
      rw [Sem.run_bind, run_sizeOf hi]
      simp only [Result.andThen_ok, hc.1]
      simpa using hr
    · cases h
  · cases h

theorem run_box {P : Program} {w : World} (t : TypeId) (v : Value) : (Instr.box t v).run P w = .ok (.pointer (some ⟨w.heap.size, 0, none⟩)) (w.alloc (.cells v.cells t)) := by
  rfl

theorem run_alloc {P : Program} {w : World} (t : TypeId) (v : Value) (h : (P.info? t).bind (·.zero) = some v) : (Instr.alloc t true (.tuple #[])).run P w = .ok (.pointer (some ⟨w.heap.size, 0, none⟩)) (w.alloc (.cells v.cells t)) := by
  obtain ⟨i, hi, hz⟩ := Option.bind_eq_some_iff.1 h
  have hz' : (zeroValue t).run P w = .ok v w := by simp [zeroValue, typeInfo, hi, hz]
  unfold Instr.alloc
  rw [Sem.run_bind, hz']
  rfl

theorem fieldOff_run {P : Program} {s : TypeId} {f k : Nat} (h : fieldOff P s f = some k) (a : Addr) (w : World) : (Instr.fieldAt s (.pointer (some a)) f).run P w = .ok (.pointer (some (a.add k))) w := by
  unfold fieldOff at h
  split at h
  · rename_i fields hu
    split at h
    · rename_i fd hf
      split at h
      · rename_i i hi
        split at h
        · cases h
        · rename_i hne
          simp only [Option.some.injEq] at h
          subst h
          unfold Instr.fieldAt
          rw [Sem.run_bind, run_underlying hu w]
          simp only [Result.andThen_ok, hf, Instr.sureAddr, Sem.run_bind, Sem.run_pure]
          unfold fieldPlace
          rw [Sem.run_bind, run_sizeOf hi]
          simp [hne, Sem.run_pure]
      · cases h
    · cases h
  · cases h

/-! ### One step -/
theorem add_add (a : Addr) (i j : Nat) : (a.add i).add j = a.add (i + j) := by
  unfold Addr.add
  by_cases hi : i = 0 <;> by_cases hj : j = 0 <;> simp [hi, hj, Nat.add_assoc]

theorem Mem.box {W : World} {S0 : List Nat} {L : Bx} {C : List Ass} {bs : List Nat} {fps : List (List Nat)} {w : World} (h : Mem W S0 L C bs fps w) (t : TypeId) (cs : List Value) :
    Mem W S0 (L ++ [(t, cs)]) C (bs ++ [w.heap.size]) fps (w.alloc (.cells cs.toArray t)) := by
  have hold : ∀ k, k < w.heap.size → (w.alloc (.cells cs.toArray t)).heap[k]? = w.heap[k]? := fun k hk => Below.heap_alloc _ _ _ hk
  have hb := boxes.lt h.bx
  have hc := holds.lt h.ch
  refine ⟨h.fr.trans' (Fr.alloc w _) (by simp), boxes.snoc (by exact heap_alloc_new w _) (boxes.st h.bx fun b hm => hold b (hb b hm)), holds.st h.ch fun b hm => hold b (hc b hm), ?_, ?_⟩
  · rw [List.append_assoc]
    refine (List.Perm.nodup_iff ?_).2 (List.nodup_cons.2 ⟨fun hm => ?_, h.nd⟩ : (w.heap.size :: (bs ++ fps.flatten)).Nodup)
    · exact List.perm_middle (a := w.heap.size) (l₁ := bs) (l₂ := fps.flatten)
    · rcases List.mem_append.1 hm with h1 | h1
      · have := hb _ h1; omega
      · have := hc _ h1; omega
  · intro b hm hlt
    rw [List.append_assoc] at hm
    rcases List.mem_append.1 hm with h1 | h1
    · exact h.new b (List.mem_append.2 (.inl h1)) hlt
    · rcases List.mem_cons.1 (show b ∈ w.heap.size :: fps.flatten from h1) with rfl | h2
      · have := h.fr.size; omega
      · exact h.new b (List.mem_append.2 (.inr h2)) hlt

theorem boxes.set {w w' : World} {b : Nat} {t : TypeId} {cs cs' : List Value} (hn : w'.heap[b]? = some (.cells cs'.toArray t (0, 0))) (ho : ∀ k, k ≠ b → w'.heap[k]? = w.heap[k]?) :
    ∀ {L : Bx} {bs : List Nat} {i : Nat}, boxes w L bs → bs.Nodup → L[i]? = some (t, cs) → bs[i]? = some b → boxes w' (setAt L i cs') bs
  | (u, us) :: L, c :: bs, 0, h, hnd, hl, hb => by
    simp at hl hb
    obtain ⟨rfl, rfl⟩ := hl
    subst hb
    exact ⟨hn, boxes.st h.2 fun k hk => ho k (fun e => by subst e; exact (List.nodup_cons.1 hnd).1 hk)⟩
  | (u, us) :: L, c :: bs, i + 1, h, hnd, hl, hb => by
    simp at hl hb
    refine ⟨(ho c (fun e => ?_)).trans h.1, boxes.set hn ho h.2 (List.nodup_cons.1 hnd).2 hl hb⟩
    subst e
    exact (List.nodup_cons.1 hnd).1 (List.mem_of_getElem? hb)
  | [], [], _, _, _, hl, _ => by simp at hl
  | [], _ :: _, _, h, _, _, _ => h.elim
  | _ :: _, [], _, h, _, _, _ => h.elim

theorem setAt_length : ∀ (L : Bx) (i : Nat) (cs : List Value), (setAt L i cs).length = L.length
  | [], _, _ => rfl
  | (_, _) :: _, 0, _ => rfl
  | (_, _) :: L, i + 1, cs => by simp [setAt, setAt_length L i cs]

theorem Mem.store {W : World} {S0 : List Nat} {L : Bx} {C : List Ass} {bs : List Nat} {fps : List (List Nat)} {w w' : World} (h : Mem W S0 L C bs fps w) {i b : Nat} {t : TypeId} {cs cs' : List Value}
    (hl : L[i]? = some (t, cs)) (hb : bs[i]? = some b) (hn : w'.heap[b]? = some (.cells cs'.toArray t (0, 0))) (hs : w'.heap.size = w.heap.size) (h1 : w'.os = w.os) (h2 : w'.tape = w.tape) (h3 : w'.output = w.output)
    (ho : ∀ k, k ≠ b → w'.heap[k]? = w.heap[k]?) : Mem W S0 (setAt L i cs') C bs fps w' := by
  have hm : b ∈ bs := List.mem_of_getElem? hb
  have hnd := List.nodup_append.1 h.nd
  refine ⟨h.fr.trans' (S' := [b]) ⟨h1, h2, h3, by omega, fun k _ hk => ho k (by simpa using hk)⟩ ?_, boxes.set hn ho h.bx hnd.1 hl hb, holds.st h.ch fun k hk => ho k (fun e => ?_), h.nd, h.new⟩
  · intro x hx hlt
    simp only [List.mem_singleton] at hx
    subst hx
    exact h.new x (List.mem_append.2 (.inl hm)) hlt
  · subst e
    exact hnd.2.2 k hm k hk rfl

/-- the frame and the memory behind one operation; what the operation comes to -/
theorem go1_ok {P : Program} {N : Nat} {T T' : Tm} {L L' : Bx} {o : Oper} (h : go1 P N T L o = some (T', L')) {W : World} {S0 : List Nat} {C : List Ass} {bs : List Nat} {fps : List (List Nat)} {a : Act} {w : World}
    (ht : Tms N T bs a) (hbd : bounded L.length T) (hm : Mem W S0 L C bs fps w) :
    ∃ r v w' bs', (execOp a.eval o).run P w = .ok r w' ∧ (r = .value v ∨ r = .skip ∧ v = undef) ∧ Tms N T' bs' (a.put o.dst v) ∧ bounded L'.length T' ∧ Mem W S0 L' C bs' fps w' := by
  have hlen := boxes_len hm.bx
  have pure_case : ∀ l, opnds o.op = some l → l.all (fun x => (evv T x).isSome) = true → ∀ v, pureOf P (execOp (evw T) o) = some (.value v) → put N T o.dst (.v v) = some T' → L = L' →
      ∃ r v w' bs', (execOp a.eval o).run P w = .ok r w' ∧ (r = .value v ∨ r = .skip ∧ v = undef) ∧ Tms N T' bs' (a.put o.dst v) ∧ bounded L'.length T' ∧ Mem W S0 L' C bs' fps w' := by
    intro l hl hall v hp hput hLL
    subst hLL
    have hc : execOp a.eval o = execOp (evw T) o := exec_congr o l hl _ _ fun x hx => by
      have := List.all_eq_true.1 hall x hx
      cases hv : evv T x with
      | none => simp [hv] at this
      | some y => rw [ht.evv hv]; simp [evw, hv]
    exact ⟨_, v, w, bs, by rw [hc]; exact pureOf_run _ hp w, .inl rfl, ht.put hput rfl, hbd.put (by intro i off he; cases he) hput, hm⟩
  obtain ⟨dst, op, ty, pos, after, guard⟩ := o
  have rest : ∀ l, opnds op = some l → (if l.all (fun x => (evv T x).isSome) then
        match pureOf P (execOp (evw T) ⟨dst, op, ty, pos, after, guard⟩) with
        | some (.value v) => (put N T dst (.v v)).map (·, L)
        | _ => none
      else none) = some (T', L') →
      ∃ r v w' bs', (execOp a.eval ⟨dst, op, ty, pos, after, guard⟩).run P w = .ok r w' ∧ (r = .value v ∨ r = .skip ∧ v = undef) ∧ Tms N T' bs' (a.put dst v) ∧ bounded L'.length T' ∧ Mem W S0 L' C bs' fps w' := by
    intro l hl h
    split at h
    · rename_i hall
      split at h
      · rename_i v hp
        obtain ⟨T1, hput, he⟩ := Option.map_eq_some_iff.1 h
        simp only [Prod.mk.injEq] at he
        obtain ⟨rfl, rfl⟩ := he
        exact pure_case l hl hall v hp hput rfl
      · cases h
    · cases h
  have mover : ∀ x s, evo T x = some s → put N T dst s = some T' → L = L' → ∃ v bs', a.eval x = v ∧ Tms N T' bs' (a.put dst v) ∧ bounded L'.length T' ∧ Mem W S0 L' C bs' fps w := by
    rintro x s hx hput rfl
    refine ⟨_, bs, ht.evo hx, ht.put hput rfl, hbd.put ?_ hput, hm⟩
    rintro i off rfl
    exact hbd.evo hx
  cases op with
  | move x =>
    simp only [go1] at h
    obtain ⟨s, hs, h⟩ := Option.bind_eq_some_iff.1 h
    obtain ⟨T1, hput, he⟩ := Option.map_eq_some_iff.1 h
    simp only [Prod.mk.injEq] at he
    obtain ⟨rfl, rfl⟩ := he
    obtain ⟨v, bs', hv, h1, h2, h3⟩ := mover x s hs hput rfl
    exact ⟨.value v, v, w, bs', by simp [execOp, Sem.run_pure, hv], .inl rfl, h1, h2, h3⟩
  | assign x =>
    simp only [go1] at h
    obtain ⟨s, hs, h⟩ := Option.bind_eq_some_iff.1 h
    obtain ⟨T1, hput, he⟩ := Option.map_eq_some_iff.1 h
    simp only [Prod.mk.injEq] at he
    obtain ⟨rfl, rfl⟩ := he
    obtain ⟨v, bs', hv, h1, h2, h3⟩ := mover x s hs hput rfl
    exact ⟨.value v, v, w, bs', by simp [execOp, Sem.run_pure, hv], .inl rfl, h1, h2, h3⟩
  | fieldAddr s x f =>
    simp only [go1] at h
    split at h
    · rename_i i off k hx hf
      obtain ⟨T1, hput, he⟩ := Option.map_eq_some_iff.1 h
      simp only [Prod.mk.injEq] at he
      obtain ⟨rfl, rfl⟩ := he
      have hev := ht.evo hx
      refine ⟨.value (den bs (.p i (off + k))), _, w, bs, ?_, .inl rfl, ht.put hput rfl, hbd.put ?_ hput, hm⟩
      · simp only [execOp, hev, den, Sem.run_bind, fieldOff_run hf, Result.andThen_ok, Sem.run_pure, add_lit]
      · intro j o' he; injection he with h1 h2; subst h1; exact hbd.evo hx
    · rename_i a' c off k hx hf
      obtain ⟨T1, hput, he⟩ := Option.map_eq_some_iff.1 h
      simp only [Prod.mk.injEq] at he
      obtain ⟨rfl, rfl⟩ := he
      have hev := ht.evo hx
      refine ⟨.value (den bs (.e a' c (off + k))), _, w, bs, ?_, .inl rfl, ht.put hput rfl, hbd.put (by intro i o' he; cases he) hput, hm⟩
      simp only [execOp, hev, den, Sem.run_bind, fieldOff_run hf, Result.andThen_ok, Sem.run_pure, add_add, Nat.add_assoc]
    · cases h
  | nilCheck x =>
    simp only [go1] at h
    split at h
    · rename_i i off hx
      obtain ⟨T1, hput, he⟩ := Option.map_eq_some_iff.1 h
      simp only [Prod.mk.injEq] at he
      obtain ⟨rfl, rfl⟩ := he
      have hev := ht.evo hx
      refine ⟨.value (den bs (.p i off)), _, w, bs, ?_, .inl rfl, ht.put hput rfl, hbd.put ?_ hput, hm⟩
      · simp [execOp, hev, den, Sem.run_pure]
      · intro j o' he; injection he with h1 h2; subst h1; exact hbd.evo hx
    · rename_i a' c off hx
      obtain ⟨T1, hput, he⟩ := Option.map_eq_some_iff.1 h
      simp only [Prod.mk.injEq] at he
      obtain ⟨rfl, rfl⟩ := he
      have hev := ht.evo hx
      refine ⟨.value (den bs (.e a' c off)), _, w, bs, ?_, .inl rfl, ht.put hput rfl, hbd.put ?_ hput, hm⟩
      · simp [execOp, hev, den, Sem.run_pure]
      · intro j o' he; cases he
    · cases h
  | load t x =>
    simp only [go1] at h
    split at h
    · rename_i i off hx
      split at h
      · rename_i b hb
        obtain ⟨v, hv, h⟩ := Option.bind_eq_some_iff.1 h
        obtain ⟨T1, hput, he⟩ := Option.map_eq_some_iff.1 h
        simp only [Prod.mk.injEq] at he
        obtain ⟨rfl, rfl⟩ := he
        obtain ⟨bt, bcs⟩ := b
        obtain ⟨bk, hbk, hheap⟩ := boxes.at hm.bx hb
        have hev := ht.evo hx
        have hd : den bs (.p i off) = .pointer (some ⟨bk, off, none⟩) := by simp [den, hbk]
        refine ⟨.value v, v, w, bs, ?_, .inl rfl, ht.put hput rfl, hbd.put (by intro i o' he; cases he) hput, hm⟩
        simp only [execOp, hev, hd, Instr.loadAt, Instr.sureAddr, Sem.run_bind, Sem.run_pure, Result.andThen_ok, loadOf_run hheap hv]
      · cases h
    · cases h
  | store t x y =>
    simp only [go1] at h
    split at h
    · rename_i i off v hx hy
      split at h
      · rename_i b hb
        obtain ⟨cs, hv, h⟩ := Option.bind_eq_some_iff.1 h
        obtain ⟨T1, hput, he⟩ := Option.map_eq_some_iff.1 h
        simp only [Prod.mk.injEq] at he
        obtain ⟨rfl, rfl⟩ := he
        obtain ⟨bt, bcs⟩ := b
        obtain ⟨bk, hbk, hheap⟩ := boxes.at hm.bx hb
        have hev := ht.evo hx
        have hyv := ht.evv hy
        have hd : den bs (.p i off) = .pointer (some ⟨bk, off, none⟩) := by simp [den, hbk]
        obtain ⟨w', hrun, hn, hs, h1, h2, h3, ho⟩ := storeOf_run (P := P) hheap hv
        refine ⟨.skip, undef, w', bs, ?_, .inr ⟨rfl, rfl⟩, ht.put hput rfl, ?_, hm.store hb hbk hn hs h1 h2 h3 ho⟩
        · simp only [execOp, hev, hd, hyv, Instr.storeAt, Instr.sureAddr, Sem.run_bind, Sem.run_pure, Result.andThen_ok, hrun]
        · rw [setAt_length]
          exact hbd.put (by intro i o' he; cases he) hput
      · cases h
    · cases h
  | box t x =>
    simp only [go1] at h
    split at h
    · rename_i v hx
      obtain ⟨T1, hput, he⟩ := Option.map_eq_some_iff.1 h
      simp only [Prod.mk.injEq] at he
      obtain ⟨rfl, rfl⟩ := he
      have hev := ht.evv hx
      have ht' : Tms N T (bs ++ [w.heap.size]) a := ⟨ht.1, ht.2.1, fun i y hy => by
        rw [den_snoc bs _ hlen y (fun j off he => hbd.all i y hy j off he)]; exact ht.2.2 i y hy⟩
      refine ⟨.value (.pointer (some ⟨w.heap.size, 0, none⟩)), _, _, bs ++ [w.heap.size], ?_, .inl rfl, ht'.put hput ?_, ?_, hm.box t v.cells.toList⟩
      · simp only [execOp, hev, Sem.run_bind, run_box, Result.andThen_ok, Sem.run_pure, Array.toArray_toList]
      · simp [den, ← hlen]
      · rw [List.length_append]
        exact (hbd.mono (Nat.le_add_right _ _)).put (by intro j o' he; injection he with h1 h2; subst h1; simp) hput
    · cases h
  | alloc t =>
    simp only [go1] at h
    split at h
    · rename_i v hx
      obtain ⟨T1, hput, he⟩ := Option.map_eq_some_iff.1 h
      simp only [Prod.mk.injEq] at he
      obtain ⟨rfl, rfl⟩ := he
      have ht' : Tms N T (bs ++ [w.heap.size]) a := ⟨ht.1, ht.2.1, fun i y hy => by
        rw [den_snoc bs _ hlen y (fun j off he => hbd.all i y hy j off he)]; exact ht.2.2 i y hy⟩
      refine ⟨.value (.pointer (some ⟨w.heap.size, 0, none⟩)), _, _, bs ++ [w.heap.size], ?_, .inl rfl, ht'.put hput ?_, ?_, hm.box t v.cells.toList⟩
      · simp only [execOp, Sem.run_bind, run_alloc t v hx, Result.andThen_ok, Sem.run_pure, Array.toArray_toList]
      · simp [den, ← hlen]
      · rw [List.length_append]
        exact (hbd.mono (Nat.le_add_right _ _)).put (by intro j o' he; injection he with h1 h2; subst h1; simp) hput
    · cases h
  | pick c x y => exact rest _ rfl h
  | binOp b t x y z => exact rest _ rfl h
  | unOp b t x => exact rest _ rfl h
  | convert b t x => exact rest _ rfl h
  | build t parts => exact rest _ rfl h
  | field t x f => exact rest _ rfl h
  | index t x i => exact rest _ rfl h
  | extract x i => exact rest _ rfl h
  | slice t x lo hi mx => exact rest _ rfl h
  | makeFunc f first cap => exact rest _ rfl h
  | makeInterface t x => exact rest _ rfl h
  | call c => exact rest _ rfl h
  | _ => simp [go1, opnds] at h

theorem wants_ok {ops : Array Oper} {T : Tm} {o : Oper} {b : Bool} (h : wants ops T o = some b) {N : Nat} {bs : List Nat} {a : Act} (ht : Tms N T bs a) : Region.wanted o (yielded ops a.tmps) = b := by
  unfold wants at h
  unfold Region.wanted
  split at h
  · rename_i hg; simp at h; subst h; simp [hg]
  · rename_i j want hg
    simp only [hg]
    unfold yielded
    split at h
    · rename_i hd; simp at h; subst h; simp [hd]
    · rename_i d hd
      simp only [hd, Option.bind_some]
      split at h
      · rename_i b' hl
        have := ht.2.2 d _ hl
        simp at h
        subst h
        simp [this, den]
      · rename_i tt hl
        have := ht.2.2 d _ hl
        simp at h
        subst h
        simp [this, den]
      · cases h

theorem op_step {P : Program} {ops : Array Oper} {Q : Exit → Act → World → Prop} {i : Nat} {o : Oper} (hi : ops[i]? = some o) {K : Act → World → Prop} {a : Act} {w : World} :
    (if Region.wanted o (yielded ops a.tmps) then o.wp P a w K Q else K (a.put o.dst undef) w) → wpOp P ops Q i K a w := by
  intro h
  simp only [wpOp, hi]
  split
  · rename_i hw; rw [if_pos hw] at h; exact .inl h
  · rename_i hw; rw [if_neg hw] at h; exact h

/-- OPC: the first operation of those that are left -/
theorem OPC {P : Program} {N : Nat} {W : World} {S0 : List Nat} {ops : Array Oper} {Q : Exit → Act → World → Prop} {T : Tm} {L : Bx} {C : List Ass} {i : Nat} {is : List Nat} (k : OP P N W S0 ops Q i (wpOps P ops Q is) T L C) :
    OPS P N W S0 ops Q (i :: is) T L C := fun a w h => by rw [wpOps_cons]; exact k a w h

theorem step1_ok {P : Program} {N : Nat} {ops : Array Oper} {T T' : Tm} {L L' : Bx} {o : Oper} {i : Nat} (hi : ops[i]? = some o) (h : step1 P N ops T L o = some (T', L')) {W : World} {S0 : List Nat} {C : List Ass}
    {Q : Exit → Act → World → Prop} {K : Act → World → Prop} (k : G N W S0 K T' L' C) : OP P N W S0 ops Q i K T L C := by
  rintro a w ⟨bs, fps, ht, hbd, hm⟩
  refine op_step hi ?_
  unfold step1 at h
  split at h
  · rename_i hw
    rw [wants_ok hw ht, if_pos rfl]
    obtain ⟨r, v, w', bs', hrun, hr, h1, h2, h3⟩ := go1_ok h ht hbd hm
    unfold Oper.wp
    rw [hrun]
    rcases hr with rfl | ⟨rfl, rfl⟩
    · exact k _ _ ⟨bs', fps, h1, h2, h3⟩
    · exact k _ _ ⟨bs', fps, h1, h2, h3⟩
  · rename_i hw
    rw [wants_ok hw ht, if_neg (by simp)]
    obtain ⟨T1, hput, he⟩ := Option.map_eq_some_iff.1 h
    simp only [Prod.mk.injEq] at he
    obtain ⟨rfl, rfl⟩ := he
    exact k _ _ ⟨bs, fps, ht.put hput rfl, hbd.put (by intro i o' he; cases he) hput, hm⟩
  · cases h

theorem runP_ok {P : Program} {N : Nat} {ops : Array Oper} {W : World} {S0 : List Nat} {C : List Ass} {Q : Exit → Act → World → Prop} :
    ∀ (n : Nat) (is : List Nat) {T T' : Tm} {L L' : Bx}, runP P N ops n is T L = some (T', L') → OPS P N W S0 ops Q (is.drop n) T' L' C → OPS P N W S0 ops Q is T L C
  | 0, is, T, T', L, L', h, k => by simp [runP] at h; obtain ⟨rfl, rfl⟩ := h; exact k
  | n + 1, [], T, T', L, L', h, k => by simp [runP] at h
  | n + 1, i :: is, T, T', L, L', h, k => by
    simp only [runP] at h
    split at h
    · rename_i o hi
      split at h
      · rename_i T1 L1 h1
        exact OPC (step1_ok hi h1 (runP_ok n is h k))
      · cases h
    · cases h

theorem keep_ok {T : Tm} : ∀ {ks : List Nat} {T' : Tm}, keep T ks = some T' → ∀ i x, lk T' i = some x → lk T i = some x
  | [], T', h, i, x, hx => by simp [keep] at h; subst h; simp [lk] at hx
  | k :: ks, T', h, i, x, hx => by
    simp only [keep] at h
    split at h
    · rename_i y T1 hy hT
      simp only [Option.some.injEq] at h
      subst h
      simp only [lk] at hx
      by_cases hk : k = i
      · subst hk; simp at hx; subst hx; exact hy
      · have : (k == i) = false := by simpa using hk
        simp only [this, Bool.false_eq_true, if_false] at hx
        exact keep_ok hT i x hx
    · cases h

theorem keep_bounded {T : Tm} {n : Nat} (hb : bounded n T) : ∀ {ks : List Nat} {T' : Tm}, keep T ks = some T' → bounded n T'
  | [], T', h => by simp [keep] at h; subst h; trivial
  | k :: ks, T', h => by
    simp only [keep] at h
    split at h
    · rename_i y T1 hy hT
      simp only [Option.some.injEq] at h
      subst h
      have ih := keep_bounded hb hT
      cases y with
      | v _ => exact ih
      | e _ _ _ => exact ih
      | p j off => exact ⟨hb.lk hy, ih⟩
    · cases h

theorem Sat.keep {N : Nat} {W : World} {S0 : List Nat} {T T' : Tm} {L : Bx} {C : List Ass} {a : Act} {w : World} {ks : List Nat} (h : Sat N W S0 T L C a w) (hk : SX.keep T ks = some T') : Sat N W S0 T' L C a w := by
  obtain ⟨bs, fps, ht, hb, hm⟩ := h
  exact ⟨bs, fps, ⟨ht.1, ht.2.1, fun i x hx => ht.2.2 i x (keep_ok hk i x hx)⟩, keep_bounded hb hk, hm⟩

section
variable {P : Program} {N : Nat} {ops : Array Oper} {W : World} {S0 : List Nat} {C : List Ass} {Q : Exit → Act → World → Prop}
end
end SX
end Go.Proofs.YthnbaikmbgaddaaGreat
