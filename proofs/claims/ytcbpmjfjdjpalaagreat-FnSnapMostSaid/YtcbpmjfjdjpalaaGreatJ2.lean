/- Walks, printed by program. -/
import Derived.Test.YtcbpmjfjdjpalaaGreatJ1
import Derived.Test.YtcbpmjfjdjpalaaGreatMdlq
namespace Go.Proofs.YtcbpmjfjdjpalaaGreat
namespace SX
open Go Go.RowKit
set_option linter.unusedVariables false
set_option linter.unusedSimpArgs false
set_option maxRecDepth 10000
set_option maxHeartbeats 400000
theorem sQueueAt_c (W : World) (list : List Entry) (list_a : Option Addr) (list_c : Nat) (hlist : Rd entryL W list_a list) (id : Int) : Spec Tryz.prog W [] 127 #[.slice list_a list.length list_c, vi id] (RV (vi (queueAt list id 0))) := by
 refine ENTER0 (N := 20) (vs := [.slice list_a list.length list_c, vi id]) Tryz.func127 rfl rfl (NL rfl) ?_
 have hlist_len := hlist.len
 refine SEQ (RG (UU 1 [] (ENDOPS (NEXT (SEQ (SEQ (RG (UU 1 [(5, I 0)] (ENDOPS (NEXT (BLOCK (LOOP (ι := Nat × (List Entry)) (fun j => [(0, .v (.slice list_a list.length list_c)), (1, I id), (5, I (j.1 : Int))]) (fun j => []) (fun j => []) (fun j => j.1 + j.2.length = list.length ∧ list.drop j.1 = j.2 ∧ queueAt list id 0 = queueAt j.2 id j.1) (fun j => j.2.length) (0, list) [0, 1, 5] ⟨by simp, rfl, rfl⟩ (by kernel_rfl) rfl rfl ?_))))))))))))
 rintro ⟨k, ys⟩ ⟨hk, hd, hv0⟩
 try dsimp only at hk hd hv0
 refine SEQ (SEQ (RG (UU 4 [(9, B (decide ((k : Int) < (list.length : Int))))] (NI (decide ((k : Int) < (list.length : Int))) (fun bh1 => ?_) (fun bh1 => ?_)))))
 ·
  have h1 := of_decide_eq_true bh1
  obtain ⟨y2, ys3, rfl, hx_y2, hd_y2, hl_y2⟩ := drop_cons hd hk (by omega)
  refine SKIP (NEXT (SEQ (BLOCK (SEQ (RG (UU 2 [(12, .v (.slice list_a list.length list_c)), (13, I (k : Int))] (OPC (IX 55 (.tmp 12) (.tmp 13) 14 0 list_a list.length list_c .i64 (k : Int) 63 4 (Rd.some hlist (by omega)) (by omega) (by omega) (UU 1 [(15, .e list_a (k * 4) 2)] (OPC (LE 3 (.tmp 15) 16 3 list_a (k * 4) 2 (entryE y2) (vi y2.id) (fun w hw => (hlist.fr hw.fr).flat hx_y2) (UU 2 [(18, B (y2.id == id))] (NI (y2.id == id) (fun bh4 => ?_) (fun bh4 => ?_))))))))))))))
  ·
   have h4 := eq_of_beq bh4
   refine SEQ (RG (UU 2 [(4, I (k : Int))] (ENDOPS (NEXT (RF rfl (vi (k : Int)) () [] ?_ ?_)))))
   · simp_all [RV, queueAt]
   · rfl
  ·
   have h4 := ne_of_beq_false bh4
   refine SKIP (OUTN (NEXT (RG (UU 2 [(11, I (wr ((k : Int) + 1)))] (CS 11 (vi (wr ((k : Int) + 1))) (vi ((k + 1 : Nat) : Int)) (vi_cast (by omega) (by omega)) (UU 1 [(5, I ((k + 1 : Nat) : Int))] (ENDOPS (BK (k + 1, ys3) [0, 1, 5] 0 [] ⟨hl_y2, hd_y2, (hv0.trans (by simp_all [queueAt]))⟩ (by simp)))))))))
 ·
  have h1 := of_decide_eq_false bh1
  obtain rfl := drop_nil hk (by omega)
  refine EXIT (PASS trivial (PASS trivial (OUT (NEXT (SEQ (RG (UU 1 [(4, I (-1))] (ENDOPS (NEXT (RF rfl (vi (-1)) () [] ?_ ?_))))))))))
  · simp_all [RV, queueAt]
  · rfl

theorem sQueueOk_c (W : World) (list : List Entry) (list_a : Option Addr) (list_c : Nat) (hlist : Rd entryL W list_a list) : Spec Tryz.prog W [] 105 #[.slice list_a list.length list_c] (RV (.bool (queueOk list))) := by
 refine ENTER0 (N := 60) (vs := [.slice list_a list.length list_c]) Tryz.func105 rfl rfl (NL rfl) ?_
 have hlist_len := hlist.len
 refine SEQ (RG (UU 1 [] (ENDOPS (NEXT (SEQ (SEQ (RG (UU 3 [(7, B (decide ((list.length : Int) > 10)))] (NI (decide ((list.length : Int) > 10)) (fun bh1 => ?_) (fun bh1 => ?_))))))))))
 ·
  have h1 := of_decide_eq_true bh1
  refine SEQ (RG (UU 1 [(2, B false)] (ENDOPS (NEXT (RF rfl (.bool false) () [] ?_ ?_)))))
  · (first | (exact congrArg Value.bool (queueOk_t ⟨by omega, fun i e he => hv0 i e (by have := (List.getElem?_eq_some_iff.1 he).1; omega) he⟩).symm) | (refine congrArg Value.bool (queueOk_f fun hw9 => ?_).symm; obtain ⟨w1, w2⟩ := hw9; first | omega))
  · rfl
 ·
  have h1 := of_decide_eq_false bh1
  refine SKIP (NEXT (SEQ (SEQ (RG (UU 1 [(3, I 0)] (ENDOPS (NEXT (BLOCK (LOOP (ι := Nat × (List Entry)) (fun j => [(0, .v (.slice list_a list.length list_c)), (3, I (j.1 : Int))]) (fun j => []) (fun j => []) (fun j => j.1 + j.2.length = list.length ∧ list.drop j.1 = j.2 ∧ (∀ (i : Nat) (e : Entry), i < j.1 → list[i]? = some e → EntryR e ∧ (0 < i → ∀ y, list[i - 1]? = some y → entryLess y e = true) ∧ ∀ (j : Nat) (y : Entry), j < i → list[j]? = some y → y.id ≠ e.id)) (fun j => j.2.length) (0, list) [0, 3] ⟨by simp, rfl, fun i e hi => absurd hi (Nat.not_lt_zero _)⟩ (by kernel_rfl) rfl rfl ?_)))))))))
  rintro ⟨k, ys⟩ ⟨hk, hd, hv0⟩
  try dsimp only at hk hd hv0
  refine SEQ (SEQ (RG (UU 4 [(11, B (decide ((k : Int) < (list.length : Int))))] (NI (decide ((k : Int) < (list.length : Int))) (fun bh2 => ?_) (fun bh2 => ?_)))))
  ·
   have h2 := of_decide_eq_true bh2
   obtain ⟨y3, ys4, rfl, hx_y3, hd_y3, hl_y3⟩ := drop_cons hd hk (by omega)
   refine SKIP (NEXT (SEQ (BLOCK (SEQ (RG (UU 2 [(14, .v (.slice list_a list.length list_c)), (15, I (k : Int))] (OPC (IX 55 (.tmp 14) (.tmp 15) 16 0 list_a list.length list_c .i64 (k : Int) 63 4 (Rd.some hlist (by omega)) (by omega) (by omega) (OPC (LE 63 (.tmp 16) 17 63 list_a (k * 4) 0 (entryE y3) (.agg (entryE y3).toArray) (fun w hw => (hlist.fr hw.fr).flat hx_y3) (UL 2 [(4, .p 0 0)] [(63, entryE y3)] (ENDOPS (NEXT (SEQ (SEQ (RG (UU 2 [(19, I y3.level)] (OPC (CA 37 #[vi y3.level, vi 0, vi 4] (some 20) (RV (.bool (inB y3.level 0 4))) (fun w hw => l1In_c w y3.level 0 4) ?_)))))))))))))))))))
   rintro ⟨⟩
   refine UU 2 [(22, B (!(inB y3.level 0 4)))] (SP 22 (!(inB y3.level 0 4)) (fun bh5 => ?_) (fun bh5 => ?_))
   ·
    have h5 := notT bh5
    refine UU 17 [(39, B true)] (ENDOPS (NEXT (IFT (by kernel_rfl) (SEQ (RG (UU 1 [(2, B false)] (ENDOPS (NEXT (RF rfl (.bool false) () [] ?_ ?_)))))))))
    · (first | (exact congrArg Value.bool (queueOk_t ⟨by omega, fun i e he => hv0 i e (by have := (List.getElem?_eq_some_iff.1 he).1; omega) he⟩).symm) | (refine congrArg Value.bool (queueOk_f fun hw9 => ?_).symm; obtain ⟨w1, w2⟩ := hw9; first | omega | (exact Exists.elim (queueAt_t (l := list) (k := k) (id := y3.id) (by assumption)) fun j9 h9 => Exists.elim h9 fun e9 h9 => (w2 k _ hx_y3).2.2 j9 e9 h9.1 h9.2.1 h9.2.2) | (have w6 := (queueAt_at hx_y3).2 (w2 k _ hx_y3).2.2; omega) | (have w6 := (w2 k _ hx_y3).1; simp only [EntryR] at w6; simp_all; done)))
    · rfl
   ·
    have h5 := notF bh5
    refine UU 2 [(24, I y3.turn)] (OPC (CA 37 #[vi y3.turn, vi 1, vi 1000000] (some 25) (RV (.bool (inB y3.turn 1 1000000))) (fun w hw => l1In_c w y3.turn 1 1000000) ?_))
    rintro ⟨⟩
    refine UU 3 [(28, B (!(inB y3.turn 1 1000000)))] (SP 28 (!(inB y3.turn 1 1000000)) (fun bh6 => ?_) (fun bh6 => ?_))
    ·
     have h6 := notT bh6
     refine UU 11 [(39, B true)] (ENDOPS (NEXT (IFT (by kernel_rfl) (SEQ (RG (UU 1 [(2, B false)] (ENDOPS (NEXT (RF rfl (.bool false) () [] ?_ ?_)))))))))
     · (first | (exact congrArg Value.bool (queueOk_t ⟨by omega, fun i e he => hv0 i e (by have := (List.getElem?_eq_some_iff.1 he).1; omega) he⟩).symm) | (refine congrArg Value.bool (queueOk_f fun hw9 => ?_).symm; obtain ⟨w1, w2⟩ := hw9; first | omega | (exact Exists.elim (queueAt_t (l := list) (k := k) (id := y3.id) (by assumption)) fun j9 h9 => Exists.elim h9 fun e9 h9 => (w2 k _ hx_y3).2.2 j9 e9 h9.1 h9.2.1 h9.2.2) | (have w6 := (queueAt_at hx_y3).2 (w2 k _ hx_y3).2.2; omega) | (have w6 := (w2 k _ hx_y3).1; simp only [EntryR] at w6; simp_all; done)))
     · rfl
    ·
     have h6 := notF bh6
     refine UU 2 [(30, I y3.id)] (OPC (CA 37 #[vi y3.id, vi 1, vi 999] (some 31) (RV (.bool (inB y3.id 1 999))) (fun w hw => l1In_c w y3.id 1 999) ?_))
     rintro ⟨⟩
     refine UU 3 [(34, B (!(inB y3.id 1 999)))] (SP 34 (!(inB y3.id 1 999)) (fun bh7 => ?_) (fun bh7 => ?_))
     ·
      have h7 := notT bh7
      refine UU 5 [(39, B true)] (ENDOPS (NEXT (IFT (by kernel_rfl) (SEQ (RG (UU 1 [(2, B false)] (ENDOPS (NEXT (RF rfl (.bool false) () [] ?_ ?_)))))))))
      · (first | (exact congrArg Value.bool (queueOk_t ⟨by omega, fun i e he => hv0 i e (by have := (List.getElem?_eq_some_iff.1 he).1; omega) he⟩).symm) | (refine congrArg Value.bool (queueOk_f fun hw9 => ?_).symm; obtain ⟨w1, w2⟩ := hw9; first | omega | (exact Exists.elim (queueAt_t (l := list) (k := k) (id := y3.id) (by assumption)) fun j9 h9 => Exists.elim h9 fun e9 h9 => (w2 k _ hx_y3).2.2 j9 e9 h9.1 h9.2.1 h9.2.2) | (have w6 := (queueAt_at hx_y3).2 (w2 k _ hx_y3).2.2; omega) | (have w6 := (w2 k _ hx_y3).1; simp only [EntryR] at w6; simp_all; done)))
      · rfl
     ·
      have h7 := notF bh7
      refine UU 2 [(36, I y3.size)] (OPC (CA 37 #[vi y3.size, vi 1, vi 6] (some 37) (RV (.bool (inB y3.size 1 6))) (fun w hw => l1In_c w y3.size 1 6) ?_))
      rintro ⟨⟩
      refine UU 2 [(39, B (!(inB y3.size 1 6)))] (NI (!(inB y3.size 1 6)) (fun bh8 => ?_) (fun bh8 => ?_))
      ·
       have h8 := notT bh8
       refine SEQ (RG (UU 1 [(2, B false)] (ENDOPS (NEXT (RF rfl (.bool false) () [] ?_ ?_)))))
       · (first | (exact congrArg Value.bool (queueOk_t ⟨by omega, fun i e he => hv0 i e (by have := (List.getElem?_eq_some_iff.1 he).1; omega) he⟩).symm) | (refine congrArg Value.bool (queueOk_f fun hw9 => ?_).symm; obtain ⟨w1, w2⟩ := hw9; first | omega | (exact Exists.elim (queueAt_t (l := list) (k := k) (id := y3.id) (by assumption)) fun j9 h9 => Exists.elim h9 fun e9 h9 => (w2 k _ hx_y3).2.2 j9 e9 h9.1 h9.2.1 h9.2.2) | (have w6 := (queueAt_at hx_y3).2 (w2 k _ hx_y3).2.2; omega) | (have w6 := (w2 k _ hx_y3).1; simp only [EntryR] at w6; simp_all; done)))
       · rfl
      ·
       have h8 := notF bh8
       refine SKIP (NEXT (SEQ (REGIONQ (by kernel_rfl) (by kernel_rfl) (QU 3 [(42, B (decide ((k : Int) > 0)))] (QSP 42 (decide ((k : Int) > 0)) (fun bh9 => ?_) (fun bh9 => ?_))))))
       ·
        have h9 := of_decide_eq_true bh9
        refine QU 3 [(43, .v (.slice list_a list.length list_c)), (45, I (wr ((k : Int) - 1)))] (QCAST (d := 45) (vi (wr ((k : Int) - 1))) (vi ((k - 1 : Nat) : Int)) (by kernel_rfl) (vi_cast (by omega) (by omega)) ?_)
        obtain ⟨x10, hx11⟩ : ∃ y, list[k - 1]? = some y := ⟨_, List.getElem?_eq_getElem (by omega)⟩
        refine QIX 55 (.tmp 43) (.tmp 45) 46 0 list_a list.length list_c .i64 ((k - 1 : Nat) : Int) 63 4 (Rd.some hlist (by omega)) (by omega) (by omega) (QLE 63 (.tmp 46) 47 63 list_a ((k - 1) * 4) 0 (entryE x10) (.agg (entryE x10).toArray) (fun w hw => (hlist.fr hw.fr).flat hx11) (QU 1 [(48, .v (.agg (entryE y3).toArray))] (QCA 126 #[.agg #[vi x10.level, vi x10.turn, vi x10.id, vi x10.size], .agg #[vi y3.level, vi y3.turn, vi y3.id, vi y3.size]] (some 49) (.bool (entryLess x10 y3)) (fun w hw => entryLess_c w x10 y3) (QU 3 [(52, B (!(entryLess x10 y3)))] (QSP 52 (!(entryLess x10 y3)) (fun bh12 => ?_) (fun bh12 => ?_))))))
        ·
         have h12 := notT bh12
         refine QU 7 [(59, B true)] (QEND rfl (NEXT (IFT (by kernel_rfl) (SEQ (RG (UU 1 [(2, B false)] (ENDOPS (NEXT (RF rfl (.bool false) () [] ?_ ?_)))))))))
         · (first | (exact congrArg Value.bool (queueOk_t ⟨by omega, fun i e he => hv0 i e (by have := (List.getElem?_eq_some_iff.1 he).1; omega) he⟩).symm) | (refine congrArg Value.bool (queueOk_f fun hw9 => ?_).symm; obtain ⟨w1, w2⟩ := hw9; first | omega | (exact Exists.elim (queueAt_t (l := list) (k := k) (id := y3.id) (by assumption)) fun j9 h9 => Exists.elim h9 fun e9 h9 => (w2 k _ hx_y3).2.2 j9 e9 h9.1 h9.2.1 h9.2.2) | (have w6 := (w2 k _ hx_y3).2.1 (by omega) _ hx11; simp_all; done) | (have w6 := (queueAt_at hx_y3).2 (w2 k _ hx_y3).2.2; omega) | (have w6 := (w2 k _ hx_y3).1; simp only [EntryR] at w6; simp_all; done)))
         · rfl
        ·
         have h12 := notF bh12
         refine QU 3 [(53, .v (.slice list_a list.length list_c)), (55, I y3.id)] (QCA 127 #[.slice list_a list.length list_c, vi y3.id] (some 56) (vi (queueAt list y3.id 0)) (fun w hw => sQueueAt_c w list list_a list_c (hlist.fr hw.fr) y3.id) (QU 3 [(59, B ((queueAt list y3.id 0) != (k : Int)))] (QEND rfl (NEXT (IFK ((queueAt list y3.id 0) != (k : Int)) (fun bh13 => ?_) (fun bh13 => ?_))))))
         ·
          have h13 := bne_iff_ne.1 bh13
          refine SEQ (RG (UU 1 [(2, B false)] (ENDOPS (NEXT (RF rfl (.bool false) () [] ?_ ?_)))))
          · (first | (exact congrArg Value.bool (queueOk_t ⟨by omega, fun i e he => hv0 i e (by have := (List.getElem?_eq_some_iff.1 he).1; omega) he⟩).symm) | (refine congrArg Value.bool (queueOk_f fun hw9 => ?_).symm; obtain ⟨w1, w2⟩ := hw9; first | omega | (exact Exists.elim (queueAt_t (l := list) (k := k) (id := y3.id) (by assumption)) fun j9 h9 => Exists.elim h9 fun e9 h9 => (w2 k _ hx_y3).2.2 j9 e9 h9.1 h9.2.1 h9.2.2) | (have w6 := (w2 k _ hx_y3).2.1 (by omega) _ hx11; simp_all; done) | (have w6 := (queueAt_at hx_y3).2 (w2 k _ hx_y3).2.2; omega) | (have w6 := (w2 k _ hx_y3).1; simp only [EntryR] at w6; simp_all; done)))
          · rfl
         ·
          have h13 := bneF bh13
          refine SKIP (OUTN (NEXT (RG (UU 2 [(13, I (wr ((k : Int) + 1)))] (CS 13 (vi (wr ((k : Int) + 1))) (vi ((k + 1 : Nat) : Int)) (vi_cast (by omega) (by omega)) (UU 1 [(3, I ((k + 1 : Nat) : Int))] (ENDOPS (BK (k + 1, ys4) [0, 3] 0 [] ⟨hl_y3, hd_y3, (fun i e hi he => by by_cases h9 : i = k; (subst h9; rw [hx_y3] at he; injection he with he; subst he; exact ⟨by simp_all [EntryR], fun h0 z hz => by rw [hx11] at hz; injection hz with hz; subst hz; assumption, (queueAt_at hx_y3).1 (by first | assumption | omega)⟩); exact hv0 i e (by omega) he)⟩ (by simp)))))))))
       ·
        have h9 := of_decide_eq_false bh9
        refine QU 13 [(52, B false), (53, .v (.slice list_a list.length list_c)), (55, I y3.id)] (QCA 127 #[.slice list_a list.length list_c, vi y3.id] (some 56) (vi (queueAt list y3.id 0)) (fun w hw => sQueueAt_c w list list_a list_c (hlist.fr hw.fr) y3.id) (QU 3 [(59, B ((queueAt list y3.id 0) != (k : Int)))] (QEND rfl (NEXT (IFK ((queueAt list y3.id 0) != (k : Int)) (fun bh14 => ?_) (fun bh14 => ?_))))))
        ·
         have h14 := bne_iff_ne.1 bh14
         refine SEQ (RG (UU 1 [(2, B false)] (ENDOPS (NEXT (RF rfl (.bool false) () [] ?_ ?_)))))
         · (first | (exact congrArg Value.bool (queueOk_t ⟨by omega, fun i e he => hv0 i e (by have := (List.getElem?_eq_some_iff.1 he).1; omega) he⟩).symm) | (refine congrArg Value.bool (queueOk_f fun hw9 => ?_).symm; obtain ⟨w1, w2⟩ := hw9; first | omega | (exact Exists.elim (queueAt_t (l := list) (k := k) (id := y3.id) (by assumption)) fun j9 h9 => Exists.elim h9 fun e9 h9 => (w2 k _ hx_y3).2.2 j9 e9 h9.1 h9.2.1 h9.2.2) | (have w6 := (queueAt_at hx_y3).2 (w2 k _ hx_y3).2.2; omega) | (have w6 := (w2 k _ hx_y3).1; simp only [EntryR] at w6; simp_all; done)))
         · rfl
        ·
         have h14 := bneF bh14
         refine SKIP (OUTN (NEXT (RG (UU 2 [(13, I (wr ((k : Int) + 1)))] (CS 13 (vi (wr ((k : Int) + 1))) (vi ((k + 1 : Nat) : Int)) (vi_cast (by omega) (by omega)) (UU 1 [(3, I ((k + 1 : Nat) : Int))] (ENDOPS (BK (k + 1, ys4) [0, 3] 0 [] ⟨hl_y3, hd_y3, (fun i e hi he => by by_cases h9 : i = k; (subst h9; rw [hx_y3] at he; injection he with he; subst he; exact ⟨by simp_all [EntryR], fun h0 z hz => absurd h0 (by omega), (queueAt_at hx_y3).1 (by first | assumption | omega)⟩); exact hv0 i e (by omega) he)⟩ (by simp)))))))))
  ·
   have h2 := of_decide_eq_false bh2
   obtain rfl := drop_nil hk (by omega)
   have hkk : k = list.length := (by simpa using hk)
   refine EXIT (PASS trivial (PASS trivial (OUT (NEXT (SEQ (RG (UU 1 [(2, B true)] (ENDOPS (NEXT (RF rfl (.bool true) () [] ?_ ?_))))))))))
   · (first | (exact congrArg Value.bool (queueOk_t ⟨by omega, fun i e he => hv0 i e (by have := (List.getElem?_eq_some_iff.1 he).1; omega) he⟩).symm) | (refine congrArg Value.bool (queueOk_f fun hw9 => ?_).symm; obtain ⟨w1, w2⟩ := hw9; first | omega))
   · rfl

theorem sSameRow_c (W : World) (a : List Entry) (a_a : Option Addr) (a_c : Nat) (ha : Rd entryL W a_a a) (b : List Entry) (b_a : Option Addr) (b_c : Nat) (hb : Rd entryL W b_a b) : Spec Tryz.prog W [] 78 #[.slice a_a a.length a_c, .slice b_a b.length b_c] (RV (.bool (sameRow a b))) := by
 refine ENTER0 (N := 26) (vs := [.slice a_a a.length a_c, .slice b_a b.length b_c]) Tryz.func78 rfl rfl (NL rfl) ?_
 have ha_len := ha.len
 have hb_len := hb.len
 refine SEQ (RG (UU 1 [] (ENDOPS (NEXT (SEQ (SEQ (RG (UU 5 [(10, B ((a.length : Int) != (b.length : Int)))] (NI ((a.length : Int) != (b.length : Int)) (fun bh1 => ?_) (fun bh1 => ?_))))))))))
 ·
  have h1 := bne_iff_ne.1 bh1
  refine SEQ (RG (UU 1 [(4, B false)] (ENDOPS (NEXT (RF rfl (.bool false) () [] ?_ ?_)))))
  · simp [RV, sameRow_ne (a := a) (b := b) (by omega)]
  · rfl
 ·
  have h1 := bneF bh1
  refine SKIP (NEXT (SEQ (SEQ (RG (UU 1 [(5, I 0)] (ENDOPS (NEXT (BLOCK (LOOP (ι := Nat × (List Entry)) (fun j => [(0, .v (.slice a_a a.length a_c)), (1, .v (.slice b_a b.length b_c)), (5, I (j.1 : Int))]) (fun j => []) (fun j => []) (fun j => j.1 + j.2.length = a.length ∧ a.drop j.1 = j.2 ∧ sameRow a b = sameRow j.2 (b.drop j.1)) (fun j => j.2.length) (0, a) [0, 1, 5] ⟨by simp, rfl, rfl⟩ (by kernel_rfl) rfl rfl ?_)))))))))
  rintro ⟨k, ys⟩ ⟨hk, hd, hv0⟩
  try dsimp only at hk hd hv0
  refine SEQ (SEQ (RG (UU 4 [(14, B (decide ((k : Int) < (a.length : Int))))] (NI (decide ((k : Int) < (a.length : Int))) (fun bh2 => ?_) (fun bh2 => ?_)))))
  ·
   have h2 := of_decide_eq_true bh2
   obtain ⟨y3, ys4, rfl, hx_y3, hd_y3, hl_y3⟩ := drop_cons hd hk (by omega)
   refine SKIP (NEXT (SEQ (BLOCK (SEQ (REGIONQ (by kernel_rfl) (by kernel_rfl) (QU 2 [(17, .v (.slice a_a a.length a_c)), (18, I (k : Int))] (QIX 55 (.tmp 17) (.tmp 18) 19 0 a_a a.length a_c .i64 (k : Int) 63 4 (Rd.some ha (by omega)) (by omega) (by omega) (QLE 63 (.tmp 19) 20 63 a_a (k * 4) 0 (entryE y3) (.agg (entryE y3).toArray) (fun w hw => (ha.fr hw.fr).flat hx_y3) (QU 2 [(21, .v (.slice b_a b.length b_c)), (22, I (k : Int))] ?_)))))))))
   obtain ⟨x5, hx6⟩ : ∃ y, b[k]? = some y := ⟨_, List.getElem?_eq_getElem (by omega)⟩
   refine QIX 55 (.tmp 21) (.tmp 22) 23 0 b_a b.length b_c .i64 (k : Int) 63 4 (Rd.some hb (by omega)) (by omega) (by omega) (QLE 63 (.tmp 23) 24 63 b_a (k * 4) 0 (entryE x5) (.agg (entryE x5).toArray) (fun w hw => (hb.fr hw.fr).flat hx6) (QRUNV (.binOp .neq 63 (.tmp 20) (.tmp 24) 63) 25 4 (by kernel_rfl) (NL rfl) (.bool (!((y3.level == x5.level) && ((y3.turn == x5.turn) && ((y3.id == x5.id) && ((y3.size == x5.size) && true)))))) (runs_neq (xs := [vi y3.level, vi y3.turn, vi y3.id, vi y3.size]) (ys := [vi x5.level, vi x5.turn, vi x5.id, vi x5.size]) (r := (y3.level == x5.level) && ((y3.turn == x5.turn) && ((y3.id == x5.id) && ((y3.size == x5.size) && true)))) (by kernel_rfl) (by kernel_rfl) (by kernel_rfl)) (QEND rfl (NEXT (IFK (!((y3.level == x5.level) && ((y3.turn == x5.turn) && ((y3.id == x5.id) && ((y3.size == x5.size) && true))))) (fun bh7 => ?_) (fun bh7 => ?_))))))
   ·
    have h7 := notT bh7
    refine SEQ (RG (UU 1 [(4, B false)] (ENDOPS (NEXT (RF rfl (.bool false) () [] ?_ ?_)))))
    · simp_all [RV, hv0, drop_get ‹b[k]? = some _›, sameRow]
    · rfl
   ·
    have h7 := notF bh7
    refine SKIP (OUTN (NEXT (RG (UU 2 [(16, I (wr ((k : Int) + 1)))] (CS 16 (vi (wr ((k : Int) + 1))) (vi ((k + 1 : Nat) : Int)) (vi_cast (by omega) (by omega)) (UU 1 [(5, I ((k + 1 : Nat) : Int))] (ENDOPS (BK (k + 1, ys4) [0, 1, 5] 0 [] ⟨hl_y3, hd_y3, (hv0.trans (by simp_all [sameRow, drop_get ‹b[k]? = some _›]))⟩ (by simp)))))))))
  ·
   have h2 := of_decide_eq_false bh2
   obtain rfl := drop_nil hk (by omega)
   refine EXIT (PASS trivial (PASS trivial (OUT (NEXT (SEQ (RG (UU 1 [(4, B true)] (ENDOPS (NEXT (RF rfl (.bool true) () [] ?_ ?_))))))))))
   · simp [RV, hv0, sameRow, List.drop_eq_nil_of_le (show b.length ≤ k by simp at hk; omega)]
   · rfl

theorem sSamePins_c (W : World) (a : List Pin) (a_a : Option Addr) (a_c : Nat) (ha : Rd pinL W a_a a) (b : List Pin) (b_a : Option Addr) (b_c : Nat) (hb : Rd pinL W b_a b) : Spec Tryz.prog W [] 80 #[.slice a_a a.length a_c, .slice b_a b.length b_c] (RV (.bool (samePins a b))) := by
 refine ENTER0 (N := 26) (vs := [.slice a_a a.length a_c, .slice b_a b.length b_c]) Tryz.func80 rfl rfl (NL rfl) ?_
 have ha_len := ha.len
 have hb_len := hb.len
 refine SEQ (RG (UU 1 [] (ENDOPS (NEXT (SEQ (SEQ (RG (UU 5 [(10, B ((a.length : Int) != (b.length : Int)))] (NI ((a.length : Int) != (b.length : Int)) (fun bh1 => ?_) (fun bh1 => ?_))))))))))
 ·
  have h1 := bne_iff_ne.1 bh1
  refine SEQ (RG (UU 1 [(4, B false)] (ENDOPS (NEXT (RF rfl (.bool false) () [] ?_ ?_)))))
  · simp [RV, samePins_ne (a := a) (b := b) (by omega)]
  · rfl
 ·
  have h1 := bneF bh1
  refine SKIP (NEXT (SEQ (SEQ (RG (UU 1 [(5, I 0)] (ENDOPS (NEXT (BLOCK (LOOP (ι := Nat × (List Pin)) (fun j => [(0, .v (.slice a_a a.length a_c)), (1, .v (.slice b_a b.length b_c)), (5, I (j.1 : Int))]) (fun j => []) (fun j => []) (fun j => j.1 + j.2.length = a.length ∧ a.drop j.1 = j.2 ∧ samePins a b = samePins j.2 (b.drop j.1)) (fun j => j.2.length) (0, a) [0, 1, 5] ⟨by simp, rfl, rfl⟩ (by kernel_rfl) rfl rfl ?_)))))))))
  rintro ⟨k, ys⟩ ⟨hk, hd, hv0⟩
  try dsimp only at hk hd hv0
  refine SEQ (SEQ (RG (UU 4 [(14, B (decide ((k : Int) < (a.length : Int))))] (NI (decide ((k : Int) < (a.length : Int))) (fun bh2 => ?_) (fun bh2 => ?_)))))
  ·
   have h2 := of_decide_eq_true bh2
   obtain ⟨y3, ys4, rfl, hx_y3, hd_y3, hl_y3⟩ := drop_cons hd hk (by omega)
   refine SKIP (NEXT (SEQ (BLOCK (SEQ (REGIONQ (by kernel_rfl) (by kernel_rfl) (QU 2 [(17, .v (.slice a_a a.length a_c)), (18, I (k : Int))] (QIX 99 (.tmp 17) (.tmp 18) 19 0 a_a a.length a_c .i64 (k : Int) 114 2 (Rd.some ha (by omega)) (by omega) (by omega) (QLE 114 (.tmp 19) 20 114 a_a (k * 2) 0 (pinE y3) (.agg (pinE y3).toArray) (fun w hw => (ha.fr hw.fr).flat hx_y3) (QU 2 [(21, .v (.slice b_a b.length b_c)), (22, I (k : Int))] ?_)))))))))
   obtain ⟨x5, hx6⟩ : ∃ y, b[k]? = some y := ⟨_, List.getElem?_eq_getElem (by omega)⟩
   refine QIX 99 (.tmp 21) (.tmp 22) 23 0 b_a b.length b_c .i64 (k : Int) 114 2 (Rd.some hb (by omega)) (by omega) (by omega) (QLE 114 (.tmp 23) 24 114 b_a (k * 2) 0 (pinE x5) (.agg (pinE x5).toArray) (fun w hw => (hb.fr hw.fr).flat hx6) (QRUNV (.binOp .neq 114 (.tmp 20) (.tmp 24) 114) 25 4 (by kernel_rfl) (NL rfl) (.bool (!((y3.at' == x5.at') && ((y3.id == x5.id) && true)))) (runs_neq (xs := [vi y3.at', vi y3.id]) (ys := [vi x5.at', vi x5.id]) (r := (y3.at' == x5.at') && ((y3.id == x5.id) && true)) (by kernel_rfl) (by kernel_rfl) (by kernel_rfl)) (QEND rfl (NEXT (IFK (!((y3.at' == x5.at') && ((y3.id == x5.id) && true))) (fun bh7 => ?_) (fun bh7 => ?_))))))
   ·
    have h7 := notT bh7
    refine SEQ (RG (UU 1 [(4, B false)] (ENDOPS (NEXT (RF rfl (.bool false) () [] ?_ ?_)))))
    · simp_all [RV, hv0, drop_get ‹b[k]? = some _›, samePins]
    · rfl
   ·
    have h7 := notF bh7
    refine SKIP (OUTN (NEXT (RG (UU 2 [(16, I (wr ((k : Int) + 1)))] (CS 16 (vi (wr ((k : Int) + 1))) (vi ((k + 1 : Nat) : Int)) (vi_cast (by omega) (by omega)) (UU 1 [(5, I ((k + 1 : Nat) : Int))] (ENDOPS (BK (k + 1, ys4) [0, 1, 5] 0 [] ⟨hl_y3, hd_y3, (hv0.trans (by simp_all [samePins, drop_get ‹b[k]? = some _›]))⟩ (by simp)))))))))
  ·
   have h2 := of_decide_eq_false bh2
   obtain rfl := drop_nil hk (by omega)
   refine EXIT (PASS trivial (PASS trivial (OUT (NEXT (SEQ (RG (UU 1 [(4, B true)] (ENDOPS (NEXT (RF rfl (.bool true) () [] ?_ ?_))))))))))
   · simp [RV, hv0, samePins, List.drop_eq_nil_of_le (show b.length ≤ k by simp at hk; omega)]
   · rfl

end SX
end Go.Proofs.YtcbpmjfjdjpalaaGreat
