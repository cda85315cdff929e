/- Walks, printed by program. -/
import Derived.Test.YtgbfemglimebdaaGreatJ1
import Derived.Test.YtgbfemglimebdaaGreatMdlq
namespace Go.Proofs.YtgbfemglimebdaaGreat
namespace SX
open Go Go.RowKit
set_option linter.unusedVariables false
set_option linter.unusedSimpArgs false
set_option maxRecDepth 10000
set_option maxHeartbeats 400000
theorem sQueueAt_c (W : World) (list : List Entry) (list_a : Option Addr) (list_c : Nat) (hlist : Rd entryL W list_a list) (id : Int) : Spec Tryz.prog W [] 198 #[.slice list_a list.length list_c, vi id] (RV (vi (queueAt list id 0))) := by
 refine ENTER0 (N := 20) (vs := [.slice list_a list.length list_c, vi id]) Tryz.func198 rfl rfl (NL rfl) ?_
 have hlist_len := hlist.len
 refine SEQ (REGION [0] rfl (RU 1 [] [] (by kernel_rfl) rfl (ENDOPS (NEXT (SEQ (SEQ (REGION [0] rfl (RU 1 [] [(5, I 0)] (by kernel_rfl) rfl (ENDOPS (NEXT (BLOCK (LOOP (ι := Nat × (List Entry)) (fun j => [(0, .v (.slice list_a list.length list_c)), (1, I id), (5, I (j.1 : Int))]) (fun j => []) (fun j => []) (fun j => j.1 + j.2.length = list.length ∧ list.drop j.1 = j.2 ∧ queueAt list id 0 = queueAt j.2 id j.1) (fun j => j.2.length) (0, list) [0, 1, 5] ⟨by simp, rfl, rfl⟩ (by kernel_rfl) rfl rfl ?_))))))))))))
 rintro ⟨k, ys⟩ ⟨hk, hd, hv0⟩
 try dsimp only at hk hd hv0
 refine SEQ (SEQ (REGION [0, 1, 2, 3] rfl (RU 4 [] [(9, B (decide ((k : Int) < (list.length : Int))))] (by kernel_rfl) rfl (ENDOPS (NEXT (IF (decide ((k : Int) < (list.length : Int))) (by kernel_rfl) (fun bh1 => ?_) (fun bh1 => ?_)))))))
 ·
  have h1 := bh1
  have h1 := of_decide_eq_true h1
  obtain ⟨y2, ys3, rfl, hx_y2, hd_y2, hl_y2⟩ := drop_cons hd hk (by omega)
  refine SKIP (NEXT (SEQ (BLOCK (SEQ (REGION [0, 1, 2, 3, 4, 5, 6] rfl (RU 2 [2, 3, 4, 5, 6] [(12, .v (.slice list_a list.length list_c)), (13, I (k : Int))] (by kernel_rfl) rfl (OPC (INDEX 69 (.tmp 12) (.tmp 13) 14 0 (by kernel_rfl) (NL rfl) list_a list.length list_c .i64 (k : Int) 114 4 (by kernel_rfl) (by kernel_rfl) (by kernel_rfl) (by kernel_rfl) (Rd.some hlist (by omega)) (by omega) (by omega) (RU 1 [4, 5, 6] [(15, .e list_a (k * 4) 2)] (by kernel_rfl) rfl (OPC (LOADE 3 (.tmp 15) 16 3 (by kernel_rfl) (NL rfl) list_a (k * 4) 2 (entryE y2) (vi y2.id) (by kernel_rfl) (fun w hw => (hlist.fr hw.fr).flat hx_y2) (by kernel_rfl) (RU 2 [] [(18, B (y2.id == id))] (by kernel_rfl) rfl (ENDOPS (NEXT (IF (y2.id == id) (by kernel_rfl) (fun bh4 => ?_) (fun bh4 => ?_))))))))))))))))
  ·
   have h4 := bh4
   have h4 := eq_of_beq h4
   refine SEQ (REGION [0, 1] rfl (RU 2 [] [(4, I (k : Int))] (by kernel_rfl) rfl (ENDOPS (NEXT (RET (OUTR (PASS trivial (PASS trivial (OUTR (PASS trivial (FIN (vi (k : Int)) (by kernel_rfl) () ?_ [] ?_)))))))))))
   · simp_all [RV, queueAt]
   · rfl
  ·
   have h4 := bh4
   have h4 := ne_of_beq_false h4
   refine SKIP (OUTN (NEXT (REGION [0, 1, 2] rfl (RU 2 [2] [(11, I (wr ((k : Int) + 1)))] (by kernel_rfl) rfl (CAST (d := 11) (vi (wr ((k : Int) + 1))) (vi ((k + 1 : Nat) : Int)) (by kernel_rfl) (vi_cast (by omega) (by omega)) (RU 1 [] [(5, I ((k + 1 : Nat) : Int))] (by kernel_rfl) rfl (ENDOPS (BACK (k + 1, ys3) [0, 1, 5] 0 [] _ ⟨hl_y2, hd_y2, (hv0.trans (by simp_all [queueAt]))⟩ (by simp) (by kernel_rfl) rfl rfl rfl))))))))
 ·
  have h1 := bh1
  have h1 := of_decide_eq_false h1
  obtain rfl := drop_nil hk (by omega)
  refine EXIT (PASS trivial (PASS trivial (OUT (NEXT (SEQ (REGION [0] rfl (RU 1 [] [(4, I (-1))] (by kernel_rfl) rfl (ENDOPS (NEXT (RET (FIN (vi (-1)) (by kernel_rfl) () ?_ [] ?_)))))))))))
  · simp_all [RV, queueAt]
  · rfl

theorem sQueueOk_c (W : World) (list : List Entry) (list_a : Option Addr) (list_c : Nat) (hlist : Rd entryL W list_a list) : Spec Tryz.prog W [] 153 #[.slice list_a list.length list_c] (RV (.bool (queueOk list))) := by
 refine ENTER0 (N := 60) (vs := [.slice list_a list.length list_c]) Tryz.func153 rfl rfl (NL rfl) ?_
 have hlist_len := hlist.len
 refine SEQ (REGION [0] rfl (RU 1 [] [] (by kernel_rfl) rfl (ENDOPS (NEXT (SEQ (SEQ (REGION [0, 1, 2] rfl (RU 3 [] [(7, B (decide ((list.length : Int) > 10)))] (by kernel_rfl) rfl (ENDOPS (NEXT (IF (decide ((list.length : Int) > 10)) (by kernel_rfl) (fun bh1 => ?_) (fun bh1 => ?_))))))))))))
 ·
  have h1 := bh1
  have h1 := of_decide_eq_true h1
  refine SEQ (REGION [0] rfl (RU 1 [] [(2, B false)] (by kernel_rfl) rfl (ENDOPS (NEXT (RET (PASS trivial (FIN (.bool false) (by kernel_rfl) () ?_ [] ?_)))))))
  · (first | (exact congrArg Value.bool (queueOk_t ⟨by omega, fun i e he => hv0 i e (by have := (List.getElem?_eq_some_iff.1 he).1; omega) he⟩).symm) | (refine congrArg Value.bool (queueOk_f fun hw9 => ?_).symm; obtain ⟨w1, w2⟩ := hw9; first | omega))
  · rfl
 ·
  have h1 := bh1
  have h1 := of_decide_eq_false h1
  refine SKIP (NEXT (SEQ (SEQ (REGION [0] rfl (RU 1 [] [(3, I 0)] (by kernel_rfl) rfl (ENDOPS (NEXT (BLOCK (LOOP (ι := Nat × (List Entry)) (fun j => [(0, .v (.slice list_a list.length list_c)), (3, I (j.1 : Int))]) (fun j => []) (fun j => []) (fun j => j.1 + j.2.length = list.length ∧ list.drop j.1 = j.2 ∧ (∀ (i : Nat) (e : Entry), i < j.1 → list[i]? = some e → EntryR e ∧ (0 < i → ∀ y, list[i - 1]? = some y → entryLess y e = true) ∧ ∀ (j : Nat) (y : Entry), j < i → list[j]? = some y → y.id ≠ e.id)) (fun j => j.2.length) (0, list) [0, 3] ⟨by simp, rfl, fun i e hi => absurd hi (Nat.not_lt_zero _)⟩ (by kernel_rfl) rfl rfl ?_)))))))))
  rintro ⟨k, ys⟩ ⟨hk, hd, hv0⟩
  try dsimp only at hk hd hv0
  refine SEQ (SEQ (REGION [0, 1, 2, 3] rfl (RU 4 [] [(11, B (decide ((k : Int) < (list.length : Int))))] (by kernel_rfl) rfl (ENDOPS (NEXT (IF (decide ((k : Int) < (list.length : Int))) (by kernel_rfl) (fun bh2 => ?_) (fun bh2 => ?_)))))))
  ·
   have h2 := bh2
   have h2 := of_decide_eq_true h2
   obtain ⟨y3, ys4, rfl, hx_y3, hd_y3, hl_y3⟩ := drop_cons hd hk (by omega)
   refine SKIP (NEXT (SEQ (BLOCK (SEQ (REGION [0, 1, 2, 3, 4, 5] rfl (RU 2 [2, 3, 4, 5] [(14, .v (.slice list_a list.length list_c)), (15, I (k : Int))] (by kernel_rfl) rfl (OPC (INDEX 69 (.tmp 14) (.tmp 15) 16 0 (by kernel_rfl) (NL rfl) list_a list.length list_c .i64 (k : Int) 114 4 (by kernel_rfl) (by kernel_rfl) (by kernel_rfl) (by kernel_rfl) (Rd.some hlist (by omega)) (by omega) (by omega) (OPC (LOADE 114 (.tmp 16) 17 114 (by kernel_rfl) (NL rfl) list_a (k * 4) 0 (entryE y3) (.agg (entryE y3).toArray) (by kernel_rfl) (fun w hw => (hlist.fr hw.fr).flat hx_y3) (by kernel_rfl) (RUL 2 [] [(4, .p 0 0)] [(114, entryE y3)] (by kernel_rfl) rfl (ENDOPS (NEXT (SEQ (SEQ (REGION [0, 1, 2, 3, 4, 5, 6, 7, 8, 9, 10, 11, 12, 13, 14, 15, 16, 17, 18, 19, 20, 21] rfl (RU 2 [2, 3, 4, 5, 6, 7, 8, 9, 10, 11, 12, 13, 14, 15, 16, 17, 18, 19, 20, 21] [(19, I y3.level)] (by kernel_rfl) rfl (OPC (CALL 58 #[vi y3.level, vi 0, vi 4] (some 20) (by kernel_rfl) [] [] _ rfl (RV (.bool (inB y3.level 0 4))) (fun w hw => l1In_c w y3.level 0 4) (NO rfl) ?_)))))))))))))))))))
   rintro ⟨⟩
   refine RU 2 [5, 6, 7, 8, 9, 10, 11, 12, 13, 14, 15, 16, 17, 18, 19, 20, 21] [(22, B (!(inB y3.level 0 4)))] (by kernel_rfl) rfl (SPLIT (d := 22) (!(inB y3.level 0 4)) (by kernel_rfl) (fun bh5 => ?_) (fun bh5 => ?_))
   ·
    have h5 := bh5
    have h5 := notT h5
    refine RU 17 [] [(39, B true)] (by kernel_rfl) rfl (ENDOPS (NEXT (IFT (by kernel_rfl) (SEQ (REGION [0] rfl (RU 1 [] [(2, B false)] (by kernel_rfl) rfl (ENDOPS (NEXT (RET (PASS trivial (OUTR (PASS trivial (PASS trivial (OUTR (PASS trivial (FIN (.bool false) (by kernel_rfl) () ?_ [] ?_))))))))))))))))
    · (first | (exact congrArg Value.bool (queueOk_t ⟨by omega, fun i e he => hv0 i e (by have := (List.getElem?_eq_some_iff.1 he).1; omega) he⟩).symm) | (refine congrArg Value.bool (queueOk_f fun hw9 => ?_).symm; obtain ⟨w1, w2⟩ := hw9; first | omega | (exact Exists.elim (queueAt_t (l := list) (k := k) (id := y3.id) (by assumption)) fun j9 h9 => Exists.elim h9 fun e9 h9 => (w2 k _ hx_y3).2.2 j9 e9 h9.1 h9.2.1 h9.2.2) | (have w6 := (queueAt_at hx_y3).2 (w2 k _ hx_y3).2.2; omega) | (have w6 := (w2 k _ hx_y3).1; simp only [EntryR] at w6; simp_all; done)))
    · rfl
   ·
    have h5 := bh5
    have h5 := notF h5
    refine RU 2 [7, 8, 9, 10, 11, 12, 13, 14, 15, 16, 17, 18, 19, 20, 21] [(24, I y3.turn)] (by kernel_rfl) rfl (OPC (CALL 58 #[vi y3.turn, vi 1, vi 1000000] (some 25) (by kernel_rfl) [] [] _ rfl (RV (.bool (inB y3.turn 1 1000000))) (fun w hw => l1In_c w y3.turn 1 1000000) (NO rfl) ?_))
    rintro ⟨⟩
    refine RU 3 [11, 12, 13, 14, 15, 16, 17, 18, 19, 20, 21] [(28, B (!(inB y3.turn 1 1000000)))] (by kernel_rfl) rfl (SPLIT (d := 28) (!(inB y3.turn 1 1000000)) (by kernel_rfl) (fun bh6 => ?_) (fun bh6 => ?_))
    ·
     have h6 := bh6
     have h6 := notT h6
     refine RU 11 [] [(39, B true)] (by kernel_rfl) rfl (ENDOPS (NEXT (IFT (by kernel_rfl) (SEQ (REGION [0] rfl (RU 1 [] [(2, B false)] (by kernel_rfl) rfl (ENDOPS (NEXT (RET (PASS trivial (OUTR (PASS trivial (PASS trivial (OUTR (PASS trivial (FIN (.bool false) (by kernel_rfl) () ?_ [] ?_))))))))))))))))
     · (first | (exact congrArg Value.bool (queueOk_t ⟨by omega, fun i e he => hv0 i e (by have := (List.getElem?_eq_some_iff.1 he).1; omega) he⟩).symm) | (refine congrArg Value.bool (queueOk_f fun hw9 => ?_).symm; obtain ⟨w1, w2⟩ := hw9; first | omega | (exact Exists.elim (queueAt_t (l := list) (k := k) (id := y3.id) (by assumption)) fun j9 h9 => Exists.elim h9 fun e9 h9 => (w2 k _ hx_y3).2.2 j9 e9 h9.1 h9.2.1 h9.2.2) | (have w6 := (queueAt_at hx_y3).2 (w2 k _ hx_y3).2.2; omega) | (have w6 := (w2 k _ hx_y3).1; simp only [EntryR] at w6; simp_all; done)))
     · rfl
    ·
     have h6 := bh6
     have h6 := notF h6
     refine RU 2 [13, 14, 15, 16, 17, 18, 19, 20, 21] [(30, I y3.id)] (by kernel_rfl) rfl (OPC (CALL 58 #[vi y3.id, vi 1, vi 999] (some 31) (by kernel_rfl) [] [] _ rfl (RV (.bool (inB y3.id 1 999))) (fun w hw => l1In_c w y3.id 1 999) (NO rfl) ?_))
     rintro ⟨⟩
     refine RU 3 [17, 18, 19, 20, 21] [(34, B (!(inB y3.id 1 999)))] (by kernel_rfl) rfl (SPLIT (d := 34) (!(inB y3.id 1 999)) (by kernel_rfl) (fun bh7 => ?_) (fun bh7 => ?_))
     ·
      have h7 := bh7
      have h7 := notT h7
      refine RU 5 [] [(39, B true)] (by kernel_rfl) rfl (ENDOPS (NEXT (IFT (by kernel_rfl) (SEQ (REGION [0] rfl (RU 1 [] [(2, B false)] (by kernel_rfl) rfl (ENDOPS (NEXT (RET (PASS trivial (OUTR (PASS trivial (PASS trivial (OUTR (PASS trivial (FIN (.bool false) (by kernel_rfl) () ?_ [] ?_))))))))))))))))
      · (first | (exact congrArg Value.bool (queueOk_t ⟨by omega, fun i e he => hv0 i e (by have := (List.getElem?_eq_some_iff.1 he).1; omega) he⟩).symm) | (refine congrArg Value.bool (queueOk_f fun hw9 => ?_).symm; obtain ⟨w1, w2⟩ := hw9; first | omega | (exact Exists.elim (queueAt_t (l := list) (k := k) (id := y3.id) (by assumption)) fun j9 h9 => Exists.elim h9 fun e9 h9 => (w2 k _ hx_y3).2.2 j9 e9 h9.1 h9.2.1 h9.2.2) | (have w6 := (queueAt_at hx_y3).2 (w2 k _ hx_y3).2.2; omega) | (have w6 := (w2 k _ hx_y3).1; simp only [EntryR] at w6; simp_all; done)))
      · rfl
     ·
      have h7 := bh7
      have h7 := notF h7
      refine RU 2 [19, 20, 21] [(36, I y3.size)] (by kernel_rfl) rfl (OPC (CALL 58 #[vi y3.size, vi 1, vi 6] (some 37) (by kernel_rfl) [] [] _ rfl (RV (.bool (inB y3.size 1 6))) (fun w hw => l1In_c w y3.size 1 6) (NO rfl) ?_))
      rintro ⟨⟩
      refine RU 2 [] [(39, B (!(inB y3.size 1 6)))] (by kernel_rfl) rfl (ENDOPS (NEXT (IF (!(inB y3.size 1 6)) (by kernel_rfl) (fun bh8 => ?_) (fun bh8 => ?_))))
      ·
       have h8 := bh8
       have h8 := notT h8
       refine SEQ (REGION [0] rfl (RU 1 [] [(2, B false)] (by kernel_rfl) rfl (ENDOPS (NEXT (RET (PASS trivial (OUTR (PASS trivial (PASS trivial (OUTR (PASS trivial (FIN (.bool false) (by kernel_rfl) () ?_ [] ?_))))))))))))
       · (first | (exact congrArg Value.bool (queueOk_t ⟨by omega, fun i e he => hv0 i e (by have := (List.getElem?_eq_some_iff.1 he).1; omega) he⟩).symm) | (refine congrArg Value.bool (queueOk_f fun hw9 => ?_).symm; obtain ⟨w1, w2⟩ := hw9; first | omega | (exact Exists.elim (queueAt_t (l := list) (k := k) (id := y3.id) (by assumption)) fun j9 h9 => Exists.elim h9 fun e9 h9 => (w2 k _ hx_y3).2.2 j9 e9 h9.1 h9.2.1 h9.2.2) | (have w6 := (queueAt_at hx_y3).2 (w2 k _ hx_y3).2.2; omega) | (have w6 := (w2 k _ hx_y3).1; simp only [EntryR] at w6; simp_all; done)))
       · rfl
      ·
       have h8 := bh8
       have h8 := notF h8
       refine SKIP (NEXT (SEQ (REGIONQ (by kernel_rfl) (by kernel_rfl) (QRU 3 0 3 [(42, B (decide ((k : Int) > 0)))] (by kernel_rfl) rfl (QSPLIT (d := 42) (decide ((k : Int) > 0)) (by kernel_rfl) (fun bh9 => ?_) (fun bh9 => ?_))))))
       ·
        have h9 := bh9
        have h9 := of_decide_eq_true h9
        refine QRU 3 3 6 [(43, .v (.slice list_a list.length list_c)), (45, I (wr ((k : Int) - 1)))] (by kernel_rfl) rfl (QCAST (d := 45) (vi (wr ((k : Int) - 1))) (vi ((k - 1 : Nat) : Int)) (by kernel_rfl) (vi_cast (by omega) (by omega)) ?_)
        obtain ⟨x10, hx11⟩ : ∃ y, list[k - 1]? = some y := ⟨_, List.getElem?_eq_getElem (by omega)⟩
        refine QINDEX 69 (.tmp 43) (.tmp 45) 46 0 (by kernel_rfl) (NL rfl) list_a list.length list_c .i64 ((k - 1 : Nat) : Int) 114 4 (by kernel_rfl) (by kernel_rfl) (by kernel_rfl) (by kernel_rfl) (Rd.some hlist (by omega)) (by omega) (by omega) (QLOADE 114 (.tmp 46) 47 114 (by kernel_rfl) (NL rfl) list_a ((k - 1) * 4) 0 (entryE x10) (.agg (entryE x10).toArray) (by kernel_rfl) (fun w hw => (hlist.fr hw.fr).flat hx11) (by kernel_rfl) (QRU 1 8 9 [(48, .v (.agg (entryE y3).toArray))] (by kernel_rfl) rfl (QCALL 197 #[.agg #[vi x10.level, vi x10.turn, vi x10.id, vi x10.size], .agg #[vi y3.level, vi y3.turn, vi y3.id, vi y3.size]] (some 49) (by kernel_rfl) (.bool (entryLess x10 y3)) (fun w hw => entryLess_c w x10 y3) (NO rfl) (QRU 3 10 13 [(52, B (!(entryLess x10 y3)))] (by kernel_rfl) rfl (QSPLIT (d := 52) (!(entryLess x10 y3)) (by kernel_rfl) (fun bh12 => ?_) (fun bh12 => ?_))))))
        ·
         have h12 := bh12
         have h12 := notT h12
         refine QRU 7 13 20 [(59, B true)] (by kernel_rfl) rfl (QEND rfl (NEXT (IFT (by kernel_rfl) (SEQ (REGION [0] rfl (RU 1 [] [(2, B false)] (by kernel_rfl) rfl (ENDOPS (NEXT (RET (OUTR (PASS trivial (PASS trivial (OUTR (PASS trivial (FIN (.bool false) (by kernel_rfl) () ?_ [] ?_)))))))))))))))
         · (first | (exact congrArg Value.bool (queueOk_t ⟨by omega, fun i e he => hv0 i e (by have := (List.getElem?_eq_some_iff.1 he).1; omega) he⟩).symm) | (refine congrArg Value.bool (queueOk_f fun hw9 => ?_).symm; obtain ⟨w1, w2⟩ := hw9; first | omega | (exact Exists.elim (queueAt_t (l := list) (k := k) (id := y3.id) (by assumption)) fun j9 h9 => Exists.elim h9 fun e9 h9 => (w2 k _ hx_y3).2.2 j9 e9 h9.1 h9.2.1 h9.2.2) | (have w6 := (w2 k _ hx_y3).2.1 (by omega) _ hx11; simp_all; done) | (have w6 := (queueAt_at hx_y3).2 (w2 k _ hx_y3).2.2; omega) | (have w6 := (w2 k _ hx_y3).1; simp only [EntryR] at w6; simp_all; done)))
         · rfl
        ·
         have h12 := bh12
         have h12 := notF h12
         refine QRU 3 13 16 [(53, .v (.slice list_a list.length list_c)), (55, I y3.id)] (by kernel_rfl) rfl (QCALL 198 #[.slice list_a list.length list_c, vi y3.id] (some 56) (by kernel_rfl) (vi (queueAt list y3.id 0)) (fun w hw => sQueueAt_c w list list_a list_c (hlist.fr hw.fr) y3.id) (NO rfl) (QRU 3 17 20 [(59, B ((queueAt list y3.id 0) != (k : Int)))] (by kernel_rfl) rfl (QEND rfl (NEXT (IF ((queueAt list y3.id 0) != (k : Int)) (by kernel_rfl) (fun bh13 => ?_) (fun bh13 => ?_))))))
         ·
          have h13 := bh13
          have h13 := bne_iff_ne.1 h13
          refine SEQ (REGION [0] rfl (RU 1 [] [(2, B false)] (by kernel_rfl) rfl (ENDOPS (NEXT (RET (OUTR (PASS trivial (PASS trivial (OUTR (PASS trivial (FIN (.bool false) (by kernel_rfl) () ?_ [] ?_)))))))))))
          · (first | (exact congrArg Value.bool (queueOk_t ⟨by omega, fun i e he => hv0 i e (by have := (List.getElem?_eq_some_iff.1 he).1; omega) he⟩).symm) | (refine congrArg Value.bool (queueOk_f fun hw9 => ?_).symm; obtain ⟨w1, w2⟩ := hw9; first | omega | (exact Exists.elim (queueAt_t (l := list) (k := k) (id := y3.id) (by assumption)) fun j9 h9 => Exists.elim h9 fun e9 h9 => (w2 k _ hx_y3).2.2 j9 e9 h9.1 h9.2.1 h9.2.2) | (have w6 := (w2 k _ hx_y3).2.1 (by omega) _ hx11; simp_all; done) | (have w6 := (queueAt_at hx_y3).2 (w2 k _ hx_y3).2.2; omega) | (have w6 := (w2 k _ hx_y3).1; simp only [EntryR] at w6; simp_all; done)))
          · rfl
         ·
          have h13 := bh13
          have h13 := bneF h13
          refine SKIP (OUTN (NEXT (REGION [0, 1, 2] rfl (RU 2 [2] [(13, I (wr ((k : Int) + 1)))] (by kernel_rfl) rfl (CAST (d := 13) (vi (wr ((k : Int) + 1))) (vi ((k + 1 : Nat) : Int)) (by kernel_rfl) (vi_cast (by omega) (by omega)) (RU 1 [] [(3, I ((k + 1 : Nat) : Int))] (by kernel_rfl) rfl (ENDOPS (BACK (k + 1, ys4) [0, 3] 0 [] _ ⟨hl_y3, hd_y3, (fun i e hi he => by by_cases h9 : i = k; (subst h9; rw [hx_y3] at he; injection he with he; subst he; exact ⟨by simp_all [EntryR], fun h0 z hz => by rw [hx11] at hz; injection hz with hz; subst hz; assumption, (queueAt_at hx_y3).1 (by first | assumption | omega)⟩); exact hv0 i e (by omega) he)⟩ (by simp) (by kernel_rfl) rfl rfl rfl))))))))
       ·
        have h9 := bh9
        have h9 := of_decide_eq_false h9
        refine QRU 13 3 16 [(52, B false), (53, .v (.slice list_a list.length list_c)), (55, I y3.id)] (by kernel_rfl) rfl (QCALL 198 #[.slice list_a list.length list_c, vi y3.id] (some 56) (by kernel_rfl) (vi (queueAt list y3.id 0)) (fun w hw => sQueueAt_c w list list_a list_c (hlist.fr hw.fr) y3.id) (NO rfl) (QRU 3 17 20 [(59, B ((queueAt list y3.id 0) != (k : Int)))] (by kernel_rfl) rfl (QEND rfl (NEXT (IF ((queueAt list y3.id 0) != (k : Int)) (by kernel_rfl) (fun bh14 => ?_) (fun bh14 => ?_))))))
        ·
         have h14 := bh14
         have h14 := bne_iff_ne.1 h14
         refine SEQ (REGION [0] rfl (RU 1 [] [(2, B false)] (by kernel_rfl) rfl (ENDOPS (NEXT (RET (OUTR (PASS trivial (PASS trivial (OUTR (PASS trivial (FIN (.bool false) (by kernel_rfl) () ?_ [] ?_)))))))))))
         · (first | (exact congrArg Value.bool (queueOk_t ⟨by omega, fun i e he => hv0 i e (by have := (List.getElem?_eq_some_iff.1 he).1; omega) he⟩).symm) | (refine congrArg Value.bool (queueOk_f fun hw9 => ?_).symm; obtain ⟨w1, w2⟩ := hw9; first | omega | (exact Exists.elim (queueAt_t (l := list) (k := k) (id := y3.id) (by assumption)) fun j9 h9 => Exists.elim h9 fun e9 h9 => (w2 k _ hx_y3).2.2 j9 e9 h9.1 h9.2.1 h9.2.2) | (have w6 := (queueAt_at hx_y3).2 (w2 k _ hx_y3).2.2; omega) | (have w6 := (w2 k _ hx_y3).1; simp only [EntryR] at w6; simp_all; done)))
         · rfl
        ·
         have h14 := bh14
         have h14 := bneF h14
         refine SKIP (OUTN (NEXT (REGION [0, 1, 2] rfl (RU 2 [2] [(13, I (wr ((k : Int) + 1)))] (by kernel_rfl) rfl (CAST (d := 13) (vi (wr ((k : Int) + 1))) (vi ((k + 1 : Nat) : Int)) (by kernel_rfl) (vi_cast (by omega) (by omega)) (RU 1 [] [(3, I ((k + 1 : Nat) : Int))] (by kernel_rfl) rfl (ENDOPS (BACK (k + 1, ys4) [0, 3] 0 [] _ ⟨hl_y3, hd_y3, (fun i e hi he => by by_cases h9 : i = k; (subst h9; rw [hx_y3] at he; injection he with he; subst he; exact ⟨by simp_all [EntryR], fun h0 z hz => absurd h0 (by omega), (queueAt_at hx_y3).1 (by first | assumption | omega)⟩); exact hv0 i e (by omega) he)⟩ (by simp) (by kernel_rfl) rfl rfl rfl))))))))
  ·
   have h2 := bh2
   have h2 := of_decide_eq_false h2
   obtain rfl := drop_nil hk (by omega)
   have hkk : k = list.length := (by simpa using hk)
   refine EXIT (PASS trivial (PASS trivial (OUT (NEXT (SEQ (REGION [0] rfl (RU 1 [] [(2, B true)] (by kernel_rfl) rfl (ENDOPS (NEXT (RET (FIN (.bool true) (by kernel_rfl) () ?_ [] ?_)))))))))))
   · (first | (exact congrArg Value.bool (queueOk_t ⟨by omega, fun i e he => hv0 i e (by have := (List.getElem?_eq_some_iff.1 he).1; omega) he⟩).symm) | (refine congrArg Value.bool (queueOk_f fun hw9 => ?_).symm; obtain ⟨w1, w2⟩ := hw9; first | omega))
   · rfl

theorem sSameRow_c (W : World) (a : List Entry) (a_a : Option Addr) (a_c : Nat) (ha : Rd entryL W a_a a) (b : List Entry) (b_a : Option Addr) (b_c : Nat) (hb : Rd entryL W b_a b) : Spec Tryz.prog W [] 104 #[.slice a_a a.length a_c, .slice b_a b.length b_c] (RV (.bool (sameRow a b))) := by
 refine ENTER0 (N := 26) (vs := [.slice a_a a.length a_c, .slice b_a b.length b_c]) Tryz.func104 rfl rfl (NL rfl) ?_
 have ha_len := ha.len
 have hb_len := hb.len
 refine SEQ (REGION [0] rfl (RU 1 [] [] (by kernel_rfl) rfl (ENDOPS (NEXT (SEQ (SEQ (REGION [0, 1, 2, 3, 4] rfl (RU 5 [] [(10, B ((a.length : Int) != (b.length : Int)))] (by kernel_rfl) rfl (ENDOPS (NEXT (IF ((a.length : Int) != (b.length : Int)) (by kernel_rfl) (fun bh1 => ?_) (fun bh1 => ?_))))))))))))
 ·
  have h1 := bh1
  have h1 := bne_iff_ne.1 h1
  refine SEQ (REGION [0] rfl (RU 1 [] [(4, B false)] (by kernel_rfl) rfl (ENDOPS (NEXT (RET (PASS trivial (FIN (.bool false) (by kernel_rfl) () ?_ [] ?_)))))))
  · simp [RV, sameRow_ne (a := a) (b := b) (by omega)]
  · rfl
 ·
  have h1 := bh1
  have h1 := bneF h1
  refine SKIP (NEXT (SEQ (SEQ (REGION [0] rfl (RU 1 [] [(5, I 0)] (by kernel_rfl) rfl (ENDOPS (NEXT (BLOCK (LOOP (ι := Nat × (List Entry)) (fun j => [(0, .v (.slice a_a a.length a_c)), (1, .v (.slice b_a b.length b_c)), (5, I (j.1 : Int))]) (fun j => []) (fun j => []) (fun j => j.1 + j.2.length = a.length ∧ a.drop j.1 = j.2 ∧ sameRow a b = sameRow j.2 (b.drop j.1)) (fun j => j.2.length) (0, a) [0, 1, 5] ⟨by simp, rfl, rfl⟩ (by kernel_rfl) rfl rfl ?_)))))))))
  rintro ⟨k, ys⟩ ⟨hk, hd, hv0⟩
  try dsimp only at hk hd hv0
  refine SEQ (SEQ (REGION [0, 1, 2, 3] rfl (RU 4 [] [(14, B (decide ((k : Int) < (a.length : Int))))] (by kernel_rfl) rfl (ENDOPS (NEXT (IF (decide ((k : Int) < (a.length : Int))) (by kernel_rfl) (fun bh2 => ?_) (fun bh2 => ?_)))))))
  ·
   have h2 := bh2
   have h2 := of_decide_eq_true h2
   obtain ⟨y3, ys4, rfl, hx_y3, hd_y3, hl_y3⟩ := drop_cons hd hk (by omega)
   refine SKIP (NEXT (SEQ (BLOCK (SEQ (REGIONQ (by kernel_rfl) (by kernel_rfl) (QRU 2 0 2 [(17, .v (.slice a_a a.length a_c)), (18, I (k : Int))] (by kernel_rfl) rfl (QINDEX 69 (.tmp 17) (.tmp 18) 19 0 (by kernel_rfl) (NL rfl) a_a a.length a_c .i64 (k : Int) 114 4 (by kernel_rfl) (by kernel_rfl) (by kernel_rfl) (by kernel_rfl) (Rd.some ha (by omega)) (by omega) (by omega) (QLOADE 114 (.tmp 19) 20 114 (by kernel_rfl) (NL rfl) a_a (k * 4) 0 (entryE y3) (.agg (entryE y3).toArray) (by kernel_rfl) (fun w hw => (ha.fr hw.fr).flat hx_y3) (by kernel_rfl) (QRU 2 4 6 [(21, .v (.slice b_a b.length b_c)), (22, I (k : Int))] (by kernel_rfl) rfl ?_)))))))))
   obtain ⟨x5, hx6⟩ : ∃ y, b[k]? = some y := ⟨_, List.getElem?_eq_getElem (by omega)⟩
   refine QINDEX 69 (.tmp 21) (.tmp 22) 23 0 (by kernel_rfl) (NL rfl) b_a b.length b_c .i64 (k : Int) 114 4 (by kernel_rfl) (by kernel_rfl) (by kernel_rfl) (by kernel_rfl) (Rd.some hb (by omega)) (by omega) (by omega) (QLOADE 114 (.tmp 23) 24 114 (by kernel_rfl) (NL rfl) b_a (k * 4) 0 (entryE x5) (.agg (entryE x5).toArray) (by kernel_rfl) (fun w hw => (hb.fr hw.fr).flat hx6) (by kernel_rfl) (QRUNV (.binOp .neq 114 (.tmp 20) (.tmp 24) 114) 25 4 (by kernel_rfl) (NL rfl) (.bool (!((y3.level == x5.level) && ((y3.turn == x5.turn) && ((y3.id == x5.id) && ((y3.size == x5.size) && true)))))) (runs_neq (xs := [vi y3.level, vi y3.turn, vi y3.id, vi y3.size]) (ys := [vi x5.level, vi x5.turn, vi x5.id, vi x5.size]) (r := (y3.level == x5.level) && ((y3.turn == x5.turn) && ((y3.id == x5.id) && ((y3.size == x5.size) && true)))) (by kernel_rfl) (by kernel_rfl) (by kernel_rfl)) (QEND rfl (NEXT (IF (!((y3.level == x5.level) && ((y3.turn == x5.turn) && ((y3.id == x5.id) && ((y3.size == x5.size) && true))))) (by kernel_rfl) (fun bh7 => ?_) (fun bh7 => ?_))))))
   ·
    have h7 := bh7
    have h7 := notT h7
    refine SEQ (REGION [0] rfl (RU 1 [] [(4, B false)] (by kernel_rfl) rfl (ENDOPS (NEXT (RET (OUTR (PASS trivial (PASS trivial (OUTR (PASS trivial (FIN (.bool false) (by kernel_rfl) () ?_ [] ?_)))))))))))
    · simp_all [RV, hv0, drop_get ‹b[k]? = some _›, sameRow]
    · rfl
   ·
    have h7 := bh7
    have h7 := notF h7
    refine SKIP (OUTN (NEXT (REGION [0, 1, 2] rfl (RU 2 [2] [(16, I (wr ((k : Int) + 1)))] (by kernel_rfl) rfl (CAST (d := 16) (vi (wr ((k : Int) + 1))) (vi ((k + 1 : Nat) : Int)) (by kernel_rfl) (vi_cast (by omega) (by omega)) (RU 1 [] [(5, I ((k + 1 : Nat) : Int))] (by kernel_rfl) rfl (ENDOPS (BACK (k + 1, ys4) [0, 1, 5] 0 [] _ ⟨hl_y3, hd_y3, (hv0.trans (by simp_all [sameRow, drop_get ‹b[k]? = some _›]))⟩ (by simp) (by kernel_rfl) rfl rfl rfl))))))))
  ·
   have h2 := bh2
   have h2 := of_decide_eq_false h2
   obtain rfl := drop_nil hk (by omega)
   refine EXIT (PASS trivial (PASS trivial (OUT (NEXT (SEQ (REGION [0] rfl (RU 1 [] [(4, B true)] (by kernel_rfl) rfl (ENDOPS (NEXT (RET (FIN (.bool true) (by kernel_rfl) () ?_ [] ?_)))))))))))
   · simp [RV, hv0, sameRow, List.drop_eq_nil_of_le (show b.length ≤ k by simp at hk; omega)]
   · rfl

theorem sSamePins_c (W : World) (a : List Pin) (a_a : Option Addr) (a_c : Nat) (ha : Rd pinL W a_a a) (b : List Pin) (b_a : Option Addr) (b_c : Nat) (hb : Rd pinL W b_a b) : Spec Tryz.prog W [] 106 #[.slice a_a a.length a_c, .slice b_a b.length b_c] (RV (.bool (samePins a b))) := by
 refine ENTER0 (N := 26) (vs := [.slice a_a a.length a_c, .slice b_a b.length b_c]) Tryz.func106 rfl rfl (NL rfl) ?_
 have ha_len := ha.len
 have hb_len := hb.len
 refine SEQ (REGION [0] rfl (RU 1 [] [] (by kernel_rfl) rfl (ENDOPS (NEXT (SEQ (SEQ (REGION [0, 1, 2, 3, 4] rfl (RU 5 [] [(10, B ((a.length : Int) != (b.length : Int)))] (by kernel_rfl) rfl (ENDOPS (NEXT (IF ((a.length : Int) != (b.length : Int)) (by kernel_rfl) (fun bh1 => ?_) (fun bh1 => ?_))))))))))))
 ·
  have h1 := bh1
  have h1 := bne_iff_ne.1 h1
  refine SEQ (REGION [0] rfl (RU 1 [] [(4, B false)] (by kernel_rfl) rfl (ENDOPS (NEXT (RET (PASS trivial (FIN (.bool false) (by kernel_rfl) () ?_ [] ?_)))))))
  · simp [RV, samePins_ne (a := a) (b := b) (by omega)]
  · rfl
 ·
  have h1 := bh1
  have h1 := bneF h1
  refine SKIP (NEXT (SEQ (SEQ (REGION [0] rfl (RU 1 [] [(5, I 0)] (by kernel_rfl) rfl (ENDOPS (NEXT (BLOCK (LOOP (ι := Nat × (List Pin)) (fun j => [(0, .v (.slice a_a a.length a_c)), (1, .v (.slice b_a b.length b_c)), (5, I (j.1 : Int))]) (fun j => []) (fun j => []) (fun j => j.1 + j.2.length = a.length ∧ a.drop j.1 = j.2 ∧ samePins a b = samePins j.2 (b.drop j.1)) (fun j => j.2.length) (0, a) [0, 1, 5] ⟨by simp, rfl, rfl⟩ (by kernel_rfl) rfl rfl ?_)))))))))
  rintro ⟨k, ys⟩ ⟨hk, hd, hv0⟩
  try dsimp only at hk hd hv0
  refine SEQ (SEQ (REGION [0, 1, 2, 3] rfl (RU 4 [] [(14, B (decide ((k : Int) < (a.length : Int))))] (by kernel_rfl) rfl (ENDOPS (NEXT (IF (decide ((k : Int) < (a.length : Int))) (by kernel_rfl) (fun bh2 => ?_) (fun bh2 => ?_)))))))
  ·
   have h2 := bh2
   have h2 := of_decide_eq_true h2
   obtain ⟨y3, ys4, rfl, hx_y3, hd_y3, hl_y3⟩ := drop_cons hd hk (by omega)
   refine SKIP (NEXT (SEQ (BLOCK (SEQ (REGIONQ (by kernel_rfl) (by kernel_rfl) (QRU 2 0 2 [(17, .v (.slice a_a a.length a_c)), (18, I (k : Int))] (by kernel_rfl) rfl (QINDEX 116 (.tmp 17) (.tmp 18) 19 0 (by kernel_rfl) (NL rfl) a_a a.length a_c .i64 (k : Int) 127 2 (by kernel_rfl) (by kernel_rfl) (by kernel_rfl) (by kernel_rfl) (Rd.some ha (by omega)) (by omega) (by omega) (QLOADE 127 (.tmp 19) 20 127 (by kernel_rfl) (NL rfl) a_a (k * 2) 0 (pinE y3) (.agg (pinE y3).toArray) (by kernel_rfl) (fun w hw => (ha.fr hw.fr).flat hx_y3) (by kernel_rfl) (QRU 2 4 6 [(21, .v (.slice b_a b.length b_c)), (22, I (k : Int))] (by kernel_rfl) rfl ?_)))))))))
   obtain ⟨x5, hx6⟩ : ∃ y, b[k]? = some y := ⟨_, List.getElem?_eq_getElem (by omega)⟩
   refine QINDEX 116 (.tmp 21) (.tmp 22) 23 0 (by kernel_rfl) (NL rfl) b_a b.length b_c .i64 (k : Int) 127 2 (by kernel_rfl) (by kernel_rfl) (by kernel_rfl) (by kernel_rfl) (Rd.some hb (by omega)) (by omega) (by omega) (QLOADE 127 (.tmp 23) 24 127 (by kernel_rfl) (NL rfl) b_a (k * 2) 0 (pinE x5) (.agg (pinE x5).toArray) (by kernel_rfl) (fun w hw => (hb.fr hw.fr).flat hx6) (by kernel_rfl) (QRUNV (.binOp .neq 127 (.tmp 20) (.tmp 24) 127) 25 4 (by kernel_rfl) (NL rfl) (.bool (!((y3.at' == x5.at') && ((y3.id == x5.id) && true)))) (runs_neq (xs := [vi y3.at', vi y3.id]) (ys := [vi x5.at', vi x5.id]) (r := (y3.at' == x5.at') && ((y3.id == x5.id) && true)) (by kernel_rfl) (by kernel_rfl) (by kernel_rfl)) (QEND rfl (NEXT (IF (!((y3.at' == x5.at') && ((y3.id == x5.id) && true))) (by kernel_rfl) (fun bh7 => ?_) (fun bh7 => ?_))))))
   ·
    have h7 := bh7
    have h7 := notT h7
    refine SEQ (REGION [0] rfl (RU 1 [] [(4, B false)] (by kernel_rfl) rfl (ENDOPS (NEXT (RET (OUTR (PASS trivial (PASS trivial (OUTR (PASS trivial (FIN (.bool false) (by kernel_rfl) () ?_ [] ?_)))))))))))
    · simp_all [RV, hv0, drop_get ‹b[k]? = some _›, samePins]
    · rfl
   ·
    have h7 := bh7
    have h7 := notF h7
    refine SKIP (OUTN (NEXT (REGION [0, 1, 2] rfl (RU 2 [2] [(16, I (wr ((k : Int) + 1)))] (by kernel_rfl) rfl (CAST (d := 16) (vi (wr ((k : Int) + 1))) (vi ((k + 1 : Nat) : Int)) (by kernel_rfl) (vi_cast (by omega) (by omega)) (RU 1 [] [(5, I ((k + 1 : Nat) : Int))] (by kernel_rfl) rfl (ENDOPS (BACK (k + 1, ys4) [0, 1, 5] 0 [] _ ⟨hl_y3, hd_y3, (hv0.trans (by simp_all [samePins, drop_get ‹b[k]? = some _›]))⟩ (by simp) (by kernel_rfl) rfl rfl rfl))))))))
  ·
   have h2 := bh2
   have h2 := of_decide_eq_false h2
   obtain rfl := drop_nil hk (by omega)
   refine EXIT (PASS trivial (PASS trivial (OUT (NEXT (SEQ (REGION [0] rfl (RU 1 [] [(4, B true)] (by kernel_rfl) rfl (ENDOPS (NEXT (RET (FIN (.bool true) (by kernel_rfl) () ?_ [] ?_)))))))))))
   · simp [RV, hv0, samePins, List.drop_eq_nil_of_le (show b.length ≤ k by simp at hk; omega)]
   · rfl

end SX
end Go.Proofs.YtgbfemglimebdaaGreat
