/- Walks, printed by program. -/
import Derived.Test.YtcbpmjfjdjpalaaGreatMdlu
import Derived.Test.YtcbpmjfjdjpalaaGreatN1
import Derived.Test.YtcbpmjfjdjpalaaGreatN2
namespace Go.Proofs.YtcbpmjfjdjpalaaGreat
namespace SX
open Go Go.RowKit
set_option linter.unusedVariables false
set_option linter.unusedSimpArgs false
set_option maxRecDepth 10000
set_option maxHeartbeats 400000
theorem fnPassed_c (W : World) (code : List UInt8) (code_a : Option Addr) (code_c : Nat) (hcode : Rd byteL W code_a code) (hcap : code.length ≤ code_c) : Spec Tryz.prog W [] 3 #[.slice code_a code.length code_c] (RV (.bool true)) := by
 refine ENTER0 (N := 67) (vs := [.slice code_a code.length code_c]) Tryz.func3 rfl rfl (NL rfl) ?_
 have hcode_len := hcode.len
 refine SEQ (RG (UU 1 [] (ENDOPS (NEXT (SEQ (SEQ (RG (UU 1 [(9, .v (.slice code_a code.length code_c))] (OPC (CA 5 #[.slice code_a code.length code_c] (some 10) (RV (.bool (decide ((code.length : Int) > 1048576)))) (fun w hw => big_c w code code_a code_c (hcode.fr hw.fr)) ?_))))))))))
 rintro ⟨⟩
 refine NI (decide ((code.length : Int) > 1048576)) (fun bh1 => ?_) (fun bh1 => ?_)
 ·
  have h1 := of_decide_eq_true bh1
  refine SEQ (RG (UU 1 [(2, B true)] (ENDOPS (NEXT (RF rfl (.bool true) () [] ?_ ?_)))))
  · (first | rfl | (exfalso; simp_all [eqInts_refl]; done) | (exfalso; have h9 := nextOffer_passed (by assumption); simp_all; done))
  · rfl
 ·
  have h1 := of_decide_eq_false bh1
  refine SKIP (NEXT (SEQ (RG (UU 1 [(12, .v (.slice code_a code.length code_c))] (OPC (CA 6 #[.slice code_a code.length code_c] (some 13) (⟨{q : (HH × HH × HH × HH × HH) × (House × Int × Int) // (fun x : House × Int × Int => HouseSz x.1) q.2}, fun q => .tuple #[.agg (hC q.1.2.1 q.1.1.1.1 q.1.1.1.2 q.1.1.2.1.1 q.1.1.2.1.2 q.1.1.2.2.1.1 q.1.1.2.2.1.2 q.1.1.2.2.2.1.1 q.1.1.2.2.2.1.2 q.1.1.2.2.2.2.1 q.1.1.2.2.2.2.2).toArray, vi q.1.2.2.1, vi q.1.2.2.2], fun q => [slA 3 intL (.slice q.1.1.1.1 q.1.2.1.rules.seats.length q.1.1.1.2) q.1.2.1.rules.seats, slA 46 partyL (.slice q.1.1.2.1.1 q.1.2.1.parties.length q.1.1.2.1.2) q.1.2.1.parties, slA 60 (cabinLx 63 99 114) (.slice q.1.1.2.2.1.1 q.1.2.1.cabins.length q.1.1.2.2.1.2) q.1.2.1.cabins, slA 3 intL (.slice q.1.1.2.2.2.1.1 q.1.2.1.todo.length q.1.1.2.2.2.1.2) q.1.2.1.todo, slA 3 intL (.slice q.1.1.2.2.2.2.1 q.1.2.1.jobs.length q.1.1.2.2.2.2.2) q.1.2.1.jobs]⟩) (fun w hw => drawPassed_c w code code_a code_c (hcode.fr hw.fr) (by assumption)) ?_))))))
  rintro ⟨⟨⟨⟨a4, c5⟩, ⟨a6, c7⟩, ⟨a8, c9⟩, ⟨a10, c11⟩, ⟨a12, c13⟩⟩, m2⟩, hm3⟩
  try dsimp only at hm3
  refine UL 8 [(3, .p 0 0), (4, I m2.2.1), (5, I m2.2.2)] [(30, (hC m2.1 a4 c5 a6 c7 a8 c9 a10 c11 a12 c13))] (NR (UU 3 [(17, .v (.agg (hC m2.1 a4 c5 a6 c7 a8 c9 a10 c11 a12 c13).toArray)), (18, I m2.2.1), (19, I m2.2.2)] (FACT (m2.1.rules.seats.length ≤ c5) (fun w hw => SlO.capE (hw.own 0 rfl)) (fun hcap14 => (FACT (m2.1.parties.length ≤ c7) (fun w hw => SlO.capE (hw.own 1 rfl)) (fun hcap15 => (FACT (m2.1.cabins.length ≤ c9) (fun w hw => SlO.capE (hw.own 2 rfl)) (fun hcap16 => (FACT (m2.1.todo.length ≤ c11) (fun w hw => SlO.capE (hw.own 3 rfl)) (fun hcap17 => (FACT (m2.1.jobs.length ≤ c13) (fun w hw => SlO.capE (hw.own 4 rfl)) (fun hcap18 => (OPC (CA 7 #[.agg (hC m2.1 a4 c5 a6 c7 a8 c9 a10 c11 a12 c13).toArray, vi m2.2.1, vi m2.2.2] (some 20) (⟨HH, fun p => .slice p.1 ((passed m2.1 m2.2.1 m2.2.2).length) p.2, fun p => [slA 3 intL (.slice p.1 (passed m2.1 m2.2.1 m2.2.2).length p.2) (passed m2.1 m2.2.1 m2.2.2)]⟩) (fun w hw => iPassed_c w m2.1 a4 c5 (hw.rdO 0 rfl) a6 c7 (hw.rdO 1 rfl) a8 c9 (hw.rdO 2 rfl) a10 c11 (hw.rdO 3 rfl) a12 c13 (hw.rdO 4 rfl) m2.2.1 m2.2.2 (by assumption) (by first | assumption | omega | (dsimp only; omega) | (simp only [List.length_append, List.length_cons, List.length_nil] at *; omega)) (by first | assumption | omega | (dsimp only; omega) | (simp only [List.length_append, List.length_cons, List.length_nil] at *; omega))) ?_))))))))))))))
  rintro ⟨a19, c20⟩
  refine UU 1 [(6, .v (.slice a19 ((passed m2.1 m2.2.1 m2.2.2).length) c20))] (ENDOPS (NEXT (SEQ (SEQ (RG (UU 4 [(21, .v (.slice a19 ((passed m2.1 m2.2.1 m2.2.2).length) c20)), (22, .v (.agg (hC m2.1 a4 c5 a6 c7 a8 c9 a10 c11 a12 c13).toArray)), (23, I m2.2.1), (24, I m2.2.2)] (FACT (m2.1.rules.seats.length ≤ c5) (fun w hw => SlO.capE (hw.own 0 rfl)) (fun hcap21 => (FACT (m2.1.parties.length ≤ c7) (fun w hw => SlO.capE (hw.own 1 rfl)) (fun hcap22 => (FACT (m2.1.cabins.length ≤ c9) (fun w hw => SlO.capE (hw.own 2 rfl)) (fun hcap23 => (FACT (m2.1.todo.length ≤ c11) (fun w hw => SlO.capE (hw.own 3 rfl)) (fun hcap24 => (FACT (m2.1.jobs.length ≤ c13) (fun w hw => SlO.capE (hw.own 4 rfl)) (fun hcap25 => (OPC (CA 9 #[.agg (hC m2.1 a4 c5 a6 c7 a8 c9 a10 c11 a12 c13).toArray, vi m2.2.1, vi m2.2.2] (some 25) (⟨HH, fun p => .slice p.1 ((passed m2.1 m2.2.1 m2.2.2).length) p.2, fun p => [slA 3 intL (.slice p.1 (passed m2.1 m2.2.1 m2.2.2).length p.2) (passed m2.1 m2.2.1 m2.2.2)]⟩) (fun w hw => sPassed_c w m2.1 a4 c5 (hw.rdO 0 rfl) a6 c7 (hw.rdO 1 rfl) a8 c9 (hw.rdO 2 rfl) a10 c11 (hw.rdO 3 rfl) a12 c13 (hw.rdO 4 rfl) m2.2.1 m2.2.2 (by assumption) (by first | assumption | omega | (dsimp only; omega) | (simp only [List.length_append, List.length_cons, List.length_nil] at *; omega)) (by first | assumption | omega | (dsimp only; omega) | (simp only [List.length_append, List.length_cons, List.length_nil] at *; omega))) ?_))))))))))))))))))
  rintro ⟨a26, c27⟩
  refine OPC (CA 8 #[.slice a19 ((passed m2.1 m2.2.1 m2.2.2).length) c20, .slice a26 ((passed m2.1 m2.2.1 m2.2.2).length) c27] (some 26) (RV (.bool (eqInts (passed m2.1 m2.2.1 m2.2.2) (passed m2.1 m2.2.1 m2.2.2)))) (fun w hw => sameInts_c w (passed m2.1 m2.2.1 m2.2.2) a19 c20 (hw.rdO 5 rfl) (passed m2.1 m2.2.1 m2.2.2) a26 c27 (hw.rdO 6 rfl)) ?_)
  rintro ⟨⟩
  refine UU 1 [(27, B (!(eqInts (passed m2.1 m2.2.1 m2.2.2) (passed m2.1 m2.2.1 m2.2.2))))] (NI (!(eqInts (passed m2.1 m2.2.1 m2.2.2) (passed m2.1 m2.2.1 m2.2.2))) (fun bh28 => ?_) (fun bh28 => ?_))
  ·
   have h28 := notT bh28
   refine SEQ (RG (UU 1 [(2, B false)] (ENDOPS (NEXT (RF rfl (.bool false) () [] ?_ ?_)))))
   · (first | rfl | (exfalso; simp_all [eqInts_refl]; done) | (exfalso; have h9 := nextOffer_passed (by assumption); simp_all; done))
   · rfl
  ·
   have h28 := notF bh28
   refine SKIP (NEXT (SEQ (RG (UU 2 [(28, .v (.agg (hC m2.1 a4 c5 a6 c7 a8 c9 a10 c11 a12 c13).toArray)), (29, I m2.2.1)] (FACT (m2.1.rules.seats.length ≤ c5) (fun w hw => SlO.capE (hw.own 0 rfl)) (fun hcap29 => (FACT (m2.1.parties.length ≤ c7) (fun w hw => SlO.capE (hw.own 1 rfl)) (fun hcap30 => (FACT (m2.1.cabins.length ≤ c9) (fun w hw => SlO.capE (hw.own 2 rfl)) (fun hcap31 => (FACT (m2.1.todo.length ≤ c11) (fun w hw => SlO.capE (hw.own 3 rfl)) (fun hcap32 => (FACT (m2.1.jobs.length ≤ c13) (fun w hw => SlO.capE (hw.own 4 rfl)) (fun hcap33 => (OPC (CA 10 #[.agg (hC m2.1 a4 c5 a6 c7 a8 c9 a10 c11 a12 c13).toArray, vi m2.2.1] (some 30) (RV (vi (nextOffer m2.1 m2.2.1))) (fun w hw => iNextOffer_c w m2.1 a4 c5 (hw.rdO 0 rfl) a6 c7 (hw.rdO 1 rfl) a8 c9 (hw.rdO 2 rfl) a10 c11 (hw.rdO 3 rfl) a12 c13 (hw.rdO 4 rfl) m2.2.1 (by assumption) (by first | assumption | omega | (dsimp only; omega) | (simp only [List.length_append, List.length_cons, List.length_nil] at *; omega)) (by first | assumption | omega | (dsimp only; omega) | (simp only [List.length_append, List.length_cons, List.length_nil] at *; omega))) ?_))))))))))))))))
   rintro ⟨⟩
   refine UU 1 [(7, I (nextOffer m2.1 m2.2.1))] (ENDOPS (NEXT (SEQ (SEQ (RG (UU 2 [(32, B ((nextOffer m2.1 m2.2.1) == 0))] (NI ((nextOffer m2.1 m2.2.1) == 0) (fun bh34 => ?_) (fun bh34 => ?_))))))))
   ·
    have h34 := eq_of_beq bh34
    refine SEQ (RG (UU 1 [(2, B true)] (ENDOPS (NEXT (RF rfl (.bool true) () [] ?_ ?_)))))
    · (first | rfl | (exfalso; simp_all [eqInts_refl]; done) | (exfalso; have h9 := nextOffer_passed (by assumption); simp_all; done))
    · rfl
   ·
    have h34 := ne_of_beq_false bh34
    refine SKIP (NEXT (SEQ (SEQ (RG (UU 3 [(33, .v (.agg (hC m2.1 a4 c5 a6 c7 a8 c9 a10 c11 a12 c13).toArray)), (34, I m2.2.1), (35, I (nextOffer m2.1 m2.2.1))] (FACT (m2.1.rules.seats.length ≤ c5) (fun w hw => SlO.capE (hw.own 0 rfl)) (fun hcap35 => (FACT (m2.1.parties.length ≤ c7) (fun w hw => SlO.capE (hw.own 1 rfl)) (fun hcap36 => (FACT (m2.1.cabins.length ≤ c9) (fun w hw => SlO.capE (hw.own 2 rfl)) (fun hcap37 => (FACT (m2.1.todo.length ≤ c11) (fun w hw => SlO.capE (hw.own 3 rfl)) (fun hcap38 => (FACT (m2.1.jobs.length ≤ c13) (fun w hw => SlO.capE (hw.own 4 rfl)) (fun hcap39 => (OPC (CA 7 #[.agg (hC m2.1 a4 c5 a6 c7 a8 c9 a10 c11 a12 c13).toArray, vi m2.2.1, vi (nextOffer m2.1 m2.2.1)] (some 36) (⟨HH, fun p => .slice p.1 ((passed m2.1 m2.2.1 (nextOffer m2.1 m2.2.1)).length) p.2, fun p => [slA 3 intL (.slice p.1 (passed m2.1 m2.2.1 (nextOffer m2.1 m2.2.1)).length p.2) (passed m2.1 m2.2.1 (nextOffer m2.1 m2.2.1))]⟩) (fun w hw => iPassed_c w m2.1 a4 c5 (hw.rdO 0 rfl) a6 c7 (hw.rdO 1 rfl) a8 c9 (hw.rdO 2 rfl) a10 c11 (hw.rdO 3 rfl) a12 c13 (hw.rdO 4 rfl) m2.2.1 (nextOffer m2.1 m2.2.1) (by assumption) (by first | assumption | omega | (dsimp only; omega) | (simp only [List.length_append, List.length_cons, List.length_nil] at *; omega)) (by first | assumption | omega | (dsimp only; omega) | (simp only [List.length_append, List.length_cons, List.length_nil] at *; omega))) ?_)))))))))))))))))
    rintro ⟨a40, c41⟩
    refine UU 2 [(38, B ((((passed m2.1 m2.2.1 (nextOffer m2.1 m2.2.1)).length : Nat) : Int) != 0))] (NI ((((passed m2.1 m2.2.1 (nextOffer m2.1 m2.2.1)).length : Nat) : Int) != 0) (fun bh42 => ?_) (fun bh42 => ?_))
    ·
     have h42 := bne_iff_ne.1 bh42
     refine SEQ (RG (UU 1 [(2, B false)] (ENDOPS (NEXT (RF rfl (.bool false) () [] ?_ ?_)))))
     · (first | rfl | (exfalso; simp_all [eqInts_refl]; done) | (exfalso; have h9 := nextOffer_passed (by assumption); simp_all; done))
     · rfl
    ·
     have h42 := bneF bh42
     refine SKIP (NEXT (SEQ (SEQ (RG (UU 1 [(8, I 0)] (ENDOPS (NEXT (BLOCK (LOOP (ι := Nat × (List Int)) (fun j => [(5, I m2.2.2), (6, .v (.slice a19 ((passed m2.1 m2.2.1 m2.2.2).length) c20)), (8, I (j.1 : Int))]) (fun j => [(30, (hC m2.1 a4 c5 a6 c7 a8 c9 a10 c11 a12 c13))]) (fun j => [slA 3 intL (.slice a4 m2.1.rules.seats.length c5) m2.1.rules.seats, slA 46 partyL (.slice a6 m2.1.parties.length c7) m2.1.parties, slA 60 (cabinLx 63 99 114) (.slice a8 m2.1.cabins.length c9) m2.1.cabins, slA 3 intL (.slice a10 m2.1.todo.length c11) m2.1.todo, slA 3 intL (.slice a12 m2.1.jobs.length c13) m2.1.jobs, slA 3 intL (.slice a19 (passed m2.1 m2.2.1 m2.2.2).length c20) (passed m2.1 m2.2.1 m2.2.2), slA 3 intL (.slice a26 (passed m2.1 m2.2.1 m2.2.2).length c27) (passed m2.1 m2.2.1 m2.2.2), slA 3 intL (.slice a40 (passed m2.1 m2.2.1 (nextOffer m2.1 m2.2.1)).length c41) (passed m2.1 m2.2.1 (nextOffer m2.1 m2.2.1))]) (fun j => j.1 + j.2.length = (passed m2.1 m2.2.1 m2.2.2).length ∧ (passed m2.1 m2.2.1 m2.2.2).drop j.1 = j.2) (fun j => j.2.length) (0, (passed m2.1 m2.2.1 m2.2.2)) [5, 6, 8] ⟨by simp, rfl⟩ (by kernel_rfl) rfl rfl ?_)))))))))
     rintro ⟨k, ys⟩ ⟨hk, hd⟩
     try dsimp only at hk hd
     have hpl : (passed m2.1 m2.2.1 m2.2.2).length ≤ 1048576 := passed_len _ _ _ (by assumption)
     refine SEQ (SEQ (RG (UU 4 [(42, B (decide ((k : Int) < (((passed m2.1 m2.2.1 m2.2.2).length : Nat) : Int))))] (NI (decide ((k : Int) < (((passed m2.1 m2.2.1 m2.2.2).length : Nat) : Int))) (fun bh43 => ?_) (fun bh43 => ?_)))))
     ·
      have h43 := of_decide_eq_true bh43
      obtain ⟨y44, ys45, rfl, hx_y44, hd_y44, hl_y44⟩ := drop_cons hd hk (by omega)
      have hkw : wr ((k : Int) - 1) = (k : Int) - 1 := wr_of (by omega) (by omega)
      refine SKIP (NEXT (SEQ (BLOCK (SEQ (FACT (a19.isSome = true) (fun w hw => SlO.isS (hw.own 5 rfl) (by first | omega | (dsimp only; omega))) (fun hs46 => (REGIONQ (by kernel_rfl) (by kernel_rfl) (QU 2 [(45, .v (.slice a19 ((passed m2.1 m2.2.1 m2.2.2).length) c20)), (46, I (k : Int))] (QIX 24 (.tmp 45) (.tmp 46) 47 0 a19 ((passed m2.1 m2.2.1 m2.2.2).length) c20 .i64 (k : Int) 3 1 hs46 (by omega) (by omega) (QLE 3 (.tmp 47) 48 3 a19 (k * 1) 0 ([vi y44]) (vi y44) (fun w hw => (hw.rdO 5 rfl).flat hx_y44) (QU 3 [(51, B (y44 == m2.2.2))] (QSP 51 (y44 == m2.2.2) (fun bh47 => ?_) (fun bh47 => ?_)))))))))))))
      ·
       have h47 := eq_of_beq bh47
       refine QU 15 [(66, B true)] (QEND rfl (NEXT (IFT (by kernel_rfl) (SEQ (RG (UU 1 [(2, B false)] (ENDOPS (NEXT (RF rfl (.bool false) () [] ?_ ?_)))))))))
       · (first | rfl | (exfalso; simp_all [eqInts_refl]; done) | (exfalso; have h9 := nextOffer_passed (by assumption); simp_all; done) | (exfalso; have h9 := passed_id (List.mem_of_getElem? hx_y44); omega))
       · rfl
      ·
       have h47 := ne_of_beq_false bh47
       refine QU 3 [(54, B (decide ((k : Int) > 0)))] (QSP 54 (decide ((k : Int) > 0)) (fun bh48 => ?_) (fun bh48 => ?_))
       ·
        have h48 := of_decide_eq_true bh48
        refine QU 3 [(55, .v (.slice a19 ((passed m2.1 m2.2.1 m2.2.2).length) c20)), (57, I (wr ((k : Int) - 1)))] ?_
        obtain ⟨x49, hx50⟩ : ∃ y, (passed m2.1 m2.2.1 m2.2.2)[(wr ((k : Int) - 1)).toNat]? = some y := ⟨_, List.getElem?_eq_getElem (by omega)⟩
        refine QIX 24 (.tmp 55) (.tmp 57) 58 0 a19 ((passed m2.1 m2.2.1 m2.2.2).length) c20 .i64 (wr ((k : Int) - 1)) 3 1 hs46 (by omega) (by omega) (QLE 3 (.tmp 58) 59 3 a19 ((wr ((k : Int) - 1)).toNat * 1) 0 ([vi x49]) (vi x49) (fun w hw => (hw.rdO 5 rfl).flat hx50) (QU 2 [(60, .v (.slice a19 ((passed m2.1 m2.2.1 m2.2.2).length) c20)), (61, I (k : Int))] (QIX 24 (.tmp 60) (.tmp 61) 62 0 a19 ((passed m2.1 m2.2.1 m2.2.2).length) c20 .i64 (k : Int) 3 1 hs46 (by omega) (by omega) (QLE 3 (.tmp 62) 63 3 a19 (k * 1) 0 ([vi y44]) (vi y44) (fun w hw => (hw.rdO 5 rfl).flat hx_y44) (QU 3 [(66, B (decide (x49 ≥ y44)))] (QEND rfl (NEXT (IFK (decide (x49 ≥ y44)) (fun bh51 => ?_) (fun bh51 => ?_)))))))))
        ·
         have h51 := of_decide_eq_true bh51
         refine SEQ (RG (UU 1 [(2, B false)] (ENDOPS (NEXT (RF rfl (.bool false) () [] ?_ ?_)))))
         · (first | rfl | (exfalso; simp_all [eqInts_refl]; done) | (exfalso; have h9 := nextOffer_passed (by assumption); simp_all; done) | (exfalso; have h9 := passed_id (List.mem_of_getElem? hx_y44); omega) | (exfalso; have h9 := passed_lt (i := k) (by omega) (by rw [show k - 1 = (wr ((k : Int) - 1)).toNat by omega]; exact hx50) hx_y44; omega))
         · rfl
        ·
         have h51 := of_decide_eq_false bh51
         refine SKIP (OUTN (NEXT (RG (UU 2 [(44, I (wr ((k : Int) + 1)))] (CS 44 (vi (wr ((k : Int) + 1))) (vi ((k + 1 : Nat) : Int)) (vi_cast (by omega) (by omega)) (UU 1 [(8, I ((k + 1 : Nat) : Int))] (ENDOPS (BK (k + 1, ys45) [5, 6, 8] 1 [0, 0, 0, 0, 0, 0, 0, 0] ⟨hl_y44, hd_y44⟩ (by simp)))))))))
       ·
        have h48 := of_decide_eq_false bh48
        refine QU 12 [(66, B false)] (QEND rfl (NEXT (IFF (by kernel_rfl) (SKIP (OUTN (NEXT (RG (UU 2 [(44, I (wr ((k : Int) + 1)))] (CS 44 (vi (wr ((k : Int) + 1))) (vi ((k + 1 : Nat) : Int)) (vi_cast (by omega) (by omega)) (UU 1 [(8, I ((k + 1 : Nat) : Int))] (ENDOPS (BK (k + 1, ys45) [5, 6, 8] 1 [0, 0, 0, 0, 0, 0, 0, 0] ⟨hl_y44, hd_y44⟩ (by simp)))))))))))))
     ·
      have h43 := of_decide_eq_false bh43
      obtain rfl := drop_nil hk (by omega)
      refine EXIT (PASS trivial (PASS trivial (OUT (NEXT (SEQ (RG (UU 1 [(2, B true)] (ENDOPS (NEXT (RF rfl (.bool true) () [] ?_ ?_))))))))))
      · (first | rfl | (exfalso; simp_all [eqInts_refl]; done) | (exfalso; have h9 := nextOffer_passed (by assumption); simp_all; done))
      · rfl

end SX
end Go.Proofs.YtcbpmjfjdjpalaaGreat
