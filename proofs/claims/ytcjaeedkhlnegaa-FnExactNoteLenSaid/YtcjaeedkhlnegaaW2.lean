/- Walks, printed by program. -/
import Derived.Test.YtcjaeedkhlnegaaW1
import Derived.Test.YtcjaeedkhlnegaaSx8
namespace Go.Proofs.Ytcjaeedkhlnegaa
namespace SX
open Go Go.RowKit
set_option linter.unusedVariables false
set_option linter.unusedSimpArgs false
set_option maxRecDepth 10000
theorem isIndex_c (W : World) (n : Int) (size : Int) : Spec Try.prog W [] 31 #[vi n, vi size] (RV (.bool (inB n 0 (wr (size - 1))))) := by
  refine ENTER0 (N := 9) (vs := [vi n, vi size]) Try.func31 rfl rfl (Nat.le_of_ble_eq_true rfl) ?_
  refine SEQ (REGION [0] rfl (RUN0 1 [] [(0, I n), (1, I size)] ?_ rfl ?_))
  · as_aux_lemma => kernel_rfl
  refine ENDOPS (NEXT (SEQ (REGION [0, 1, 2, 3, 4] rfl (RUN0 3 [3, 4] [(5, I n), (7, I (wr (size - 1)))] ?_ rfl ?_))))
  · as_aux_lemma => kernel_rfl
  refine OPC (CALL 26 #[vi n, vi 0, vi (wr (size - 1))] (some 8) ?_ [] [] _ rfl (RV (.bool (inB n 0 (wr (size - 1))))) (fun w hw => within_c w n 0 (wr (size - 1))) (by rintro _ ⟨⟩; exact Nat.le_of_ble_eq_true rfl) ?_)
  · as_aux_lemma => kernel_rfl
  rintro ⟨⟩
  refine RUN0 1 [] [(4, B (inB n 0 (wr (size - 1))))] ?_ rfl ?_
  · as_aux_lemma => kernel_rfl
  refine ENDOPS (NEXT (RET (FIN (.bool (inB n 0 (wr (size - 1)))) ?_ () ?_ [] ?_)))
  · as_aux_lemma => kernel_rfl
  · simp [RV]
  · rfl

theorem toRules_c (W : World) (a : Rules) (a_seats_a : Option Addr) (a_seats_c : Nat) (ha_seats : Rd intL W a_seats_a a.seats) (hb : a.seats.length ≤ 1048576) : Spec Try.prog W [] 12 #[.agg #[.slice a_seats_a a.seats.length a_seats_c, vi a.tiers, vi a.room, vi a.size, vi a.period, vi a.window, vi a.rest, vi a.tries, vi a.crew]] (⟨HH, fun p => .agg #[.slice p.1 a.seats.length p.2, vi a.tiers, vi a.room, vi a.size, vi a.period, vi a.window, vi a.rest, vi a.tries, vi a.crew], fun p => [slA 3 intL (.slice p.1 a.seats.length p.2) a.seats]⟩) := by
  refine ENTER0 (N := 33) (vs := [.agg #[.slice a_seats_a a.seats.length a_seats_c, vi a.tiers, vi a.room, vi a.size, vi a.period, vi a.window, vi a.rest, vi a.tries, vi a.crew]]) Try.func12 rfl rfl (Nat.le_of_ble_eq_true rfl) ?_
  have ha_seats_len := ha_seats.len
  refine SEQ (REGION [0, 1] rfl (RUN 2 [] [(1, .p 0 0), (2, .p 1 0)] [(26, [.slice a_seats_a a.seats.length a_seats_c, vi a.tiers, vi a.room, vi a.size, vi a.period, vi a.window, vi a.rest, vi a.tries, vi a.crew]), (29, [.slice none 0 0, vi 0, vi 0, vi 0, vi 0, vi 0, vi 0, vi 0, vi 0])] ?_ rfl ?_))
  · as_aux_lemma => kernel_rfl
  refine ENDOPS (NEXT (SEQ (REGION [0] rfl (RUN 1 [] [(1, .p 0 0), (2, .p 1 0), (3, .p 2 0)] [(26, [.slice a_seats_a a.seats.length a_seats_c, vi a.tiers, vi a.room, vi a.size, vi a.period, vi a.window, vi a.rest, vi a.tries, vi a.crew]), (29, [.slice none 0 0, vi 0, vi 0, vi 0, vi 0, vi 0, vi 0, vi 0, vi 0]), (29, [.slice none 0 0, vi 0, vi 0, vi 0, vi 0, vi 0, vi 0, vi 0, vi 0])] ?_ rfl ?_))))
  · as_aux_lemma => kernel_rfl
  refine ENDOPS (NEXT (SEQ (REGION [0, 1, 2, 3, 4] rfl (RUN0 2 [2, 3, 4] [(1, .p 0 0), (2, .p 1 0), (3, .p 2 0), (5, .v (.slice a_seats_a a.seats.length a_seats_c))] ?_ rfl ?_))))
  · as_aux_lemma => kernel_rfl
  refine OPC (CALL 29 #[.slice a_seats_a a.seats.length a_seats_c] (some 6) ?_ [] [] _ rfl (⟨HH, fun p => .slice p.1 a.seats.length p.2, fun p => [slA 3 intL (.slice p.1 a.seats.length p.2) a.seats]⟩) (fun w hw => toIntS_c w a.seats a_seats_a a_seats_c (ha_seats.fr hw.fr) (by omega)) (by rintro _ ⟨⟩; exact Nat.le_of_ble_eq_true rfl) ?_)
  · as_aux_lemma => kernel_rfl
  rintro ⟨a1, c2⟩
  refine RUN 2 [] [(1, .p 0 0), (2, .p 1 0), (3, .p 2 0)] [(26, [.slice a_seats_a a.seats.length a_seats_c, vi a.tiers, vi a.room, vi a.size, vi a.period, vi a.window, vi a.rest, vi a.tries, vi a.crew]), (29, [.slice none 0 0, vi 0, vi 0, vi 0, vi 0, vi 0, vi 0, vi 0, vi 0]), (29, [.slice a1 a.seats.length c2, vi 0, vi 0, vi 0, vi 0, vi 0, vi 0, vi 0, vi 0])] ?_ rfl ?_
  · as_aux_lemma => kernel_rfl
  refine ENDOPS (NEXT (SEQ (REGION [0, 1, 2, 3] rfl (RUN 4 [] [(1, .p 0 0), (2, .p 1 0), (3, .p 2 0)] [(26, [.slice a_seats_a a.seats.length a_seats_c, vi a.tiers, vi a.room, vi a.size, vi a.period, vi a.window, vi a.rest, vi a.tries, vi a.crew]), (29, [.slice none 0 0, vi 0, vi 0, vi 0, vi 0, vi 0, vi 0, vi 0, vi 0]), (29, [.slice a1 a.seats.length c2, vi a.tiers, vi 0, vi 0, vi 0, vi 0, vi 0, vi 0, vi 0])] ?_ rfl ?_))))
  · as_aux_lemma => kernel_rfl
  refine ENDOPS (NEXT (SEQ (REGION [0, 1, 2, 3] rfl (RUN 4 [] [(1, .p 0 0), (2, .p 1 0), (3, .p 2 0)] [(26, [.slice a_seats_a a.seats.length a_seats_c, vi a.tiers, vi a.room, vi a.size, vi a.period, vi a.window, vi a.rest, vi a.tries, vi a.crew]), (29, [.slice none 0 0, vi 0, vi 0, vi 0, vi 0, vi 0, vi 0, vi 0, vi 0]), (29, [.slice a1 a.seats.length c2, vi a.tiers, vi a.room, vi 0, vi 0, vi 0, vi 0, vi 0, vi 0])] ?_ rfl ?_))))
  · as_aux_lemma => kernel_rfl
  refine ENDOPS (NEXT (SEQ (REGION [0, 1, 2, 3] rfl (RUN 4 [] [(1, .p 0 0), (2, .p 1 0), (3, .p 2 0)] [(26, [.slice a_seats_a a.seats.length a_seats_c, vi a.tiers, vi a.room, vi a.size, vi a.period, vi a.window, vi a.rest, vi a.tries, vi a.crew]), (29, [.slice none 0 0, vi 0, vi 0, vi 0, vi 0, vi 0, vi 0, vi 0, vi 0]), (29, [.slice a1 a.seats.length c2, vi a.tiers, vi a.room, vi a.size, vi 0, vi 0, vi 0, vi 0, vi 0])] ?_ rfl ?_))))
  · as_aux_lemma => kernel_rfl
  refine ENDOPS (NEXT (SEQ (REGION [0, 1, 2, 3] rfl (RUN 4 [] [(1, .p 0 0), (2, .p 1 0), (3, .p 2 0)] [(26, [.slice a_seats_a a.seats.length a_seats_c, vi a.tiers, vi a.room, vi a.size, vi a.period, vi a.window, vi a.rest, vi a.tries, vi a.crew]), (29, [.slice none 0 0, vi 0, vi 0, vi 0, vi 0, vi 0, vi 0, vi 0, vi 0]), (29, [.slice a1 a.seats.length c2, vi a.tiers, vi a.room, vi a.size, vi a.period, vi 0, vi 0, vi 0, vi 0])] ?_ rfl ?_))))
  · as_aux_lemma => kernel_rfl
  refine ENDOPS (NEXT (SEQ (REGION [0, 1, 2, 3] rfl (RUN 4 [] [(1, .p 0 0), (2, .p 1 0), (3, .p 2 0)] [(26, [.slice a_seats_a a.seats.length a_seats_c, vi a.tiers, vi a.room, vi a.size, vi a.period, vi a.window, vi a.rest, vi a.tries, vi a.crew]), (29, [.slice none 0 0, vi 0, vi 0, vi 0, vi 0, vi 0, vi 0, vi 0, vi 0]), (29, [.slice a1 a.seats.length c2, vi a.tiers, vi a.room, vi a.size, vi a.period, vi a.window, vi 0, vi 0, vi 0])] ?_ rfl ?_))))
  · as_aux_lemma => kernel_rfl
  refine ENDOPS (NEXT (SEQ (REGION [0, 1, 2, 3] rfl (RUN 4 [] [(1, .p 0 0), (2, .p 1 0), (3, .p 2 0)] [(26, [.slice a_seats_a a.seats.length a_seats_c, vi a.tiers, vi a.room, vi a.size, vi a.period, vi a.window, vi a.rest, vi a.tries, vi a.crew]), (29, [.slice none 0 0, vi 0, vi 0, vi 0, vi 0, vi 0, vi 0, vi 0, vi 0]), (29, [.slice a1 a.seats.length c2, vi a.tiers, vi a.room, vi a.size, vi a.period, vi a.window, vi a.rest, vi 0, vi 0])] ?_ rfl ?_))))
  · as_aux_lemma => kernel_rfl
  refine ENDOPS (NEXT (SEQ (REGION [0, 1, 2, 3] rfl (RUN 4 [] [(1, .p 0 0), (2, .p 1 0), (3, .p 2 0)] [(26, [.slice a_seats_a a.seats.length a_seats_c, vi a.tiers, vi a.room, vi a.size, vi a.period, vi a.window, vi a.rest, vi a.tries, vi a.crew]), (29, [.slice none 0 0, vi 0, vi 0, vi 0, vi 0, vi 0, vi 0, vi 0, vi 0]), (29, [.slice a1 a.seats.length c2, vi a.tiers, vi a.room, vi a.size, vi a.period, vi a.window, vi a.rest, vi a.tries, vi 0])] ?_ rfl ?_))))
  · as_aux_lemma => kernel_rfl
  refine ENDOPS (NEXT (SEQ (REGION [0, 1, 2, 3] rfl (RUN 4 [] [(2, .p 1 0), (3, .p 2 0)] [(26, [.slice a_seats_a a.seats.length a_seats_c, vi a.tiers, vi a.room, vi a.size, vi a.period, vi a.window, vi a.rest, vi a.tries, vi a.crew]), (29, [.slice none 0 0, vi 0, vi 0, vi 0, vi 0, vi 0, vi 0, vi 0, vi 0]), (29, [.slice a1 a.seats.length c2, vi a.tiers, vi a.room, vi a.size, vi a.period, vi a.window, vi a.rest, vi a.tries, vi a.crew])] ?_ rfl ?_))))
  · as_aux_lemma => kernel_rfl
  refine ENDOPS (NEXT (SEQ (REGION [0, 1] rfl (RUN 2 [] [(2, .p 1 0)] [(26, [.slice a_seats_a a.seats.length a_seats_c, vi a.tiers, vi a.room, vi a.size, vi a.period, vi a.window, vi a.rest, vi a.tries, vi a.crew]), (29, [.slice a1 a.seats.length c2, vi a.tiers, vi a.room, vi a.size, vi a.period, vi a.window, vi a.rest, vi a.tries, vi a.crew]), (29, [.slice a1 a.seats.length c2, vi a.tiers, vi a.room, vi a.size, vi a.period, vi a.window, vi a.rest, vi a.tries, vi a.crew])] ?_ rfl ?_))))
  · as_aux_lemma => kernel_rfl
  refine ENDOPS (NEXT (RET (FIN (.agg #[.slice a1 a.seats.length c2, vi a.tiers, vi a.room, vi a.size, vi a.period, vi a.window, vi a.rest, vi a.tries, vi a.crew]) ?_ (a1, c2) ?_ [0] ?_)))
  · as_aux_lemma => kernel_rfl
  · rfl
  · rfl

theorem eqIntS_c (W : World) (a : List Int) (a_a : Option Addr) (a_c : Nat) (ha : Rd intL W a_a a) (b : List Int) (b_a : Option Addr) (b_c : Nat) (hb : Rd intL W b_a b) : Spec Try.prog W [] 32 #[.slice a_a a.length a_c, .slice b_a b.length b_c] (RV (.bool (eqInts a b))) := by
  refine ENTER0 (N := 26) (vs := [.slice a_a a.length a_c, .slice b_a b.length b_c]) Try.func32 rfl rfl (Nat.le_of_ble_eq_true rfl) ?_
  have ha_len := ha.len
  have hb_len := hb.len
  refine SEQ (REGION [0] rfl (RUN0 1 [] [(0, .v (.slice a_a a.length a_c)), (1, .v (.slice b_a b.length b_c))] ?_ rfl ?_))
  · as_aux_lemma => kernel_rfl
  refine ENDOPS (NEXT (SEQ (SEQ (REGION [0, 1, 2, 3, 4] rfl (RUN0 5 [] [(0, .v (.slice a_a a.length a_c)), (1, .v (.slice b_a b.length b_c)), (10, B ((a.length : Int) != (b.length : Int)))] ?_ rfl ?_)))))
  · as_aux_lemma => kernel_rfl
  refine ENDOPS (NEXT (IF ((a.length : Int) != (b.length : Int)) ?_ (fun bh1 => ?_) (fun bh1 => ?_)))
  · as_aux_lemma => kernel_rfl
  · -- (a.length : Int) != (b.length : Int) = true
    have h1 := bh1
    have h1 := bne_iff_ne.1 h1
    refine SEQ (REGION [0] rfl (RUN0 1 [] [(4, B false)] ?_ rfl ?_))
    · as_aux_lemma => kernel_rfl
    refine ENDOPS (NEXT (RET (PASS trivial (FIN (.bool false) ?_ () ?_ [] ?_))))
    · as_aux_lemma => kernel_rfl
    · simp [RV, eqInts_ne (a := a) (b := b) (by omega)]
    · rfl
  · -- (a.length : Int) != (b.length : Int) = false
    have h1 := bh1
    have h1 := bneF h1
    refine SKIP (NEXT (SEQ (SEQ (REGION [0] rfl (RUN0 1 [] [(0, .v (.slice a_a a.length a_c)), (1, .v (.slice b_a b.length b_c)), (5, I 0)] ?_ rfl ?_)))))
    · as_aux_lemma => kernel_rfl
    refine ENDOPS (NEXT (BLOCK (LOOP (ι := Nat × (List Int)) (fun j => [(0, .v (.slice a_a a.length a_c)), (1, .v (.slice b_a b.length b_c)), (5, I (j.1 : Int))]) (fun j => []) (fun j => []) (fun j => j.1 + j.2.length = a.length ∧ a.drop j.1 = j.2 ∧ eqInts a b = eqInts j.2 (b.drop j.1)) (fun j => j.2.length) (0, a) [0, 1, 5] ⟨by simp, rfl, rfl⟩ ?_ rfl rfl ?_)))
    · as_aux_lemma => kernel_rfl
    rintro ⟨k, ys⟩ ⟨hk, hd, hv0⟩
    dsimp only at hk hd hv0
    refine SEQ (SEQ (REGION [0, 1, 2, 3] rfl (RUN0 4 [] [(0, .v (.slice a_a a.length a_c)), (1, .v (.slice b_a b.length b_c)), (5, I (k : Int)), (14, B (decide ((k : Int) < (a.length : Int))))] ?_ rfl ?_)))
    · as_aux_lemma => kernel_rfl
    refine ENDOPS (NEXT (IF (decide ((k : Int) < (a.length : Int))) ?_ (fun bh2 => ?_) (fun bh2 => ?_)))
    · as_aux_lemma => kernel_rfl
    · -- decide ((k : Int) < (a.length : Int)) = true
      have h2 := bh2
      have h2 := of_decide_eq_true h2
      obtain ⟨y3, ys4, rfl, hx_y3, hd_y3, hl_y3⟩ := drop_cons hd hk (by omega)
      refine SKIP (NEXT (SEQ (BLOCK (SEQ (REGIONQ ?_ ?_ ?_)))))
      · as_aux_lemma => kernel_rfl
      · as_aux_lemma => kernel_rfl
      refine QRUN 2 0 2 [(0, .v (.slice a_a a.length a_c)), (1, .v (.slice b_a b.length b_c)), (5, I (k : Int)), (17, .v (.slice a_a a.length a_c)), (18, I (k : Int))] ?_ rfl ?_
      · as_aux_lemma => kernel_rfl
      refine QINDEX 24 (.tmp 17) (.tmp 18) 19 0 ?_ (Nat.le_of_ble_eq_true rfl) a_a a.length a_c .i64 (k : Int) 3 1 ?_ ?_ ?_ ?_ (Rd.some ha (by omega)) (by omega) (by omega) ?_
      · as_aux_lemma => kernel_rfl
      · as_aux_lemma => kernel_rfl
      · as_aux_lemma => kernel_rfl
      · as_aux_lemma => kernel_rfl
      · as_aux_lemma => kernel_rfl
      refine QLOADE 3 (.tmp 19) 20 3 ?_ (Nat.le_of_ble_eq_true rfl) a_a (k * 1) 0 [vi y3] (vi y3) ?_ (fun w hw => (ha.fr hw.fr).flat hx_y3) ?_ ?_
      · as_aux_lemma => kernel_rfl
      · as_aux_lemma => kernel_rfl
      · as_aux_lemma => kernel_rfl
      refine QRUN 2 4 6 [(0, .v (.slice a_a a.length a_c)), (1, .v (.slice b_a b.length b_c)), (5, I (k : Int)), (20, I y3), (21, .v (.slice b_a b.length b_c)), (22, I (k : Int))] ?_ rfl ?_
      · as_aux_lemma => kernel_rfl
      obtain ⟨x5, hx6⟩ : ∃ y, b[k]? = some y := ⟨_, List.getElem?_eq_getElem (by omega)⟩
      refine QINDEX 24 (.tmp 21) (.tmp 22) 23 0 ?_ (Nat.le_of_ble_eq_true rfl) b_a b.length b_c .i64 (k : Int) 3 1 ?_ ?_ ?_ ?_ (Rd.some hb (by omega)) (by omega) (by omega) ?_
      · as_aux_lemma => kernel_rfl
      · as_aux_lemma => kernel_rfl
      · as_aux_lemma => kernel_rfl
      · as_aux_lemma => kernel_rfl
      · as_aux_lemma => kernel_rfl
      refine QLOADE 3 (.tmp 23) 24 3 ?_ (Nat.le_of_ble_eq_true rfl) b_a (k * 1) 0 [vi x5] (vi x5) ?_ (fun w hw => (hb.fr hw.fr).flat hx6) ?_ ?_
      · as_aux_lemma => kernel_rfl
      · as_aux_lemma => kernel_rfl
      · as_aux_lemma => kernel_rfl
      refine QRUN 1 8 9 [(0, .v (.slice a_a a.length a_c)), (1, .v (.slice b_a b.length b_c)), (5, I (k : Int)), (25, B (y3 != x5))] ?_ rfl ?_
      · as_aux_lemma => kernel_rfl
      refine QEND rfl (NEXT (IF (y3 != x5) ?_ (fun bh7 => ?_) (fun bh7 => ?_)))
      · as_aux_lemma => kernel_rfl
      · -- y3 != x5 = true
        have h7 := bh7
        have h7 := bne_iff_ne.1 h7
        refine SEQ (REGION [0] rfl (RUN0 1 [] [(4, B false)] ?_ rfl ?_))
        · as_aux_lemma => kernel_rfl
        refine ENDOPS (NEXT (RET (OUTR (PASS trivial (PASS trivial (OUTR (PASS trivial (FIN (.bool false) ?_ () ?_ [] ?_))))))))
        · as_aux_lemma => kernel_rfl
        · simp [RV, hv0, drop_get ‹b[k]? = some _›, eqInts, *]
        · rfl
      · -- y3 != x5 = false
        have h7 := bh7
        have h7 := bneF h7
        refine SKIP (OUTN (NEXT (REGION [0, 1, 2] rfl (RUN0 2 [2] [(0, .v (.slice a_a a.length a_c)), (1, .v (.slice b_a b.length b_c)), (16, I (wr ((k : Int) + 1)))] ?_ rfl ?_))))
        · as_aux_lemma => kernel_rfl
        refine CAST (d := 16) (vi (wr ((k : Int) + 1))) (vi ((k + 1 : Nat) : Int)) ?_ (vi_cast (by omega) (by omega)) ?_
        · as_aux_lemma => kernel_rfl
        refine RUN0 1 [] [(0, .v (.slice a_a a.length a_c)), (1, .v (.slice b_a b.length b_c)), (5, I ((k + 1 : Nat) : Int))] ?_ rfl ?_
        · as_aux_lemma => kernel_rfl
        refine ENDOPS (BACK (k + 1, ys4) [0, 1, 5] 0 [] _ ⟨hl_y3, hd_y3, hv0.trans (by simp [eqInts, drop_get ‹b[k]? = some _›, *])⟩ (by simp) ?_ rfl rfl rfl)
        · as_aux_lemma => kernel_rfl
    · -- decide ((k : Int) < (a.length : Int)) = false
      have h2 := bh2
      have h2 := of_decide_eq_false h2
      obtain rfl := drop_nil hk (by omega)
      refine EXIT (PASS trivial (PASS trivial (OUT (NEXT (SEQ (REGION [0] rfl (RUN0 1 [] [(4, B true)] ?_ rfl ?_)))))))
      · as_aux_lemma => kernel_rfl
      refine ENDOPS (NEXT (RET (FIN (.bool true) ?_ () ?_ [] ?_)))
      · as_aux_lemma => kernel_rfl
      · simp [RV, hv0, eqInts, List.drop_eq_nil_of_le (show b.length ≤ k by simp at hk; omega)]
      · rfl

theorem eqRules_c (W : World) (a : Rules) (a_seats_a : Option Addr) (a_seats_c : Nat) (ha_seats : Rd intL W a_seats_a a.seats) (b : Rules) (b_seats_a : Option Addr) (b_seats_c : Nat) (hb_seats : Rd intL W b_seats_a b.seats) : Spec Try.prog W [] 14 #[.agg #[.slice a_seats_a a.seats.length a_seats_c, vi a.tiers, vi a.room, vi a.size, vi a.period, vi a.window, vi a.rest, vi a.tries, vi a.crew], .agg #[.slice b_seats_a b.seats.length b_seats_c, vi b.tiers, vi b.room, vi b.size, vi b.period, vi b.window, vi b.rest, vi b.tries, vi b.crew]] (RV (.bool (eqRules a b))) := by
  refine ENTER0 (N := 51) (vs := [.agg #[.slice a_seats_a a.seats.length a_seats_c, vi a.tiers, vi a.room, vi a.size, vi a.period, vi a.window, vi a.rest, vi a.tries, vi a.crew], .agg #[.slice b_seats_a b.seats.length b_seats_c, vi b.tiers, vi b.room, vi b.size, vi b.period, vi b.window, vi b.rest, vi b.tries, vi b.crew]]) Try.func14 rfl rfl (Nat.le_of_ble_eq_true rfl) ?_
  have ha_seats_len := ha_seats.len
  have hb_seats_len := hb_seats.len
  refine SEQ (REGION [0, 1, 2] rfl (RUN 3 [] [(2, .p 0 0), (3, .p 1 0)] [(29, [.slice a_seats_a a.seats.length a_seats_c, vi a.tiers, vi a.room, vi a.size, vi a.period, vi a.window, vi a.rest, vi a.tries, vi a.crew]), (29, [.slice b_seats_a b.seats.length b_seats_c, vi b.tiers, vi b.room, vi b.size, vi b.period, vi b.window, vi b.rest, vi b.tries, vi b.crew])] ?_ rfl ?_))
  · as_aux_lemma => kernel_rfl
  refine ENDOPS (NEXT (SEQ (SEQ (REGION [0, 1, 2, 3, 4, 5] rfl (RUN0 4 [4, 5] [(2, .p 0 0), (3, .p 1 0), (6, .v (.slice a_seats_a a.seats.length a_seats_c)), (8, .v (.slice b_seats_a b.seats.length b_seats_c))] ?_ rfl ?_)))))
  · as_aux_lemma => kernel_rfl
  refine OPC (CALL 32 #[.slice a_seats_a a.seats.length a_seats_c, .slice b_seats_a b.seats.length b_seats_c] (some 9) ?_ [] [] _ rfl (RV (.bool (eqInts a.seats b.seats))) (fun w hw => eqIntS_c w a.seats a_seats_a a_seats_c (ha_seats.fr hw.fr) b.seats b_seats_a b_seats_c (hb_seats.fr hw.fr)) (by rintro _ ⟨⟩; exact Nat.le_of_ble_eq_true rfl) ?_)
  · as_aux_lemma => kernel_rfl
  rintro ⟨⟩
  refine RUN0 1 [] [(2, .p 0 0), (3, .p 1 0), (10, B (!(eqInts a.seats b.seats)))] ?_ rfl ?_
  · as_aux_lemma => kernel_rfl
  refine ENDOPS (NEXT (IF (!(eqInts a.seats b.seats)) ?_ (fun bh1 => ?_) (fun bh1 => ?_)))
  · as_aux_lemma => kernel_rfl
  · -- !(eqInts a.seats b.seats) = true
    have h1 := bh1
    have h1 := notT h1
    refine SEQ (REGION [0] rfl (RUN0 1 [] [(4, B false)] ?_ rfl ?_))
    · as_aux_lemma => kernel_rfl
    refine ENDOPS (NEXT (RET (PASS trivial (FIN (.bool false) ?_ () ?_ [] ?_))))
    · as_aux_lemma => kernel_rfl
    · simp [RV, eqRules, *]
    · rfl
  · -- !(eqInts a.seats b.seats) = false
    have h1 := bh1
    have h1 := notF h1
    refine SKIP (NEXT (SEQ (SEQ (REGION [0, 1, 2, 3, 4] rfl (RUN0 5 [] [(2, .p 0 0), (3, .p 1 0), (15, B (a.tiers != b.tiers))] ?_ rfl ?_)))))
    · as_aux_lemma => kernel_rfl
    refine ENDOPS (NEXT (IF (a.tiers != b.tiers) ?_ (fun bh2 => ?_) (fun bh2 => ?_)))
    · as_aux_lemma => kernel_rfl
    · -- a.tiers != b.tiers = true
      have h2 := bh2
      have h2 := bne_iff_ne.1 h2
      refine SEQ (REGION [0] rfl (RUN0 1 [] [(4, B false)] ?_ rfl ?_))
      · as_aux_lemma => kernel_rfl
      refine ENDOPS (NEXT (RET (PASS trivial (FIN (.bool false) ?_ () ?_ [] ?_))))
      · as_aux_lemma => kernel_rfl
      · simp [RV, eqRules, *]
      · rfl
    · -- a.tiers != b.tiers = false
      have h2 := bh2
      have h2 := bneF h2
      refine SKIP (NEXT (SEQ (SEQ (REGION [0, 1, 2, 3, 4] rfl (RUN0 5 [] [(2, .p 0 0), (3, .p 1 0), (20, B (a.room != b.room))] ?_ rfl ?_)))))
      · as_aux_lemma => kernel_rfl
      refine ENDOPS (NEXT (IF (a.room != b.room) ?_ (fun bh3 => ?_) (fun bh3 => ?_)))
      · as_aux_lemma => kernel_rfl
      · -- a.room != b.room = true
        have h3 := bh3
        have h3 := bne_iff_ne.1 h3
        refine SEQ (REGION [0] rfl (RUN0 1 [] [(4, B false)] ?_ rfl ?_))
        · as_aux_lemma => kernel_rfl
        refine ENDOPS (NEXT (RET (PASS trivial (FIN (.bool false) ?_ () ?_ [] ?_))))
        · as_aux_lemma => kernel_rfl
        · simp [RV, eqRules, *]
        · rfl
      · -- a.room != b.room = false
        have h3 := bh3
        have h3 := bneF h3
        refine SKIP (NEXT (SEQ (SEQ (REGION [0, 1, 2, 3, 4] rfl (RUN0 5 [] [(2, .p 0 0), (3, .p 1 0), (25, B (a.size != b.size))] ?_ rfl ?_)))))
        · as_aux_lemma => kernel_rfl
        refine ENDOPS (NEXT (IF (a.size != b.size) ?_ (fun bh4 => ?_) (fun bh4 => ?_)))
        · as_aux_lemma => kernel_rfl
        · -- a.size != b.size = true
          have h4 := bh4
          have h4 := bne_iff_ne.1 h4
          refine SEQ (REGION [0] rfl (RUN0 1 [] [(4, B false)] ?_ rfl ?_))
          · as_aux_lemma => kernel_rfl
          refine ENDOPS (NEXT (RET (PASS trivial (FIN (.bool false) ?_ () ?_ [] ?_))))
          · as_aux_lemma => kernel_rfl
          · simp [RV, eqRules, *]
          · rfl
        · -- a.size != b.size = false
          have h4 := bh4
          have h4 := bneF h4
          refine SKIP (NEXT (SEQ (SEQ (REGION [0, 1, 2, 3, 4] rfl (RUN0 5 [] [(2, .p 0 0), (3, .p 1 0), (30, B (a.period != b.period))] ?_ rfl ?_)))))
          · as_aux_lemma => kernel_rfl
          refine ENDOPS (NEXT (IF (a.period != b.period) ?_ (fun bh5 => ?_) (fun bh5 => ?_)))
          · as_aux_lemma => kernel_rfl
          · -- a.period != b.period = true
            have h5 := bh5
            have h5 := bne_iff_ne.1 h5
            refine SEQ (REGION [0] rfl (RUN0 1 [] [(4, B false)] ?_ rfl ?_))
            · as_aux_lemma => kernel_rfl
            refine ENDOPS (NEXT (RET (PASS trivial (FIN (.bool false) ?_ () ?_ [] ?_))))
            · as_aux_lemma => kernel_rfl
            · simp [RV, eqRules, *]
            · rfl
          · -- a.period != b.period = false
            have h5 := bh5
            have h5 := bneF h5
            refine SKIP (NEXT (SEQ (SEQ (REGION [0, 1, 2, 3, 4] rfl (RUN0 5 [] [(2, .p 0 0), (3, .p 1 0), (35, B (a.window != b.window))] ?_ rfl ?_)))))
            · as_aux_lemma => kernel_rfl
            refine ENDOPS (NEXT (IF (a.window != b.window) ?_ (fun bh6 => ?_) (fun bh6 => ?_)))
            · as_aux_lemma => kernel_rfl
            · -- a.window != b.window = true
              have h6 := bh6
              have h6 := bne_iff_ne.1 h6
              refine SEQ (REGION [0] rfl (RUN0 1 [] [(4, B false)] ?_ rfl ?_))
              · as_aux_lemma => kernel_rfl
              refine ENDOPS (NEXT (RET (PASS trivial (FIN (.bool false) ?_ () ?_ [] ?_))))
              · as_aux_lemma => kernel_rfl
              · simp [RV, eqRules, *]
              · rfl
            · -- a.window != b.window = false
              have h6 := bh6
              have h6 := bneF h6
              refine SKIP (NEXT (SEQ (SEQ (REGION [0, 1, 2, 3, 4] rfl (RUN0 5 [] [(2, .p 0 0), (3, .p 1 0), (40, B (a.rest != b.rest))] ?_ rfl ?_)))))
              · as_aux_lemma => kernel_rfl
              refine ENDOPS (NEXT (IF (a.rest != b.rest) ?_ (fun bh7 => ?_) (fun bh7 => ?_)))
              · as_aux_lemma => kernel_rfl
              · -- a.rest != b.rest = true
                have h7 := bh7
                have h7 := bne_iff_ne.1 h7
                refine SEQ (REGION [0] rfl (RUN0 1 [] [(4, B false)] ?_ rfl ?_))
                · as_aux_lemma => kernel_rfl
                refine ENDOPS (NEXT (RET (PASS trivial (FIN (.bool false) ?_ () ?_ [] ?_))))
                · as_aux_lemma => kernel_rfl
                · simp [RV, eqRules, *]
                · rfl
              · -- a.rest != b.rest = false
                have h7 := bh7
                have h7 := bneF h7
                refine SKIP (NEXT (SEQ (SEQ (REGION [0, 1, 2, 3, 4] rfl (RUN0 5 [] [(2, .p 0 0), (3, .p 1 0), (45, B (a.tries != b.tries))] ?_ rfl ?_)))))
                · as_aux_lemma => kernel_rfl
                refine ENDOPS (NEXT (IF (a.tries != b.tries) ?_ (fun bh8 => ?_) (fun bh8 => ?_)))
                · as_aux_lemma => kernel_rfl
                · -- a.tries != b.tries = true
                  have h8 := bh8
                  have h8 := bne_iff_ne.1 h8
                  refine SEQ (REGION [0] rfl (RUN0 1 [] [(4, B false)] ?_ rfl ?_))
                  · as_aux_lemma => kernel_rfl
                  refine ENDOPS (NEXT (RET (PASS trivial (FIN (.bool false) ?_ () ?_ [] ?_))))
                  · as_aux_lemma => kernel_rfl
                  · simp [RV, eqRules, *]
                  · rfl
                · -- a.tries != b.tries = false
                  have h8 := bh8
                  have h8 := bneF h8
                  refine SKIP (NEXT (SEQ (SEQ (REGION [0, 1, 2, 3, 4] rfl (RUN0 5 [] [(50, B (a.crew != b.crew))] ?_ rfl ?_)))))
                  · as_aux_lemma => kernel_rfl
                  refine ENDOPS (NEXT (IF (a.crew != b.crew) ?_ (fun bh9 => ?_) (fun bh9 => ?_)))
                  · as_aux_lemma => kernel_rfl
                  · -- a.crew != b.crew = true
                    have h9 := bh9
                    have h9 := bne_iff_ne.1 h9
                    refine SEQ (REGION [0] rfl (RUN0 1 [] [(4, B false)] ?_ rfl ?_))
                    · as_aux_lemma => kernel_rfl
                    refine ENDOPS (NEXT (RET (PASS trivial (FIN (.bool false) ?_ () ?_ [] ?_))))
                    · as_aux_lemma => kernel_rfl
                    · simp [RV, eqRules, *]
                    · rfl
                  · -- a.crew != b.crew = false
                    have h9 := bh9
                    have h9 := bneF h9
                    refine SKIP (NEXT (SEQ (REGION [0] rfl (RUN0 1 [] [(4, B true)] ?_ rfl ?_))))
                    · as_aux_lemma => kernel_rfl
                    refine ENDOPS (NEXT (RET (FIN (.bool true) ?_ () ?_ [] ?_)))
                    · as_aux_lemma => kernel_rfl
                    · simp [RV, eqRules, *]
                    · rfl

theorem sEnoughFor_c (W : World) (r : Rules) (r_seats_a : Option Addr) (r_seats_c : Nat) (hr_seats : Rd intL W r_seats_a r.seats) (tier : Int) : Spec Try.prog W [] 11 #[.agg #[.slice r_seats_a r.seats.length r_seats_c, vi r.tiers, vi r.room, vi r.size, vi r.period, vi r.window, vi r.rest, vi r.tries, vi r.crew], vi tier] (RV (vi (enoughFor r tier))) := by
  refine ENTER0 (N := 28) (vs := [.agg #[.slice r_seats_a r.seats.length r_seats_c, vi r.tiers, vi r.room, vi r.size, vi r.period, vi r.window, vi r.rest, vi r.tries, vi r.crew], vi tier]) Try.func11 rfl rfl (Nat.le_of_ble_eq_true rfl) ?_
  have hr_seats_len := hr_seats.len
  refine SEQ (REGION [0, 1] rfl (RUN 2 [] [(1, I tier), (2, .p 0 0)] [(29, [.slice r_seats_a r.seats.length r_seats_c, vi r.tiers, vi r.room, vi r.size, vi r.period, vi r.window, vi r.rest, vi r.tries, vi r.crew])] ?_ rfl ?_))
  · as_aux_lemma => kernel_rfl
  refine ENDOPS (NEXT (SEQ (SEQ (REGION [0, 1, 2, 3, 4, 5, 6, 7, 8, 9, 10] rfl (RUN0 1 [1, 2, 3, 4, 5, 6, 7, 8, 9, 10] [(1, I tier), (2, .p 0 0), (5, .v (.agg #[.slice r_seats_a r.seats.length r_seats_c, vi r.tiers, vi r.room, vi r.size, vi r.period, vi r.window, vi r.rest, vi r.tries, vi r.crew]))] ?_ rfl ?_)))))
  · as_aux_lemma => kernel_rfl
  refine OPC (CALL 28 #[.agg #[.slice r_seats_a r.seats.length r_seats_c, vi r.tiers, vi r.room, vi r.size, vi r.period, vi r.window, vi r.rest, vi r.tries, vi r.crew]] (some 6) ?_ [] [] _ rfl (RV (.bool (rulesOk r))) (fun w hw => sRulesOk_c w r r_seats_a r_seats_c (hr_seats.fr hw.fr)) (by rintro _ ⟨⟩; exact Nat.le_of_ble_eq_true rfl) ?_)
  · as_aux_lemma => kernel_rfl
  rintro ⟨⟩
  refine RUN0 2 [4, 5, 6, 7, 8, 9, 10] [(1, I tier), (2, .p 0 0), (8, B (!(rulesOk r)))] ?_ rfl ?_
  · as_aux_lemma => kernel_rfl
  refine SPLIT (d := 8) (!(rulesOk r)) ?_ (fun bh1 => ?_) (fun bh1 => ?_)
  · as_aux_lemma => kernel_rfl
  · -- !(rulesOk r) = true
    have h1 := bh1
    have h1 := notT h1
    refine RUN0 7 [] [(1, I tier), (2, .p 0 0), (15, B true)] ?_ rfl ?_
    · as_aux_lemma => kernel_rfl
    refine ENDOPS (NEXT (IFT ?_ ?_))
    · as_aux_lemma => kernel_rfl
    refine SEQ (REGION [0] rfl (RUN0 1 [] [(4, I 0)] ?_ rfl ?_))
    · as_aux_lemma => kernel_rfl
    refine ENDOPS (NEXT (RET (PASS trivial (FIN (vi 0) ?_ () ?_ [] ?_))))
    · as_aux_lemma => kernel_rfl
    · simp [RV, enoughFor, *]
    · rfl
  · -- !(rulesOk r) = false
    have h1 := bh1
    have h1 := notF h1
    refine RUN0 4 [8, 9, 10] [(1, I tier), (2, .p 0 0), (8, B false), (9, I tier), (12, I (wr (r.tiers - 1)))] ?_ rfl ?_
    · as_aux_lemma => kernel_rfl
    refine OPC (CALL 25 #[vi tier, vi 0, vi (wr (r.tiers - 1))] (some 13) ?_ [] [] _ rfl (RV (.bool (inB tier 0 (wr (r.tiers - 1))))) (fun w hw => l1In_c w tier 0 (wr (r.tiers - 1))) (by rintro _ ⟨⟩; exact Nat.le_of_ble_eq_true rfl) ?_)
    · as_aux_lemma => kernel_rfl
    rintro ⟨⟩
    refine RUN0 2 [] [(1, I tier), (2, .p 0 0), (15, B (!(inB tier 0 (wr (r.tiers - 1)))))] ?_ rfl ?_
    · as_aux_lemma => kernel_rfl
    refine ENDOPS (NEXT (IF (!(inB tier 0 (wr (r.tiers - 1)))) ?_ (fun bh2 => ?_) (fun bh2 => ?_)))
    · as_aux_lemma => kernel_rfl
    · -- !(inB tier 0 (wr (r.tiers - 1))) = true
      have h2 := bh2
      have h2 := notT h2
      refine SEQ (REGION [0] rfl (RUN0 1 [] [(4, I 0)] ?_ rfl ?_))
      · as_aux_lemma => kernel_rfl
      refine ENDOPS (NEXT (RET (PASS trivial (FIN (vi 0) ?_ () ?_ [] ?_))))
      · as_aux_lemma => kernel_rfl
      · simp [RV, enoughFor, *]
      · rfl
    · -- !(inB tier 0 (wr (r.tiers - 1))) = false
      have h2 := bh2
      have h2 := notF h2
      refine SKIP (NEXT (SEQ (REGION [0, 1, 2, 3, 4, 5, 6, 7, 8, 9, 10, 11, 12] rfl (RUN0 13 [] [(4, I (wr ((wr ((wr (tier * r.period)) + (wr ((wr (r.room - 1)) * r.tries)))) + 1)))] ?_ rfl ?_))))
      · as_aux_lemma => kernel_rfl
      refine ENDOPS (NEXT (RET (FIN (vi (wr ((wr ((wr (tier * r.period)) + (wr ((wr (r.room - 1)) * r.tries)))) + 1))) ?_ () ?_ [] ?_)))
      · as_aux_lemma => kernel_rfl
      · simp [RV, enoughFor, *]
      · rfl

theorem iEnoughFor_c (W : World) (r : Rules) (r_seats_a : Option Addr) (r_seats_c : Nat) (hr_seats : Rd intL W r_seats_a r.seats) (tier : Int) : Spec Try.prog W [] 13 #[.agg #[.slice r_seats_a r.seats.length r_seats_c, vi r.tiers, vi r.room, vi r.size, vi r.period, vi r.window, vi r.rest, vi r.tries, vi r.crew], vi tier] (RV (vi (enoughFor r tier))) := by
  refine ENTER0 (N := 27) (vs := [.agg #[.slice r_seats_a r.seats.length r_seats_c, vi r.tiers, vi r.room, vi r.size, vi r.period, vi r.window, vi r.rest, vi r.tries, vi r.crew], vi tier]) Try.func13 rfl rfl (Nat.le_of_ble_eq_true rfl) ?_
  have hr_seats_len := hr_seats.len
  refine SEQ (REGION [0, 1] rfl (RUN 2 [] [(1, I tier), (2, .p 0 0)] [(29, [.slice r_seats_a r.seats.length r_seats_c, vi r.tiers, vi r.room, vi r.size, vi r.period, vi r.window, vi r.rest, vi r.tries, vi r.crew])] ?_ rfl ?_))
  · as_aux_lemma => kernel_rfl
  refine ENDOPS (NEXT (SEQ (SEQ (REGION [0, 1, 2, 3, 4, 5, 6, 7, 8, 9] rfl (RUN0 1 [1, 2, 3, 4, 5, 6, 7, 8, 9] [(1, I tier), (2, .p 0 0), (5, .v (.agg #[.slice r_seats_a r.seats.length r_seats_c, vi r.tiers, vi r.room, vi r.size, vi r.period, vi r.window, vi r.rest, vi r.tries, vi r.crew]))] ?_ rfl ?_)))))
  · as_aux_lemma => kernel_rfl
  refine OPC (CALL 30 #[.agg #[.slice r_seats_a r.seats.length r_seats_c, vi r.tiers, vi r.room, vi r.size, vi r.period, vi r.window, vi r.rest, vi r.tries, vi r.crew]] (some 6) ?_ [] [] _ rfl (RV (.bool (rulesOk r))) (fun w hw => iRulesOk_c w r r_seats_a r_seats_c (hr_seats.fr hw.fr)) (by rintro _ ⟨⟩; exact Nat.le_of_ble_eq_true rfl) ?_)
  · as_aux_lemma => kernel_rfl
  rintro ⟨⟩
  refine RUN0 2 [4, 5, 6, 7, 8, 9] [(1, I tier), (2, .p 0 0), (8, B (!(rulesOk r)))] ?_ rfl ?_
  · as_aux_lemma => kernel_rfl
  refine SPLIT (d := 8) (!(rulesOk r)) ?_ (fun bh1 => ?_) (fun bh1 => ?_)
  · as_aux_lemma => kernel_rfl
  · -- !(rulesOk r) = true
    have h1 := bh1
    have h1 := notT h1
    refine RUN0 6 [] [(1, I tier), (2, .p 0 0), (14, B true)] ?_ rfl ?_
    · as_aux_lemma => kernel_rfl
    refine ENDOPS (NEXT (IFT ?_ ?_))
    · as_aux_lemma => kernel_rfl
    refine SEQ (REGION [0] rfl (RUN0 1 [] [(4, I 0)] ?_ rfl ?_))
    · as_aux_lemma => kernel_rfl
    refine ENDOPS (NEXT (RET (PASS trivial (FIN (vi 0) ?_ () ?_ [] ?_))))
    · as_aux_lemma => kernel_rfl
    · simp [RV, enoughFor, *]
    · rfl
  · -- !(rulesOk r) = false
    have h1 := bh1
    have h1 := notF h1
    refine RUN0 3 [7, 8, 9] [(1, I tier), (2, .p 0 0), (8, B false), (9, I tier), (11, I r.tiers)] ?_ rfl ?_
    · as_aux_lemma => kernel_rfl
    refine OPC (CALL 31 #[vi tier, vi r.tiers] (some 12) ?_ [] [] _ rfl (RV (.bool (inB tier 0 (wr (r.tiers - 1))))) (fun w hw => isIndex_c w tier r.tiers) (by rintro _ ⟨⟩; exact Nat.le_of_ble_eq_true rfl) ?_)
    · as_aux_lemma => kernel_rfl
    rintro ⟨⟩
    refine RUN0 2 [] [(1, I tier), (2, .p 0 0), (14, B (!(inB tier 0 (wr (r.tiers - 1)))))] ?_ rfl ?_
    · as_aux_lemma => kernel_rfl
    refine ENDOPS (NEXT (IF (!(inB tier 0 (wr (r.tiers - 1)))) ?_ (fun bh2 => ?_) (fun bh2 => ?_)))
    · as_aux_lemma => kernel_rfl
    · -- !(inB tier 0 (wr (r.tiers - 1))) = true
      have h2 := bh2
      have h2 := notT h2
      refine SEQ (REGION [0] rfl (RUN0 1 [] [(4, I 0)] ?_ rfl ?_))
      · as_aux_lemma => kernel_rfl
      refine ENDOPS (NEXT (RET (PASS trivial (FIN (vi 0) ?_ () ?_ [] ?_))))
      · as_aux_lemma => kernel_rfl
      · simp [RV, enoughFor, *]
      · rfl
    · -- !(inB tier 0 (wr (r.tiers - 1))) = false
      have h2 := bh2
      have h2 := notF h2
      refine SKIP (NEXT (SEQ (REGION [0, 1, 2, 3, 4, 5, 6, 7, 8, 9, 10, 11, 12] rfl (RUN0 13 [] [(4, I (wr ((wr ((wr (tier * r.period)) + (wr ((wr (r.room - 1)) * r.tries)))) + 1)))] ?_ rfl ?_))))
      · as_aux_lemma => kernel_rfl
      refine ENDOPS (NEXT (RET (FIN (vi (wr ((wr ((wr (tier * r.period)) + (wr ((wr (r.room - 1)) * r.tries)))) + 1))) ?_ () ?_ [] ?_)))
      · as_aux_lemma => kernel_rfl
      · simp [RV, enoughFor, *]
      · rfl

end SX
end Go.Proofs.Ytcjaeedkhlnegaa
