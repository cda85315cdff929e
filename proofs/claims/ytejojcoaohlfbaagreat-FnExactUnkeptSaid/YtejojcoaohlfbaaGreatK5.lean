/- Texts of this claim, put together by program. -/
import Derived.Test.YtejojcoaohlfbaaGreatAE
import Derived.Test.YtejojcoaohlfbaaGreatMdlm
import Derived.Test.YtejojcoaohlfbaaGreatSx9
import Derived.Test.YtejojcoaohlfbaaGreatSxd
import Derived.Test.YtejojcoaohlfbaaGreatProg
namespace Go.Proofs.YtejojcoaohlfbaaGreat
namespace SX
open Go Go.RowKit
set_option linter.unusedVariables false
set_option linter.unusedSimpArgs false
set_option maxRecDepth 10000
set_option maxHeartbeats 1000000
attribute [local irreducible] CD DN OPL AT QL QT CND RETG BKP HL HT HO slA slHo slP ptC pull pulls
def markReq (_ : Req) (k : Int) : Req × Int :=
 (⟨k, nx k, nx (nx k), nx (nx (nx k)), nx (nx (nx (nx k))), nx (nx (nx (nx (nx k))))⟩, nx (nx (nx (nx (nx (nx k))))))
theorem markReq_end (x : Req) (k : Int) (h0 : 0 ≤ k) (h1 : k + (6 : Nat) ≤ 4611686018427387904) : (markReq x k).2 = k + (6 : Nat) := by
 simp only [markReq]
 have e0 : nx k = k + 1 := by rw [nx_of (by omega) (by omega)]
 have e1 : nx (k + 1) = k + 2 := by rw [nx_of (by omega) (by omega)]; omega
 have e2 : nx (k + 2) = k + 3 := by rw [nx_of (by omega) (by omega)]; omega
 have e3 : nx (k + 3) = k + 4 := by rw [nx_of (by omega) (by omega)]; omega
 have e4 : nx (k + 4) = k + 5 := by rw [nx_of (by omega) (by omega)]; omega
 have e5 : nx (k + 5) = k + 6 := by rw [nx_of (by omega) (by omega)]; omega
 rw [e0, e1, e2, e3, e4, e5]; omega
theorem markReqs_nn {l : List Req} (hl : l.length ≤ 1048576) {k : Int} (h0 : 0 ≤ k) (h1 : k ≤ 4000000000000000000) : 0 ≤ (markL markReq l k).2 := by
 rw [markL_end markReq_end l k h0 (by rw [sumL_const]; omega)]; omega
end SX
end Go.Proofs.YtejojcoaohlfbaaGreat
namespace Go.Proofs.YtejojcoaohlfbaaGreat
namespace SX
open Go Go.RowKit
set_option linter.unusedVariables false
set_option linter.unusedSimpArgs false
set_option maxRecDepth 10000
set_option maxHeartbeats 400000
theorem toReq_c (W : World) (a : Req) : Spec Tryz.prog W [] 87 #[.agg #[vi a.kind, vi a.id, vi a.cabin, vi a.from', vi a.size, vi a.tier]] (RV (.agg #[vi a.kind, vi a.id, vi a.cabin, vi a.from', vi a.size, vi a.tier])) := by
 refine ENTER0 (N := 23) (vs := [.agg #[vi a.kind, vi a.id, vi a.cabin, vi a.from', vi a.size, vi a.tier]]) Tryz.func87 rfl rfl (NL rfl) ?_
 refine XG (UL 2 [(1, .p 0 0), (2, .p 1 0)] [(117, [vi a.kind, vi a.id, vi a.cabin, vi a.from', vi a.size, vi a.tier]), (84, [vi 0, vi 0, vi 0, vi 0, vi 0, vi 0])] (NR (UL 1 [(3, .p 2 0)] [(117, [vi a.kind, vi a.id, vi a.cabin, vi a.from', vi a.size, vi a.tier]), (84, [vi 0, vi 0, vi 0, vi 0, vi 0, vi 0]), (84, [vi 0, vi 0, vi 0, vi 0, vi 0, vi 0])] (NR (UL 4 [] [(117, [vi a.kind, vi a.id, vi a.cabin, vi a.from', vi a.size, vi a.tier]), (84, [vi 0, vi 0, vi 0, vi 0, vi 0, vi 0]), (84, [vi a.kind, vi 0, vi 0, vi 0, vi 0, vi 0])] (NR (UL 4 [] [(117, [vi a.kind, vi a.id, vi a.cabin, vi a.from', vi a.size, vi a.tier]), (84, [vi 0, vi 0, vi 0, vi 0, vi 0, vi 0]), (84, [vi a.kind, vi a.id, vi 0, vi 0, vi 0, vi 0])] (NR (UL 4 [] [(117, [vi a.kind, vi a.id, vi a.cabin, vi a.from', vi a.size, vi a.tier]), (84, [vi 0, vi 0, vi 0, vi 0, vi 0, vi 0]), (84, [vi a.kind, vi a.id, vi a.cabin, vi 0, vi 0, vi 0])] (NR (UL 4 [] [(117, [vi a.kind, vi a.id, vi a.cabin, vi a.from', vi a.size, vi a.tier]), (84, [vi 0, vi 0, vi 0, vi 0, vi 0, vi 0]), (84, [vi a.kind, vi a.id, vi a.cabin, vi a.from', vi 0, vi 0])] (NR (UL 4 [] [(117, [vi a.kind, vi a.id, vi a.cabin, vi a.from', vi a.size, vi a.tier]), (84, [vi 0, vi 0, vi 0, vi 0, vi 0, vi 0]), (84, [vi a.kind, vi a.id, vi a.cabin, vi a.from', vi a.size, vi 0])] (NR (UL 4 [] [(117, [vi a.kind, vi a.id, vi a.cabin, vi a.from', vi a.size, vi a.tier]), (84, [vi 0, vi 0, vi 0, vi 0, vi 0, vi 0]), (84, [vi a.kind, vi a.id, vi a.cabin, vi a.from', vi a.size, vi a.tier])] (NR ?_))))))))))))))))
 refine UL 2 [] [(117, [vi a.kind, vi a.id, vi a.cabin, vi a.from', vi a.size, vi a.tier]), (84, [vi a.kind, vi a.id, vi a.cabin, vi a.from', vi a.size, vi a.tier]), (84, [vi a.kind, vi a.id, vi a.cabin, vi a.from', vi a.size, vi a.tier])] (XF rfl (.agg #[vi a.kind, vi a.id, vi a.cabin, vi a.from', vi a.size, vi a.tier]) () [] rfl)
theorem toReqS_c (W : World) (a : List Req) (a_a : Option Addr) (a_c : Nat) (ha : Rd reqL W a_a a) (hb : a.length ≤ 1048576) : Spec Tryz.prog W [] 16 #[.slice a_a a.length a_c] (⟨HH, fun p => .slice p.1 a.length p.2, fun p => [slA 84 reqL (.slice p.1 a.length p.2) a]⟩) := by
 refine ENTER0 (N := 23) (vs := [.slice a_a a.length a_c]) Tryz.func16 rfl rfl (NL rfl) ?_
 have ha_len := ha.len
 refine XG (UU 1 [] (NR (UU 2 [(6, I (a.length : Int))] (OPC (MAKE 40 (.tmp 6) (.tmp 6) 7 40 KR (NL rfl) a.length KR KR 84 KR reqE reqH (⟨0, 0, 0, 0, 0, 0⟩ : Req) (.agg #[vi 0, vi 0, vi 0, vi 0, vi 0, vi 0]) 48 rfl KR (by decide) LO LF (fun a1 ha2 => (UU 1 [(3, .v (.slice a1 a.length a.length))] (XN (SEQ (XG (UU 1 [(4, I 0)] (XN (BLOCK (LOOP (ι := Nat × (List Req) × (List Req)) (fun j => [(0, .v (.slice a_a a.length a_c)), (3, .v (.slice a1 a.length a.length)), (4, I (j.1 : Int))]) (fun j => []) (fun j => [slA 84 reqL (.slice a1 a.length a.length) j.2.2]) (fun j => j.1 + j.2.1.length = a.length ∧ a.drop j.1 = j.2.1 ∧ j.2.2 = a.take j.1 ++ List.replicate j.2.1.length (⟨0, 0, 0, 0, 0, 0⟩ : Req)) (fun j => j.2.1.length) (0, a, List.replicate a.length (⟨0, 0, 0, 0, 0, 0⟩ : Req)) [0, 3, 4] ⟨by simp, rfl, by simp⟩ KR rfl rfl ?_))))))))))))))
 rintro ⟨k, ys, out⟩ ⟨hk, hd, hv0⟩
 try dsimp only at hk hd hv0
 refine SEQ (XG (UU 4 [(11, B (decide ((k : Int) < (a.length : Int))))] (NI (decide ((k : Int) < (a.length : Int))) (dT fun h3 bh3 => ?_) (dF fun h3 bh3 => ?_))))
 ·
  obtain ⟨y4, ys5, rfl, hx_y4, hd_y4, hl_y4⟩ := drop_cons hd hk LO
  refine XK (SEQ (BLOCK (RG (UU 4 [(14, .v (.slice a1 a.length a.length)), (15, I (k : Int)), (16, .v (.slice a_a a.length a_c)), (17, I (k : Int))] (OPC (IX 29 (.tmp 16) (.tmp 17) 18 0 a_a a.length a_c .i64 (k : Int) 117 6 (Rd.some ha LO) LO LO (OPC (LE 117 (.tmp 18) 19 117 a_a (k * 6) 0 ([vi y4.kind, vi y4.id, vi y4.cabin, vi y4.from', vi y4.size, vi y4.tier]) (.agg #[vi y4.kind, vi y4.id, vi y4.cabin, vi y4.from', vi y4.size, vi y4.tier]) (fun w hw => (ha.fr hw.fr).flat hx_y4) (OPC (CX 20 (fun w hw => toReq_c w y4) ?_))))))))))
  rintro ⟨⟩
  refine FACT (a.length = out.length) (fun w hw => (SlO.lenE (hw.own 0 rfl)).1) (fun hln6 => ?_)
  obtain ⟨x7, hx8⟩ : ∃ y, out[k]? = some y := ⟨_, List.getElem?_eq_getElem LO⟩
  refine OPC (IX 40 (.tmp 14) (.tmp 15) 21 0 a1 a.length a.length .i64 (k : Int) 84 6 ha2 LO LO (OPC (STOREF 84 (.tmp 21) (.tmp 20) 0 KR 0 _ 84 a1 a.length a.length k 0 out rfl x7 y4 hx8 (.agg #[vi y4.kind, vi y4.id, vi y4.cabin, vi y4.from', vi y4.size, vi y4.tier]) KR KR KR (ENDOPS (OUTN (NEXT (RG (UU 2 [(13, I (wr ((k : Int) + 1)))] (CS 13 (vi (wr ((k : Int) + 1))) (vi ((k + 1 : Nat) : Int)) VC (UU 1 [(4, I ((k + 1 : Nat) : Int))] (ENDOPS (BK (k + 1, ys5, out.set k y4) [0, 3, 4] 0 [0] ⟨hl_y4, hd_y4, by rw [hv0]; exact set_next hk hx_y4⟩ (by simp)))))))))))))
 obtain rfl := drop_nil hk LO
 refine EXIT (PASS trivial (PASS trivial (OUT (NEXT (XG (UU 2 [(2, .v (.slice a1 a.length a.length))] (XN (RET ?_))))))))
 have efin : a = out := by rw [hv0]; simp [show k = a.length by simpa using hk]
 refine FIN (.slice a1 a.length a.length) KR (a1, a.length) ?_ [0] ?_
 · (rw [efin] <;> rfl)
 (rw [efin] <;> rfl)
theorem markReqS_c (W : World) (a : List Req) (a_a : Option Addr) (a_n a_c : Nat) (z : Int) : Spec Tryz.prog W [slA 84 reqL (.slice a_a a_n a_c) a] 24 #[.slice a_a a_n a_c, vi z] (⟨Unit, fun _ => vi ((markL markReq a z).2), fun _ => [slA 84 reqL (.slice a_a a_n a_c) ((markL markReq a z).1)]⟩) := by
 refine ENTER (N := 55) (vs := [.slice a_a a_n a_c, vi z]) Tryz.func24 rfl rfl (NL rfl) (fun S0 => ?_)
 refine FACT (a_n = a.length ∧ a.length ≤ 9223372036854775807) (fun w hw => SlO.lenE (hw.own 0 rfl)) (fun ha_len => (XG (UU 1 [] (XN (SEQ (XG (UU 1 [(5, I 0)] (XN (BLOCK (LOOP (ι := Nat × (List Req) × (List Req) × (List Req) × Int) (fun j => [(0, .v (.slice a_a a_n a_c)), (1, I j.2.2.2.2), (5, I (j.1 : Int))]) (fun j => []) (fun j => [slA 84 reqL (.slice a_a a_n a_c) j.2.2.2.1]) (fun j => j.1 + j.2.1.length = a.length ∧ a.drop j.1 = j.2.1 ∧ j.2.2.2.1 = j.2.2.1 ++ j.2.1 ∧ j.2.2.1.length = j.1 ∧ ((markL markReq a z).1 = j.2.2.1 ++ (markL markReq j.2.1 j.2.2.2.2).1 ∧ (markL markReq a z).2 = (markL markReq j.2.1 j.2.2.2.2).2)) (fun j => j.2.1.length) (0, a, [], a, z) [0, 1, 5] ⟨by simp, rfl, rfl, rfl, rfl, rfl⟩ KR rfl rfl ?_))))))))))
 rintro ⟨k, ys, done, out, kk⟩ ⟨hk, hd, hv0, hv1, hv2⟩
 try dsimp only at hk hd hv0 hv1 hv2
 refine SEQ (XG (UU 4 [(9, B (decide ((k : Int) < (a_n : Int))))] (NI (decide ((k : Int) < (a_n : Int))) (dT fun h1 bh1 => ?_) (dF fun h1 bh1 => ?_))))
 ·
  obtain ⟨y2, ys3, rfl, hx_y2, hd_y2, hl_y2⟩ := drop_cons hd hk LO
  refine XK (SEQ (BLOCK (XG (UU 3 [(12, .v (.slice a_a a_n a_c)), (13, I (k : Int)), (14, I kk)] (FACT (a_n = out.length) (fun w hw => (SlO.lenE (hw.own 0 rfl)).1) (fun hln4 => ?_))))))
  obtain ⟨x5, hx6⟩ : ∃ y, out[k]? = some y := ⟨_, List.getElem?_eq_getElem LO⟩
  refine FACT (a_a.isSome = true) (fun w hw => SlO.isS (hw.own 0 rfl) LD) (fun hso7 => (OPC (IX 40 (.tmp 12) (.tmp 13) 15 0 a_a a_n a_c .i64 (k : Int) 84 6 hso7 LO LO (UU 1 [(16, .e a_a (k * 6) 0)] (OPC (STOREF 3 (.tmp 16) (.tmp 14) 0 KR 0 _ 84 a_a a_n a_c k 0 out rfl x5 (⟨kk, x5.id, x5.cabin, x5.from', x5.size, x5.tier⟩ : Req) hx6 (vi kk) KR KR KR (NR (UU 3 [(1, I (wr (kk + 1)))] (NR (UU 3 [(19, .v (.slice a_a a_n a_c)), (20, I (k : Int)), (21, I (wr (kk + 1)))] (OPC (IX 40 (.tmp 19) (.tmp 20) 22 0 a_a a_n a_c .i64 (k : Int) 84 6 hso7 LO LO (UU 1 [(23, .e a_a (k * 6) 1)] (OPC (STOREF 3 (.tmp 23) (.tmp 21) 0 KR 0 _ 84 a_a a_n a_c k 1 (out.set k (⟨kk, x5.id, x5.cabin, x5.from', x5.size, x5.tier⟩ : Req)) rfl (⟨kk, x5.id, x5.cabin, x5.from', x5.size, x5.tier⟩ : Req) (⟨kk, wr (kk + 1), x5.cabin, x5.from', x5.size, x5.tier⟩ : Req) (set_get hx6) (vi (wr (kk + 1))) KR KR KR (NR (UU 3 [(1, I (wr ((wr (kk + 1)) + 1)))] (NR (UU 3 [(26, .v (.slice a_a a_n a_c)), (27, I (k : Int)), (28, I (wr ((wr (kk + 1)) + 1)))] (OPC (IX 40 (.tmp 26) (.tmp 27) 29 0 a_a a_n a_c .i64 (k : Int) 84 6 hso7 LO LO (UU 1 [(30, .e a_a (k * 6) 2)] (OPC (STOREF 3 (.tmp 30) (.tmp 28) 0 KR 0 _ 84 a_a a_n a_c k 2 ((out.set k (⟨kk, x5.id, x5.cabin, x5.from', x5.size, x5.tier⟩ : Req)).set k (⟨kk, wr (kk + 1), x5.cabin, x5.from', x5.size, x5.tier⟩ : Req)) rfl (⟨kk, wr (kk + 1), x5.cabin, x5.from', x5.size, x5.tier⟩ : Req) (⟨kk, wr (kk + 1), wr ((wr (kk + 1)) + 1), x5.from', x5.size, x5.tier⟩ : Req) (set_get (set_get hx6)) (vi (wr ((wr (kk + 1)) + 1))) KR KR KR (NR ?_)))))))))))))))))))))))))
  refine UU 3 [(1, I (wr ((wr ((wr (kk + 1)) + 1)) + 1)))] (NR (UU 3 [(33, .v (.slice a_a a_n a_c)), (34, I (k : Int)), (35, I (wr ((wr ((wr (kk + 1)) + 1)) + 1)))] (OPC (IX 40 (.tmp 33) (.tmp 34) 36 0 a_a a_n a_c .i64 (k : Int) 84 6 hso7 LO LO (UU 1 [(37, .e a_a (k * 6) 3)] (OPC (STOREF 3 (.tmp 37) (.tmp 35) 0 KR 0 _ 84 a_a a_n a_c k 3 (((out.set k (⟨kk, x5.id, x5.cabin, x5.from', x5.size, x5.tier⟩ : Req)).set k (⟨kk, wr (kk + 1), x5.cabin, x5.from', x5.size, x5.tier⟩ : Req)).set k (⟨kk, wr (kk + 1), wr ((wr (kk + 1)) + 1), x5.from', x5.size, x5.tier⟩ : Req)) rfl (⟨kk, wr (kk + 1), wr ((wr (kk + 1)) + 1), x5.from', x5.size, x5.tier⟩ : Req) (⟨kk, wr (kk + 1), wr ((wr (kk + 1)) + 1), wr ((wr ((wr (kk + 1)) + 1)) + 1), x5.size, x5.tier⟩ : Req) (set_get (set_get (set_get hx6))) (vi (wr ((wr ((wr (kk + 1)) + 1)) + 1))) KR KR KR (NR (UU 3 [(1, I (wr ((wr ((wr ((wr (kk + 1)) + 1)) + 1)) + 1)))] (NR (UU 3 [(40, .v (.slice a_a a_n a_c)), (41, I (k : Int)), (42, I (wr ((wr ((wr ((wr (kk + 1)) + 1)) + 1)) + 1)))] (OPC (IX 40 (.tmp 40) (.tmp 41) 43 0 a_a a_n a_c .i64 (k : Int) 84 6 hso7 LO LO (UU 1 [(44, .e a_a (k * 6) 4)] (OPC (STOREF 3 (.tmp 44) (.tmp 42) 0 KR 0 _ 84 a_a a_n a_c k 4 ((((out.set k (⟨kk, x5.id, x5.cabin, x5.from', x5.size, x5.tier⟩ : Req)).set k (⟨kk, wr (kk + 1), x5.cabin, x5.from', x5.size, x5.tier⟩ : Req)).set k (⟨kk, wr (kk + 1), wr ((wr (kk + 1)) + 1), x5.from', x5.size, x5.tier⟩ : Req)).set k (⟨kk, wr (kk + 1), wr ((wr (kk + 1)) + 1), wr ((wr ((wr (kk + 1)) + 1)) + 1), x5.size, x5.tier⟩ : Req)) rfl (⟨kk, wr (kk + 1), wr ((wr (kk + 1)) + 1), wr ((wr ((wr (kk + 1)) + 1)) + 1), x5.size, x5.tier⟩ : Req) (⟨kk, wr (kk + 1), wr ((wr (kk + 1)) + 1), wr ((wr ((wr (kk + 1)) + 1)) + 1), wr ((wr ((wr ((wr (kk + 1)) + 1)) + 1)) + 1), x5.tier⟩ : Req) (set_get (set_get (set_get (set_get hx6)))) (vi (wr ((wr ((wr ((wr (kk + 1)) + 1)) + 1)) + 1))) KR KR KR (NR ?_)))))))))))))))))
  refine UU 3 [(1, I (wr ((wr ((wr ((wr ((wr (kk + 1)) + 1)) + 1)) + 1)) + 1)))] (NR (UU 3 [(47, .v (.slice a_a a_n a_c)), (48, I (k : Int)), (49, I (wr ((wr ((wr ((wr ((wr (kk + 1)) + 1)) + 1)) + 1)) + 1)))] (OPC (IX 40 (.tmp 47) (.tmp 48) 50 0 a_a a_n a_c .i64 (k : Int) 84 6 hso7 LO LO (UU 1 [(51, .e a_a (k * 6) 5)] (OPC (STOREF 3 (.tmp 51) (.tmp 49) 0 KR 0 _ 84 a_a a_n a_c k 5 (((((out.set k (⟨kk, x5.id, x5.cabin, x5.from', x5.size, x5.tier⟩ : Req)).set k (⟨kk, wr (kk + 1), x5.cabin, x5.from', x5.size, x5.tier⟩ : Req)).set k (⟨kk, wr (kk + 1), wr ((wr (kk + 1)) + 1), x5.from', x5.size, x5.tier⟩ : Req)).set k (⟨kk, wr (kk + 1), wr ((wr (kk + 1)) + 1), wr ((wr ((wr (kk + 1)) + 1)) + 1), x5.size, x5.tier⟩ : Req)).set k (⟨kk, wr (kk + 1), wr ((wr (kk + 1)) + 1), wr ((wr ((wr (kk + 1)) + 1)) + 1), wr ((wr ((wr ((wr (kk + 1)) + 1)) + 1)) + 1), x5.tier⟩ : Req)) rfl (⟨kk, wr (kk + 1), wr ((wr (kk + 1)) + 1), wr ((wr ((wr (kk + 1)) + 1)) + 1), wr ((wr ((wr ((wr (kk + 1)) + 1)) + 1)) + 1), x5.tier⟩ : Req) (⟨kk, wr (kk + 1), wr ((wr (kk + 1)) + 1), wr ((wr ((wr (kk + 1)) + 1)) + 1), wr ((wr ((wr ((wr (kk + 1)) + 1)) + 1)) + 1), wr ((wr ((wr ((wr ((wr (kk + 1)) + 1)) + 1)) + 1)) + 1)⟩ : Req) (set_get (set_get (set_get (set_get (set_get hx6))))) (vi (wr ((wr ((wr ((wr ((wr (kk + 1)) + 1)) + 1)) + 1)) + 1))) KR KR KR (XN (RG (UU 3 [(1, I (wr ((wr ((wr ((wr ((wr ((wr (kk + 1)) + 1)) + 1)) + 1)) + 1)) + 1)))] (ENDOPS (OUTN (NEXT (RG ?_))))))))))))))
  refine UU 2 [(11, I (wr ((k : Int) + 1)))] (CS 11 (vi (wr ((k : Int) + 1))) (vi ((k + 1 : Nat) : Int)) VC (UU 1 [(5, I ((k + 1 : Nat) : Int))] (ENDOPS (BK (k + 1, ys3, done ++ [(markReq y2 kk).1], (((((out.set k (⟨kk, x5.id, x5.cabin, x5.from', x5.size, x5.tier⟩ : Req)).set k (⟨kk, wr (kk + 1), x5.cabin, x5.from', x5.size, x5.tier⟩ : Req)).set k (⟨kk, wr (kk + 1), wr ((wr (kk + 1)) + 1), x5.from', x5.size, x5.tier⟩ : Req)).set k (⟨kk, wr (kk + 1), wr ((wr (kk + 1)) + 1), wr ((wr ((wr (kk + 1)) + 1)) + 1), x5.size, x5.tier⟩ : Req)).set k (⟨kk, wr (kk + 1), wr ((wr (kk + 1)) + 1), wr ((wr ((wr (kk + 1)) + 1)) + 1), wr ((wr ((wr ((wr (kk + 1)) + 1)) + 1)) + 1), x5.tier⟩ : Req)).set k (⟨kk, wr (kk + 1), wr ((wr (kk + 1)) + 1), wr ((wr ((wr (kk + 1)) + 1)) + 1), wr ((wr ((wr ((wr (kk + 1)) + 1)) + 1)) + 1), wr ((wr ((wr ((wr ((wr (kk + 1)) + 1)) + 1)) + 1)) + 1)⟩ : Req), wr ((wr ((wr ((wr ((wr ((wr (kk + 1)) + 1)) + 1)) + 1)) + 1)) + 1)) [0, 1, 5] 0 [0] ⟨hl_y2, hd_y2, (by rw [hv0]; simp only [List.set_set]; exact set_mid hv1), (by simp only [List.length_append, List.length_cons, List.length_nil]; omega), ⟨hv2.1.trans (by simp [markL]; rfl), hv2.2.trans (by rfl)⟩⟩ (by simp)))))
 obtain rfl := drop_nil hk LO
 refine EXIT (PASS trivial (PASS trivial (OUT (NEXT (XG (UU 2 [(4, I kk)] (XF rfl (vi kk) () [0] ?_ (hp := ?_))))))))
 · (show vi kk = vi (markL markReq a z).2; rw [hv2.2]; rfl)
 (rw [show (markL markReq a z).1 = out by rw [hv2.1, hv0]; rfl]; rfl)
end SX
end Go.Proofs.YtejojcoaohlfbaaGreat
