/- Texts of this claim, put together by program. -/
import Derived.Test.YthnbaikmbgaddaaGreatSxz
import Derived.Test.YthnbaikmbgaddaaGreatMdlu
import Derived.Test.YthnbaikmbgaddaaGreatI5
import Derived.Test.YthnbaikmbgaddaaGreatMdln
import Derived.Test.YthnbaikmbgaddaaGreatSxy
import Derived.Test.YthnbaikmbgaddaaGreatMdlz
import Derived.Test.YthnbaikmbgaddaaGreatMdli
import Derived.Test.YthnbaikmbgaddaaGreatProg
/- Walks, printed by program. -/
namespace Go.Proofs.YthnbaikmbgaddaaGreat
namespace SX
open Go Go.RowKit
set_option linter.unusedVariables false
set_option linter.unusedSimpArgs false
set_option maxRecDepth 10000
set_option maxHeartbeats 400000
theorem ipartyAt1_c (W : World) (p : Party) (pid_b : Nat) (pid : Int) (hpid : ElemAt W (some ⟨pid_b, 0, none⟩) 0 [vi pid]) : Spec Tryz.prog W [] 280 #[.agg (paC p).toArray, .pointer (some ⟨pid_b, 0, none⟩)] (RV (.bool ((p).id == pid))) := by
 refine ENTER0 (N := 8) (vs := [.agg (paC p).toArray, .pointer (some ⟨pid_b, 0, none⟩)]) Tryz.func280 rfl rfl (NL rfl) ?_
 refine ASE (d := 1) rfl (XG (UL 2 [(2, .p 0 0)] [(56, partyE p)] (NR (UU 2 [(5, I p.id)] (OPC (LE 3 (.tmp 1) 6 3 (some ⟨pid_b, 0, none⟩) 0 0 ([vi pid]) (vi pid) (fun w hw => (hpid.fr hw.fr)) (UU 2 [(3, B (p.id == pid))] (XF rfl (.bool (p.id == pid)) () [] (by simp [RV])))))))))

theorem ixPartyAt_c (W : World) (list : List Party) (list_a : Option Addr) (list_c : Nat) (hlist : Rd partyL W list_a list) (pid_b : Nat) (pid : Int) (hpid : ElemAt W (some ⟨pid_b, 0, none⟩) 0 [vi pid]) : Spec Tryz.prog W [] 215 #[.slice list_a list.length list_c, .func (.func 280) #[] #[.pointer (some ⟨pid_b, 0, none⟩)]] (RV (vi (idxF (fun e : Party => e.id == pid) list 0))) := by
 refine ENTER0 (N := 19) (vs := [.slice list_a list.length list_c, .func (.func 280) #[] #[.pointer (some ⟨pid_b, 0, none⟩)]]) Tryz.func215 rfl rfl (NL rfl) ?_
 have hlist_len := hlist.len
 refine XG (UU 1 [] (XN (SEQ (XG (UU 3 [(7, I (list.length : Int)), (8, I 0)] (XN (BLOCK (LOOP (ι := Nat × (List Party)) (fun j => [(0, .v (.slice list_a list.length list_c)), (1, .v (.func (.func 280) #[] #[.pointer (some ⟨pid_b, 0, none⟩)])), (7, I (list.length : Int)), (8, I (j.1 : Int))]) (fun j => []) (fun j => []) (fun j => j.1 + j.2.length = list.length ∧ list.drop j.1 = j.2 ∧ idxF (fun e : Party => e.id == pid) list 0 = idxF (fun e : Party => e.id == pid) j.2 j.1) (fun j => j.2.length) (0, list) [0, 1, 7, 8] ⟨by simp, rfl, rfl⟩ KR rfl rfl ?_))))))))
 rintro ⟨k, ys⟩ ⟨hk, hd, hv0⟩
 try dsimp only at hk hd hv0
 refine XG (UU 1 [(9, B (decide ((k : Int) < (list.length : Int))))] (XN (SEQ (IFK (decide ((k : Int) < (list.length : Int))) (dT fun h1 bh1 => ?_) (dF fun h1 bh1 => ?_)))))
 ·
  obtain ⟨y2, ys3, rfl, hx_y2, hd_y2, hl_y2⟩ := drop_cons hd hk LO
  refine XK (SEQ (BLOCK (XG (UU 2 [(5, I (k : Int))] (NR (UU 3 [(11, .v (.func (.func 280) #[] #[.pointer (some ⟨pid_b, 0, none⟩)])), (12, .v (.slice list_a list.length list_c)), (13, I (k : Int))] (OPC (IX 28 (.tmp 12) (.tmp 13) 14 0 list_a list.length list_c .i64 (k : Int) 56 10 (Rd.some hlist LO) LO LO (OPC (LE 56 (.tmp 14) 15 56 list_a (k * 10) 0 (partyE y2) (.agg (partyE y2).toArray) (fun w hw => (hlist.fr hw.fr).flat hx_y2) (OPC (CX 16 (fun w hw => ipartyAt1_c w y2 pid_b pid (hpid.fr hw.fr)) ?_))))))))))))
  rintro ⟨⟩
  refine NI ((y2).id == pid) (aT eq_of_beq fun h4 bh4 => ?_) (aT ne_of_beq_false fun h4 bh4 => ?_)
  · refine XG (UU 2 [(4, I (k : Int))] (XF rfl (vi (k : Int)) () [] (by simp_all [RV, idxF])))
  refine SKIP (OUTN (NEXT (RG (UU 1 [(18, I (wr ((k : Int) + 1)))] (CS 18 (vi (wr ((k : Int) + 1))) (vi ((k + 1 : Nat) : Int)) VC (UU 1 [(8, I ((k + 1 : Nat) : Int))] (ENDOPS (BK (k + 1, ys3) [0, 1, 7, 8] 0 [] ⟨hl_y2, hd_y2, (hv0.trans (by simp_all [idxF]))⟩ (by simp)))))))))
 obtain rfl := drop_nil hk LO
 refine EXIT (PASS trivial (PASS trivial (OUT (NEXT (XG (UU 1 [(4, I (-1))] (XF rfl (vi (-1)) () [] (by simp_all [RV, idxF]))))))))

theorem ipartyAt_c (W : World) (list : List Party) (list_a : Option Addr) (list_c : Nat) (hlist : Rd partyL W list_a list) (id : Int) : Spec Tryz.prog W [] 202 #[.slice list_a list.length list_c, vi id] (RV (vi (atId list id))) := by
 refine ENTER0 (N := 8) (vs := [.slice list_a list.length list_c, vi id]) Tryz.func202 rfl rfl (NL rfl) ?_
 have hlist_len := hlist.len
 refine XG (UL 2 [(3, .p 0 0)] [(3, [vi id])] (NR (UU 1 [(5, .v (.slice list_a list.length list_c))] (EXPORT (fun bs hbs => ?_)))))
 obtain ⟨b1, rfl⟩ := len1 hbs
 refine ASV (d := 3) rfl (RU 1 [2, 3] [(6, .v (.func (.func 280) #[] #[.pointer (some ⟨b1, 0, none⟩)]))] KR rfl (OPC (CX 7 (fun w hw => ixPartyAt_c w list list_a list_c (hlist.fr hw.fr) b1 id (ptC_elem (hw.own 0 rfl))) ?_)))
 rintro ⟨⟩
 refine UU 1 [(4, I (idxF (fun e : Party => e.id == id) list 0))] (ENDOPS (IMPORT (L0 := [(3, [vi id])]) (L1 := []) [b1] rfl [0] _ rfl [(4, I (idxF (fun e : Party => e.id == id) list 0))] KR KR (NEXT (RF rfl (vi (idxF (fun e : Party => e.id == id) list 0)) () [] ?_ ?_))))
 · rfl
 rfl

theorem iPartyAt_c (W : World) (ho : House) (ho1a : Option Addr) (ho1c : Nat) (hho1 : Rd intL W ho1a ho.rules.seats) (ho2a : Option Addr) (ho2c : Nat) (hho2 : Rd partyL W ho2a ho.parties) (ho3a : Option Addr) (ho3c : Nat) (hho3 : Rd (cabinLx 142 155 167) W ho3a ho.cabins) (ho4a : Option Addr) (ho4c : Nat) (hho4 : Rd intL W ho4a ho.todo) (ho5a : Option Addr) (ho5c : Nat) (hho5 : Rd intL W ho5a ho.jobs) (id : Int) : Spec Tryz.prog W [] 104 #[.agg (hC ho ho1a ho1c ho2a ho2c ho3a ho3c ho4a ho4c ho5a ho5c).toArray, vi id] (RV (vi (atId ho.parties id))) := by
 refine ENTER0 (N := 9) (vs := [.agg (hC ho ho1a ho1c ho2a ho2c ho3a ho3c ho4a ho4c ho5a ho5c).toArray, vi id]) Tryz.func104 rfl rfl (NL rfl) ?_
 have hho1len := hho1.len
 have hho2len := hho2.len
 have hho3len := hho3.len
 have hho4len := hho4.len
 have hho5len := hho5.len
 refine XG (UL 2 [(2, .p 0 0)] [(31, (hC ho ho1a ho1c ho2a ho2c ho3a ho3c ho4a ho4c ho5a ho5c))] (NR (UU 3 [(6, .v (.slice ho2a ho.parties.length ho2c)), (7, I id)] (OPC (CX 8 (fun w hw => ipartyAt_c w ho.parties ho2a ho2c (hho2.fr hw.fr) id) ?_)))))
 rintro ⟨⟩
 refine UU 1 [(4, I (atId ho.parties id))] (XF rfl (vi (atId ho.parties id)) () [] rfl)

end SX
end Go.Proofs.YthnbaikmbgaddaaGreat
/- Walks, printed by program. -/
namespace Go.Proofs.YthnbaikmbgaddaaGreat
namespace SX
open Go Go.RowKit
set_option linter.unusedVariables false
set_option linter.unusedSimpArgs false
set_option maxRecDepth 10000
set_option maxHeartbeats 400000
private theorem z1R1 {p : Prop} (h : p := by simp only [List.length_drop]; omega) : p := h
theorem delParty_c (W : World) (s : List Party) (s_a : Option Addr) (s_n s_c : Nat) (i : Int) (j : Int) (hi0 : 0 ≤ i) (hi : i < (s.length : Int)) (hj : j = i + 1) (hb : s.length ≤ 1048576) : Spec Tryz.prog W [slA 56 partyL (.slice s_a s_n s_c) s] 268 #[.slice s_a s_n s_c, vi i, vi j] (⟨HH, fun p => .slice p.1 ((cutAt s (i).toNat).length) p.2, fun p => [slA 56 partyL (.slice p.1 (cutAt s (i).toNat).length p.2) (cutAt s (i).toNat)]⟩) := by
 refine ENTER (N := 33) (vs := [.slice s_a s_n s_c, vi i, vi j]) Tryz.func268 rfl rfl (NL rfl) (fun S0 => ?_)
 refine FACT (s_n = s.length ∧ s.length ≤ 9223372036854775807) (fun w hw => SlO.lenE (hw.own 0 rfl)) (fun hs_len => (XG (UU 1 [] (NR (UU 2 [(8, .v (.slice s_a s_n s_c)), (9, I i)] (CS 9 (vi i) (vi (i.toNat : Int)) ((congrArg vi LO)) (UU 1 [(10, I j)] (CS 10 (vi j) (vi ((i.toNat + 1 : Nat) : Int)) ((congrArg vi LO)) (UU 2 [(12, I (s_n : Int))] (FACT (s_n = s.length ∧ s_n ≤ s_c) (fun w hw => ⟨(SlO.lenE (hw.own 0 rfl)).1, SlO.capE (hw.own 0 rfl)⟩) (fun hcap1 => (OPC (CUT3V 28 (.tmp 8) (.tmp 9) (.tmp 10) (.tmp 12) 13 28 KR (NL rfl) s_a s_n s_c .i64 (i.toNat : Int) .i64 ((i.toNat + 1 : Nat) : Int) .i64 (s_n : Int) KR KR KR KR 56 10 KR KR LO LO LO LO (XN (SEQ (XG (UU 1 [(14, I i)] (CS 14 (vi i) (vi (i.toNat : Int)) ((congrArg vi LO)) (UU 1 [(15, I j)] (CS 15 (vi j) (vi ((i.toNat + 1 : Nat) : Int)) ((congrArg vi LO)) (UU 1 [(16, B ((i.toNat : Int) == ((i.toNat + 1 : Nat) : Int)))] (NI ((i.toNat : Int) == ((i.toNat + 1 : Nat) : Int)) (fun bh2 => ?_) (fun bh2 => ?_)))))))))))))))))))))))
 · have bh2 := eq_of_beq bh2; exfalso; omega
 have h2 := ne_of_beq_false bh2
 refine XK (XG (UU 3 [(7, I (s_n : Int))] (XN (SEQ (REGIONH KR 8 rfl [] (HP [] 0 [(20, .v (.slice s_a s_n s_c))] (HP [] 1 [(21, I i)] (HCAST (d := 21) (vi i) (vi (i.toNat : Int)) KR ((congrArg vi LO)) (FACT (s_n = s.length ∧ s_n ≤ s_c) (fun w hw => ⟨(SlO.lenE (hw.own 0 rfl)).1, SlO.capE (hw.own 0 rfl)⟩) (fun hcap3 => (HCUTHV (i := 2) (js := []) 28 (.tmp 20) (.tmp 21) 22 28 KR (NL rfl) s_a s_n s_c .i64 (i.toNat : Int) KR KR 56 10 KR KR LO LO KR rfl (HP [] 3 [(23, .v (.slice s_a s_n s_c))] (HP [] 4 [(24, I j)] (HCAST (d := 24) (vi j) (vi ((i.toNat + 1 : Nat) : Int)) KR ((congrArg vi LO)) (FACT (s_n = s.length ∧ s_n ≤ s_c) (fun w hw => ⟨(SlO.lenE (hw.own 0 rfl)).1, SlO.capE (hw.own 0 rfl)⟩) (fun hcap4 => (HCUTLV (i := 5) (js := []) 28 (.tmp 23) (.tmp 24) 25 28 KR (NL rfl) s_a s_n s_c .i64 ((i.toNat + 1 : Nat) : Int) KR KR 56 10 KR KR LO LO KR rfl (HALL [6] KR (by decide) ?_))))))))))))))))))
 refine FACT (s_a.isSome = true) (fun w hw => SlO.isS (hw.own 0 rfl) LO) (fun hso5 => (APPENDP 28 (.tmp 22) (.tmp 25) 26 28 KR (NL rfl) s_a s_n s_c i.toNat (elA s_a s_c (i.toNat + 1) 10) (s_n - (i.toNat + 1)) (s_c - (i.toNat + 1)) KR KR 56 KR KR 0 s (s.drop (i.toNat + 1)) _ rfl z1R1 (fun w hw => ((hw.rdO 0 rfl).drop LO (i.toNat + 1) LO)) hso5 LO LO (HW [] (HP [] 7 [(0, .v (.slice s_a (i.toNat + (s_n - (i.toNat + 1))) s_c))] (HDz (NEXT (XG (UU 4 [(27, .v (.slice s_a (i.toNat + (s_n - (i.toNat + 1))) s_c)), (29, I (((i.toNat + (s_n - (i.toNat + 1))) : Nat) : Int)), (30, I (s_n : Int))] (FACT ((i.toNat + (s_n - (i.toNat + 1))) = (s.take i.toNat ++ s.drop (i.toNat + 1)).length ∧ (i.toNat + (s_n - (i.toNat + 1))) ≤ s_c) (fun w hw => ⟨(SlO.lenE (hw.own 0 rfl)).1, SlO.capE (hw.own 0 rfl)⟩) (fun hcap6 => (OPC (CUTX 28 (.tmp 27) (.tmp 29) (.tmp 30) 31 28 KR (NL rfl) s_a (i.toNat + (s_n - (i.toNat + 1))) s_c .i64 (((i.toNat + (s_n - (i.toNat + 1))) : Nat) : Int) .i64 (s_n : Int) KR KR KR 56 10 KR KR LO LO LO (OPC (CLEARX 28 (.tmp 31) none 0 KR (by rintro _ ⟨⟩) s_a (i.toNat + (s_n - (i.toNat + 1))) s_c (i.toNat + (s_n - (i.toNat + 1))) (s_n - (i.toNat + (s_n - (i.toNat + 1)))) (s_c - (i.toNat + (s_n - (i.toNat + 1)))) KR 56 (.agg paZ.toArray) KR KR rfl rfl 0 (s.take i.toNat ++ s.drop (i.toNat + 1)) _ rfl hso5 LD LD (NR ?_)))))))))))))))
 refine UU 2 [(6, .v (.slice s_a (i.toNat + (s_n - (i.toNat + 1))) s_c))] (XN (RET (FACT ((i.toNat + (s_n - (i.toNat + 1))) = (s.take i.toNat ++ s.drop (i.toNat + 1)).length) (fun w hw => (SlO.lenE (hw.own 0 rfl)).1) (fun hln7 => ?_))))
 refine RELENK (fun z : Nat => [(6, .v (.slice s_a z s_c))]) (fun z : Nat => []) (fun z : Nat => [slA 56 partyL (.slice s_a z s_c) (s.take i.toNat ++ s.drop (i.toNat + 1))]) hln7 ?_
 have efin : cutAt s i.toNat = s.take i.toNat ++ s.drop (i.toNat + 1) := by rfl
 refine FIN (.slice s_a ((s.take i.toNat ++ s.drop (i.toNat + 1)).length) s_c) KR (s_a, s_c) ?_ [0] ?_
 · (rw [efin] <;> rfl)
 (rw [efin] <;> rfl)

theorem delEntry_c (W : World) (s : List Entry) (s_a : Option Addr) (s_n s_c : Nat) (i : Int) (j : Int) (hi0 : 0 ≤ i) (hi : i < (s.length : Int)) (hj : j = i + 1) (hb : s.length ≤ 1048576) : Spec Tryz.prog W [slA 142 entryL (.slice s_a s_n s_c) s] 295 #[.slice s_a s_n s_c, vi i, vi j] (⟨HH, fun p => .slice p.1 ((cutAt s (i).toNat).length) p.2, fun p => [slA 142 entryL (.slice p.1 (cutAt s (i).toNat).length p.2) (cutAt s (i).toNat)]⟩) := by
 refine ENTER (N := 33) (vs := [.slice s_a s_n s_c, vi i, vi j]) Tryz.func295 rfl rfl (NL rfl) (fun S0 => ?_)
 refine FACT (s_n = s.length ∧ s.length ≤ 9223372036854775807) (fun w hw => SlO.lenE (hw.own 0 rfl)) (fun hs_len => (XG (UU 1 [] (NR (UU 2 [(8, .v (.slice s_a s_n s_c)), (9, I i)] (CS 9 (vi i) (vi (i.toNat : Int)) ((congrArg vi LO)) (UU 1 [(10, I j)] (CS 10 (vi j) (vi ((i.toNat + 1 : Nat) : Int)) ((congrArg vi LO)) (UU 2 [(12, I (s_n : Int))] (FACT (s_n = s.length ∧ s_n ≤ s_c) (fun w hw => ⟨(SlO.lenE (hw.own 0 rfl)).1, SlO.capE (hw.own 0 rfl)⟩) (fun hcap1 => (OPC (CUT3V 45 (.tmp 8) (.tmp 9) (.tmp 10) (.tmp 12) 13 45 KR (NL rfl) s_a s_n s_c .i64 (i.toNat : Int) .i64 ((i.toNat + 1 : Nat) : Int) .i64 (s_n : Int) KR KR KR KR 142 4 KR KR LO LO LO LO (XN (SEQ (XG (UU 1 [(14, I i)] (CS 14 (vi i) (vi (i.toNat : Int)) ((congrArg vi LO)) (UU 1 [(15, I j)] (CS 15 (vi j) (vi ((i.toNat + 1 : Nat) : Int)) ((congrArg vi LO)) (UU 1 [(16, B ((i.toNat : Int) == ((i.toNat + 1 : Nat) : Int)))] (NI ((i.toNat : Int) == ((i.toNat + 1 : Nat) : Int)) (fun bh2 => ?_) (fun bh2 => ?_)))))))))))))))))))))))
 · have bh2 := eq_of_beq bh2; exfalso; omega
 have h2 := ne_of_beq_false bh2
 refine XK (XG (UU 3 [(7, I (s_n : Int))] (XN (SEQ (REGIONH KR 8 rfl [] (HP [] 0 [(20, .v (.slice s_a s_n s_c))] (HP [] 1 [(21, I i)] (HCAST (d := 21) (vi i) (vi (i.toNat : Int)) KR ((congrArg vi LO)) (FACT (s_n = s.length ∧ s_n ≤ s_c) (fun w hw => ⟨(SlO.lenE (hw.own 0 rfl)).1, SlO.capE (hw.own 0 rfl)⟩) (fun hcap3 => (HCUTHV (i := 2) (js := []) 45 (.tmp 20) (.tmp 21) 22 45 KR (NL rfl) s_a s_n s_c .i64 (i.toNat : Int) KR KR 142 4 KR KR LO LO KR rfl (HP [] 3 [(23, .v (.slice s_a s_n s_c))] (HP [] 4 [(24, I j)] (HCAST (d := 24) (vi j) (vi ((i.toNat + 1 : Nat) : Int)) KR ((congrArg vi LO)) (FACT (s_n = s.length ∧ s_n ≤ s_c) (fun w hw => ⟨(SlO.lenE (hw.own 0 rfl)).1, SlO.capE (hw.own 0 rfl)⟩) (fun hcap4 => (HCUTLV (i := 5) (js := []) 45 (.tmp 23) (.tmp 24) 25 45 KR (NL rfl) s_a s_n s_c .i64 ((i.toNat + 1 : Nat) : Int) KR KR 142 4 KR KR LO LO KR rfl (HALL [6] KR (by decide) ?_))))))))))))))))))
 refine FACT (s_a.isSome = true) (fun w hw => SlO.isS (hw.own 0 rfl) LO) (fun hso5 => (APPENDP 45 (.tmp 22) (.tmp 25) 26 45 KR (NL rfl) s_a s_n s_c i.toNat (elA s_a s_c (i.toNat + 1) 4) (s_n - (i.toNat + 1)) (s_c - (i.toNat + 1)) KR KR 142 KR KR 0 s (s.drop (i.toNat + 1)) _ rfl z1R1 (fun w hw => ((hw.rdO 0 rfl).drop LO (i.toNat + 1) LO)) hso5 LO LO (HW [] (HP [] 7 [(0, .v (.slice s_a (i.toNat + (s_n - (i.toNat + 1))) s_c))] (HDz (NEXT (XG (UU 4 [(27, .v (.slice s_a (i.toNat + (s_n - (i.toNat + 1))) s_c)), (29, I (((i.toNat + (s_n - (i.toNat + 1))) : Nat) : Int)), (30, I (s_n : Int))] (FACT ((i.toNat + (s_n - (i.toNat + 1))) = (s.take i.toNat ++ s.drop (i.toNat + 1)).length ∧ (i.toNat + (s_n - (i.toNat + 1))) ≤ s_c) (fun w hw => ⟨(SlO.lenE (hw.own 0 rfl)).1, SlO.capE (hw.own 0 rfl)⟩) (fun hcap6 => (OPC (CUTX 45 (.tmp 27) (.tmp 29) (.tmp 30) 31 45 KR (NL rfl) s_a (i.toNat + (s_n - (i.toNat + 1))) s_c .i64 (((i.toNat + (s_n - (i.toNat + 1))) : Nat) : Int) .i64 (s_n : Int) KR KR KR 142 4 KR KR LO LO LO (OPC (CLEARX 45 (.tmp 31) none 0 KR (by rintro _ ⟨⟩) s_a (i.toNat + (s_n - (i.toNat + 1))) s_c (i.toNat + (s_n - (i.toNat + 1))) (s_n - (i.toNat + (s_n - (i.toNat + 1)))) (s_c - (i.toNat + (s_n - (i.toNat + 1)))) KR 142 (.agg #[vi 0, vi 0, vi 0, vi 0]) KR KR rfl rfl 0 (s.take i.toNat ++ s.drop (i.toNat + 1)) _ rfl hso5 LD LD (NR ?_)))))))))))))))
 refine UU 2 [(6, .v (.slice s_a (i.toNat + (s_n - (i.toNat + 1))) s_c))] (XN (RET (FACT ((i.toNat + (s_n - (i.toNat + 1))) = (s.take i.toNat ++ s.drop (i.toNat + 1)).length) (fun w hw => (SlO.lenE (hw.own 0 rfl)).1) (fun hln7 => ?_))))
 refine RELENK (fun z : Nat => [(6, .v (.slice s_a z s_c))]) (fun z : Nat => []) (fun z : Nat => [slA 142 entryL (.slice s_a z s_c) (s.take i.toNat ++ s.drop (i.toNat + 1))]) hln7 ?_
 have efin : cutAt s i.toNat = s.take i.toNat ++ s.drop (i.toNat + 1) := by rfl
 refine FIN (.slice s_a ((s.take i.toNat ++ s.drop (i.toNat + 1)).length) s_c) KR (s_a, s_c) ?_ [0] ?_
 · (rw [efin] <;> rfl)
 (rw [efin] <;> rfl)

theorem delPin_c (W : World) (s : List Pin) (s_a : Option Addr) (s_n s_c : Nat) (i : Int) (j : Int) (hi0 : 0 ≤ i) (hi : i < (s.length : Int)) (hj : j = i + 1) (hb : s.length ≤ 1048576) : Spec Tryz.prog W [slA 167 pinL (.slice s_a s_n s_c) s] 267 #[.slice s_a s_n s_c, vi i, vi j] (⟨HH, fun p => .slice p.1 ((cutAt s (i).toNat).length) p.2, fun p => [slA 167 pinL (.slice p.1 (cutAt s (i).toNat).length p.2) (cutAt s (i).toNat)]⟩) := by
 refine ENTER (N := 33) (vs := [.slice s_a s_n s_c, vi i, vi j]) Tryz.func267 rfl rfl (NL rfl) (fun S0 => ?_)
 refine FACT (s_n = s.length ∧ s.length ≤ 9223372036854775807) (fun w hw => SlO.lenE (hw.own 0 rfl)) (fun hs_len => (XG (UU 1 [] (NR (UU 2 [(8, .v (.slice s_a s_n s_c)), (9, I i)] (CS 9 (vi i) (vi (i.toNat : Int)) ((congrArg vi LO)) (UU 1 [(10, I j)] (CS 10 (vi j) (vi ((i.toNat + 1 : Nat) : Int)) ((congrArg vi LO)) (UU 2 [(12, I (s_n : Int))] (FACT (s_n = s.length ∧ s_n ≤ s_c) (fun w hw => ⟨(SlO.lenE (hw.own 0 rfl)).1, SlO.capE (hw.own 0 rfl)⟩) (fun hcap1 => (OPC (CUT3V 155 (.tmp 8) (.tmp 9) (.tmp 10) (.tmp 12) 13 155 KR (NL rfl) s_a s_n s_c .i64 (i.toNat : Int) .i64 ((i.toNat + 1 : Nat) : Int) .i64 (s_n : Int) KR KR KR KR 167 2 KR KR LO LO LO LO (XN (SEQ (XG (UU 1 [(14, I i)] (CS 14 (vi i) (vi (i.toNat : Int)) ((congrArg vi LO)) (UU 1 [(15, I j)] (CS 15 (vi j) (vi ((i.toNat + 1 : Nat) : Int)) ((congrArg vi LO)) (UU 1 [(16, B ((i.toNat : Int) == ((i.toNat + 1 : Nat) : Int)))] (NI ((i.toNat : Int) == ((i.toNat + 1 : Nat) : Int)) (fun bh2 => ?_) (fun bh2 => ?_)))))))))))))))))))))))
 · have bh2 := eq_of_beq bh2; exfalso; omega
 have h2 := ne_of_beq_false bh2
 refine XK (XG (UU 3 [(7, I (s_n : Int))] (XN (SEQ (REGIONH KR 8 rfl [] (HP [] 0 [(20, .v (.slice s_a s_n s_c))] (HP [] 1 [(21, I i)] (HCAST (d := 21) (vi i) (vi (i.toNat : Int)) KR ((congrArg vi LO)) (FACT (s_n = s.length ∧ s_n ≤ s_c) (fun w hw => ⟨(SlO.lenE (hw.own 0 rfl)).1, SlO.capE (hw.own 0 rfl)⟩) (fun hcap3 => (HCUTHV (i := 2) (js := []) 155 (.tmp 20) (.tmp 21) 22 155 KR (NL rfl) s_a s_n s_c .i64 (i.toNat : Int) KR KR 167 2 KR KR LO LO KR rfl (HP [] 3 [(23, .v (.slice s_a s_n s_c))] (HP [] 4 [(24, I j)] (HCAST (d := 24) (vi j) (vi ((i.toNat + 1 : Nat) : Int)) KR ((congrArg vi LO)) (FACT (s_n = s.length ∧ s_n ≤ s_c) (fun w hw => ⟨(SlO.lenE (hw.own 0 rfl)).1, SlO.capE (hw.own 0 rfl)⟩) (fun hcap4 => (HCUTLV (i := 5) (js := []) 155 (.tmp 23) (.tmp 24) 25 155 KR (NL rfl) s_a s_n s_c .i64 ((i.toNat + 1 : Nat) : Int) KR KR 167 2 KR KR LO LO KR rfl (HALL [6] KR (by decide) ?_))))))))))))))))))
 refine FACT (s_a.isSome = true) (fun w hw => SlO.isS (hw.own 0 rfl) LO) (fun hso5 => (APPENDP 155 (.tmp 22) (.tmp 25) 26 155 KR (NL rfl) s_a s_n s_c i.toNat (elA s_a s_c (i.toNat + 1) 2) (s_n - (i.toNat + 1)) (s_c - (i.toNat + 1)) KR KR 167 KR KR 0 s (s.drop (i.toNat + 1)) _ rfl z1R1 (fun w hw => ((hw.rdO 0 rfl).drop LO (i.toNat + 1) LO)) hso5 LO LO (HW [] (HP [] 7 [(0, .v (.slice s_a (i.toNat + (s_n - (i.toNat + 1))) s_c))] (HDz (NEXT (XG (UU 4 [(27, .v (.slice s_a (i.toNat + (s_n - (i.toNat + 1))) s_c)), (29, I (((i.toNat + (s_n - (i.toNat + 1))) : Nat) : Int)), (30, I (s_n : Int))] (FACT ((i.toNat + (s_n - (i.toNat + 1))) = (s.take i.toNat ++ s.drop (i.toNat + 1)).length ∧ (i.toNat + (s_n - (i.toNat + 1))) ≤ s_c) (fun w hw => ⟨(SlO.lenE (hw.own 0 rfl)).1, SlO.capE (hw.own 0 rfl)⟩) (fun hcap6 => (OPC (CUTX 155 (.tmp 27) (.tmp 29) (.tmp 30) 31 155 KR (NL rfl) s_a (i.toNat + (s_n - (i.toNat + 1))) s_c .i64 (((i.toNat + (s_n - (i.toNat + 1))) : Nat) : Int) .i64 (s_n : Int) KR KR KR 167 2 KR KR LO LO LO (OPC (CLEARX 155 (.tmp 31) none 0 KR (by rintro _ ⟨⟩) s_a (i.toNat + (s_n - (i.toNat + 1))) s_c (i.toNat + (s_n - (i.toNat + 1))) (s_n - (i.toNat + (s_n - (i.toNat + 1)))) (s_c - (i.toNat + (s_n - (i.toNat + 1)))) KR 167 (.agg #[vi 0, vi 0]) KR KR rfl rfl 0 (s.take i.toNat ++ s.drop (i.toNat + 1)) _ rfl hso5 LD LD (NR ?_)))))))))))))))
 refine UU 2 [(6, .v (.slice s_a (i.toNat + (s_n - (i.toNat + 1))) s_c))] (XN (RET (FACT ((i.toNat + (s_n - (i.toNat + 1))) = (s.take i.toNat ++ s.drop (i.toNat + 1)).length) (fun w hw => (SlO.lenE (hw.own 0 rfl)).1) (fun hln7 => ?_))))
 refine RELENK (fun z : Nat => [(6, .v (.slice s_a z s_c))]) (fun z : Nat => []) (fun z : Nat => [slA 167 pinL (.slice s_a z s_c) (s.take i.toNat ++ s.drop (i.toNat + 1))]) hln7 ?_
 have efin : cutAt s i.toNat = s.take i.toNat ++ s.drop (i.toNat + 1) := by rfl
 refine FIN (.slice s_a ((s.take i.toNat ++ s.drop (i.toNat + 1)).length) s_c) KR (s_a, s_c) ?_ [0] ?_
 · (rw [efin] <;> rfl)
 (rw [efin] <;> rfl)

end SX
end Go.Proofs.YthnbaikmbgaddaaGreat
