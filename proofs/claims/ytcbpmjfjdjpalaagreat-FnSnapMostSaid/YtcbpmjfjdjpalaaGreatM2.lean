/- Walks, printed by program. -/
import Derived.Test.YtcbpmjfjdjpalaaGreatMdlx
import Derived.Test.YtcbpmjfjdjpalaaGreatJ4
import Derived.Test.YtcbpmjfjdjpalaaGreatMdlr
namespace Go.Proofs.YtcbpmjfjdjpalaaGreat
namespace SX
open Go Go.RowKit
set_option linter.unusedVariables false
set_option linter.unusedSimpArgs false
set_option maxRecDepth 10000
set_option maxHeartbeats 400000
theorem s11At_c (W : World) (list : List Party) (list_a : Option Addr) (list_c : Nat) (hlist : Rd partyL W list_a list) (id : Int) : Spec Tryz.prog W [] 59 #[.slice list_a list.length list_c, vi id] (RV (vi (atId list id))) := by
 refine ENTER0 (N := 20) (vs := [.slice list_a list.length list_c, vi id]) Tryz.func59 rfl rfl (NL rfl) ?_
 have hlist_len := hlist.len
 refine SEQ (RG (UU 1 [] (ENDOPS (NEXT (SEQ (SEQ (RG (UU 1 [(5, I 0)] (ENDOPS (NEXT (BLOCK (LOOP (ι := Nat × (List Party)) (fun j => [(0, .v (.slice list_a list.length list_c)), (1, I id), (5, I (j.1 : Int))]) (fun j => []) (fun j => []) (fun j => j.1 + j.2.length = list.length ∧ list.drop j.1 = j.2 ∧ atId list id = idxF (fun e : Party => e.id == id) j.2 j.1) (fun j => j.2.length) (0, list) [0, 1, 5] ⟨by simp, rfl, rfl⟩ (by kernel_rfl) rfl rfl ?_))))))))))))
 rintro ⟨k, ys⟩ ⟨hk, hd, hv0⟩
 try dsimp only at hk hd hv0
 refine SEQ (SEQ (RG (UU 4 [(9, B (decide ((k : Int) < (list.length : Int))))] (NI (decide ((k : Int) < (list.length : Int))) (fun bh1 => ?_) (fun bh1 => ?_)))))
 ·
  have h1 := of_decide_eq_true bh1
  obtain ⟨y2, ys3, rfl, hx_y2, hd_y2, hl_y2⟩ := drop_cons hd hk (by omega)
  refine SKIP (NEXT (SEQ (BLOCK (SEQ (RG (UU 2 [(12, .v (.slice list_a list.length list_c)), (13, I (k : Int))] (OPC (IX 27 (.tmp 12) (.tmp 13) 14 0 list_a list.length list_c .i64 (k : Int) 46 10 (Rd.some hlist (by omega)) (by omega) (by omega) (UU 1 [(15, .e list_a (k * 10) 0)] (OPC (LE 3 (.tmp 15) 16 3 list_a (k * 10) 0 (partyE y2) (vi y2.id) (fun w hw => (hlist.fr hw.fr).flat hx_y2) (UU 2 [(18, B (y2.id == id))] (NI (y2.id == id) (fun bh4 => ?_) (fun bh4 => ?_))))))))))))))
  ·
   have h4 := eq_of_beq bh4
   refine SEQ (RG (UU 2 [(4, I (k : Int))] (ENDOPS (NEXT (RF rfl (vi (k : Int)) () [] ?_ ?_)))))
   · (simp_all [RV, idxF])
   · rfl
  ·
   have h4 := ne_of_beq_false bh4
   refine SKIP (OUTN (NEXT (RG (UU 2 [(11, I (wr ((k : Int) + 1)))] (CS 11 (vi (wr ((k : Int) + 1))) (vi ((k + 1 : Nat) : Int)) (vi_cast (by omega) (by omega)) (UU 1 [(5, I ((k + 1 : Nat) : Int))] (ENDOPS (BK (k + 1, ys3) [0, 1, 5] 0 [] ⟨hl_y2, hd_y2, (hv0.trans (by simp_all [idxF]))⟩ (by simp)))))))))
 ·
  have h1 := of_decide_eq_false bh1
  obtain rfl := drop_nil hk (by omega)
  refine EXIT (PASS trivial (PASS trivial (OUT (NEXT (SEQ (RG (UU 1 [(4, I (-1))] (ENDOPS (NEXT (RF rfl (vi (-1)) () [] ?_ ?_))))))))))
  · (simp_all [RV, idxF])
  · rfl

end SX
end Go.Proofs.YtcbpmjfjdjpalaaGreat
