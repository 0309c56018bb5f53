/- The texts GVfyA, GVfyB, GVfyC, GVfyD, GVfyL, GVfy, GRJoin, GRKey, SRfPad5, SRfK, SRf512, SSameG, SSame5, GRef5, FRfN, FRfMul, FRfPow, FRfLaws, FRfSame, FRfAddL, FRfAddS, RfLess, CvL, RfModL, RfModB, RfMA, RfNumL, GRSeed, RfDecA, RfDecB, RfDecD, RfDecE, RfDecH, merged into one. -/
import Derived.Test.YtcgncafhonlmlaaGE5
namespace Go.Proofs.Ytcgncafhonlmlaa
open Go.RowKit
set_option maxRecDepth 100000 in
set_option maxHeartbeats 2000000 in
theorem sgVfyA_ev (pub : List (BitVec 8)) (text : List (BitVec 8)) (tn : Nat) (tcap : Nat) (sig : List (BitVec 8)) (hpub : pub.length = 32) (htext : text.length = tn) (htn : tn ≤ 1099511627) (hsig : sig.length = 64) (hT : tn ≤ 65536) (hB : sBelow (cut sig 32 32) = false) : Ev Try.prog (.call 18 [.agg (.a8 (pub)), .c (.sl 0 0 tn tcap 1), .agg (.a8 (sig))] [.row false (.a8 (text))]) (.val (.c (.val (.bool (false)))) [.row false (.a8 (text))]) := by
  subst htext
  refine c_call Try.func18 rfl Try.ntmps18 rfl LEN_ ?_
  refine S_ ?_
  refine c_region ?_
  refine s_memN (m_box BX_ LEN_) APP_ rfl ?_
  refine s_memN (m_box BX_ LEN_) APP_ rfl ?_
  refine s_val (v_assignC rfl) rfl ?_
  refine s_nil ?_
  have hQ1 : (cut sig 0 32).length = 32 := LQ_
  have hQ2 : (cut sig 32 32).length = 32 := LQ_
  refine S_ ?_
  refine c_draw 8 mixed (by kernel_rfl) rfl rfl rfl ?_
  refine h_val (v_slA1 (l := 0) (h := 32) (len := 32) (cp := 64) rfl Try.underlying25 sz_5 rfl rfl rfl (by omega) (by omega) FIT_ rfl rfl) rfl ?_
  refine h_val (v_arrP rfl Try.underlying22 (by omega) (by decide)) rfl ?_
  refine h_val (v_loadW8 rfl rfl row_22 sz_22 LE_ (by decide)) rfl ?_
  refine h_val (v_slA1 (l := 32) (h := 64) (len := 32) (cp := 32) rfl Try.underlying25 sz_5 rfl rfl rfl (by omega) (by omega) FIT_ rfl rfl) rfl ?_
  refine h_val (v_arrP rfl Try.underlying22 (by omega) (by decide)) rfl ?_
  refine h_val (v_loadW8 rfl rfl row_22 sz_22 LE_ (by decide)) rfl ?_
  refine h_memN (m_alloc al_22 LEN_) APP_ rfl ?_
  refine h_memN (m_alloc al_22 LEN_) APP_ rfl ?_
  refine h_nil ?_
  refine s_storeR rfl rfl rfl rfl sz_22 EQ_ EQ_ SET_ ?_
  refine s_storeR rfl rfl rfl rfl sz_22 EQ_ EQ_ SET_ ?_
  refine s_nil ?_
  refine S_ ?_
  refine c_region ?_
  refine s_val (v_moveC rfl) rfl ?_
  refine s_val (v_lenS rfl Try.underlying23) rfl ?_
  refine s_val (v_gtrN (b := 65536) rfl rfl) rfl ?_
  refine s_val (v_moveC rfl) rfl ?_
  refine s_go GO_ ?_
  refine s_val (v_loadR rfl rfl row_22 sz_22 EQ_ (by decide)) rfl ?_
  refine s_go GO_ ?_
  refine s_evN (e_callR (bs := []) (sBelowV_ev (cut sig 32 32) false HYP_ hB) ok_17 (by kernel_rfl) (by kernel_rfl) rfl VAL_) APP_ rfl ?_
  refine s_go GO_ ?_
  refine s_val (v_unnotB rfl) rfl ?_
  refine s_val (v_pickF rfl PK_ rfl) rfl ?_
  refine s_nil ?_
  refine S_ ?_
  refine c_region ?_
  refine s_val (v_assignC rfl) rfl ?_
  refine s_nil ?_
  refine S_ ?_
  exact k_1 (by first | exact r_tmpC rfl | exact r_tmpA rfl) (by first | kernel_rfl | rfl)
end Go.Proofs.Ytcgncafhonlmlaa
namespace Go.Proofs.Ytcgncafhonlmlaa
open Go.RowKit
set_option maxRecDepth 100000 in
set_option maxHeartbeats 2000000 in
theorem sgVfyB_ev (pub : List (BitVec 8)) (text : List (BitVec 8)) (tn : Nat) (tcap : Nat) (sig : List (BitVec 8)) (hpub : pub.length = 32) (htext : text.length = tn) (htn : tn ≤ 1099511627) (hsig : sig.length = 64) (hT : tn ≤ 65536) (hB : sBelow (cut sig 32 32) = true) (hp : unOk pub = false) : Ev Try.prog (.call 18 [.agg (.a8 (pub)), .c (.sl 0 0 tn tcap 1), .agg (.a8 (sig))] [.row false (.a8 (text))]) (.val (.c (.val (.bool (false)))) [.row false (.a8 (text))]) := by
  subst htext
  refine c_call Try.func18 rfl Try.ntmps18 rfl LEN_ ?_
  refine S_ ?_
  refine c_region ?_
  refine s_memN (m_box BX_ LEN_) APP_ rfl ?_
  refine s_memN (m_box BX_ LEN_) APP_ rfl ?_
  refine s_val (v_assignC rfl) rfl ?_
  refine s_nil ?_
  have hQ1 : (cut sig 0 32).length = 32 := LQ_
  have hQ2 : (cut sig 32 32).length = 32 := LQ_
  refine S_ ?_
  refine c_draw 8 mixed (by kernel_rfl) rfl rfl rfl ?_
  refine h_val (v_slA1 (l := 0) (h := 32) (len := 32) (cp := 64) rfl Try.underlying25 sz_5 rfl rfl rfl (by omega) (by omega) FIT_ rfl rfl) rfl ?_
  refine h_val (v_arrP rfl Try.underlying22 (by omega) (by decide)) rfl ?_
  refine h_val (v_loadW8 rfl rfl row_22 sz_22 LE_ (by decide)) rfl ?_
  refine h_val (v_slA1 (l := 32) (h := 64) (len := 32) (cp := 32) rfl Try.underlying25 sz_5 rfl rfl rfl (by omega) (by omega) FIT_ rfl rfl) rfl ?_
  refine h_val (v_arrP rfl Try.underlying22 (by omega) (by decide)) rfl ?_
  refine h_val (v_loadW8 rfl rfl row_22 sz_22 LE_ (by decide)) rfl ?_
  refine h_memN (m_alloc al_22 LEN_) APP_ rfl ?_
  refine h_memN (m_alloc al_22 LEN_) APP_ rfl ?_
  refine h_nil ?_
  refine s_storeR rfl rfl rfl rfl sz_22 EQ_ EQ_ SET_ ?_
  refine s_storeR rfl rfl rfl rfl sz_22 EQ_ EQ_ SET_ ?_
  refine s_nil ?_
  refine S_ ?_
  refine c_region ?_
  refine s_val (v_moveC rfl) rfl ?_
  refine s_val (v_lenS rfl Try.underlying23) rfl ?_
  refine s_val (v_gtrN (b := 65536) rfl rfl) rfl ?_
  refine s_val (v_moveC rfl) rfl ?_
  refine s_go GO_ ?_
  refine s_val (v_loadR rfl rfl row_22 sz_22 EQ_ (by decide)) rfl ?_
  refine s_go GO_ ?_
  refine s_evN (e_callR (bs := []) (sBelowV_ev (cut sig 32 32) true HYP_ hB) ok_17 (by kernel_rfl) (by kernel_rfl) rfl VAL_) APP_ rfl ?_
  refine s_go GO_ ?_
  refine s_val (v_unnotB rfl) rfl ?_
  refine s_val (v_pickF rfl PK_ rfl) rfl ?_
  refine s_nil ?_
  have hQ3 : (sgAns3 (cut sig 0 32) pub text).length = 32 := LQ_
  have hQ4 : (cvTmsF0).length = 32 := LQ_
  refine S_ ?_
  refine c_late 11 9 mixed (by kernel_rfl) (by kernel_rfl) rfl rfl rfl ?_
  refine h_val (v_slA1 (l := 0) (h := 32) (len := 32) (cp := 32) rfl Try.underlying22 sz_5 rfl rfl rfl (by omega) (by omega) FIT_ rfl rfl) rfl ?_
  refine h_val (v_slA1 (l := 0) (h := 32) (len := 32) (cp := 32) rfl Try.underlying22 sz_5 rfl rfl rfl (by omega) (by omega) FIT_ rfl rfl) rfl ?_
  refine h_val (v_moveC rfl) rfl ?_
  refine h_memN (m_bsc Try.underlying75 el_23 (rep_23 _) rfl CS_ (by decide) (by decide) LEN_) APP_ rfl ?_
  refine h_evN (e_callR (bs := [5,3,1,0]) (sgAns3_ev (cut sig 0 32) 32 32 pub 32 32 text text.length tcap HYP_ HYP_ HYP_ HYP_ HYP_ HYP_) ok_25 (by kernel_rfl) (by kernel_rfl) rfl VAL_) APP_ rfl ?_
  refine h_val (v_loadR rfl rfl row_22 sz_22 EQ_ (by decide)) rfl ?_
  refine h_evN (e_callR (bs := []) (cvTmsF_ev (sgAns3 (cut sig 0 32) pub text) pub HYP_ HYP_ hp) ok_37 (by kernel_rfl) (by kernel_rfl) rfl VAL_) APP_ rfl ?_
  refine h_val (v_moveT rfl) rfl ?_
  refine h_val (v_extract rfl rfl) rfl ?_
  refine h_val (v_extract rfl rfl) rfl ?_
  refine h_memN (m_alloc al_22 LEN_) APP_ rfl ?_
  refine h_nil ?_
  refine s_storeR rfl rfl rfl rfl sz_22 EQ_ EQ_ SET_ ?_
  refine s_val (v_assignC rfl) rfl ?_
  refine s_nil ?_
  refine S_ ?_
  refine c_region ?_
  refine s_val (v_moveC rfl) rfl ?_
  refine s_val (v_neqN (a := 4) (b := 0) rfl rfl) rfl ?_
  refine s_nil ?_
  refine S_ ?_
  refine c_region ?_
  refine s_val (v_assignC rfl) rfl ?_
  refine s_nil ?_
  refine S_ ?_
  exact k_1 (by first | exact r_tmpC rfl | exact r_tmpA rfl) (by first | kernel_rfl | rfl)
end Go.Proofs.Ytcgncafhonlmlaa
namespace Go.Proofs.Ytcgncafhonlmlaa
open Go.RowKit
set_option maxRecDepth 100000 in
set_option maxHeartbeats 2000000 in
theorem sgVfyC_ev (pub : List (BitVec 8)) (text : List (BitVec 8)) (tn : Nat) (tcap : Nat) (sig : List (BitVec 8)) (hpub : pub.length = 32) (htext : text.length = tn) (htn : tn ≤ 1099511627) (hsig : sig.length = 64) (hT : tn ≤ 65536) (hB : sBelow (cut sig 32 32) = true) (hp : unOk pub = true) (hr : unOk (cut sig 0 32) = false) : Ev Try.prog (.call 18 [.agg (.a8 (pub)), .c (.sl 0 0 tn tcap 1), .agg (.a8 (sig))] [.row false (.a8 (text))]) (.val (.c (.val (.bool (false)))) [.row false (.a8 (text))]) := by
  subst htext
  refine c_call Try.func18 rfl Try.ntmps18 rfl LEN_ ?_
  refine S_ ?_
  refine c_region ?_
  refine s_memN (m_box BX_ LEN_) APP_ rfl ?_
  refine s_memN (m_box BX_ LEN_) APP_ rfl ?_
  refine s_val (v_assignC rfl) rfl ?_
  refine s_nil ?_
  have hQ1 : (cut sig 0 32).length = 32 := LQ_
  have hQ2 : (cut sig 32 32).length = 32 := LQ_
  refine S_ ?_
  refine c_draw 8 mixed (by kernel_rfl) rfl rfl rfl ?_
  refine h_val (v_slA1 (l := 0) (h := 32) (len := 32) (cp := 64) rfl Try.underlying25 sz_5 rfl rfl rfl (by omega) (by omega) FIT_ rfl rfl) rfl ?_
  refine h_val (v_arrP rfl Try.underlying22 (by omega) (by decide)) rfl ?_
  refine h_val (v_loadW8 rfl rfl row_22 sz_22 LE_ (by decide)) rfl ?_
  refine h_val (v_slA1 (l := 32) (h := 64) (len := 32) (cp := 32) rfl Try.underlying25 sz_5 rfl rfl rfl (by omega) (by omega) FIT_ rfl rfl) rfl ?_
  refine h_val (v_arrP rfl Try.underlying22 (by omega) (by decide)) rfl ?_
  refine h_val (v_loadW8 rfl rfl row_22 sz_22 LE_ (by decide)) rfl ?_
  refine h_memN (m_alloc al_22 LEN_) APP_ rfl ?_
  refine h_memN (m_alloc al_22 LEN_) APP_ rfl ?_
  refine h_nil ?_
  refine s_storeR rfl rfl rfl rfl sz_22 EQ_ EQ_ SET_ ?_
  refine s_storeR rfl rfl rfl rfl sz_22 EQ_ EQ_ SET_ ?_
  refine s_nil ?_
  refine S_ ?_
  refine c_region ?_
  refine s_val (v_moveC rfl) rfl ?_
  refine s_val (v_lenS rfl Try.underlying23) rfl ?_
  refine s_val (v_gtrN (b := 65536) rfl rfl) rfl ?_
  refine s_val (v_moveC rfl) rfl ?_
  refine s_go GO_ ?_
  refine s_val (v_loadR rfl rfl row_22 sz_22 EQ_ (by decide)) rfl ?_
  refine s_go GO_ ?_
  refine s_evN (e_callR (bs := []) (sBelowV_ev (cut sig 32 32) true HYP_ hB) ok_17 (by kernel_rfl) (by kernel_rfl) rfl VAL_) APP_ rfl ?_
  refine s_go GO_ ?_
  refine s_val (v_unnotB rfl) rfl ?_
  refine s_val (v_pickF rfl PK_ rfl) rfl ?_
  refine s_nil ?_
  have hQ3 : (sgAns3 (cut sig 0 32) pub text).length = 32 := LQ_
  have hQ4 : (cvTmsT0 (sgAns3 (cut sig 0 32) pub text) pub).length = 32 := LQ_
  refine S_ ?_
  refine c_late 11 9 mixed (by kernel_rfl) (by kernel_rfl) rfl rfl rfl ?_
  refine h_val (v_slA1 (l := 0) (h := 32) (len := 32) (cp := 32) rfl Try.underlying22 sz_5 rfl rfl rfl (by omega) (by omega) FIT_ rfl rfl) rfl ?_
  refine h_val (v_slA1 (l := 0) (h := 32) (len := 32) (cp := 32) rfl Try.underlying22 sz_5 rfl rfl rfl (by omega) (by omega) FIT_ rfl rfl) rfl ?_
  refine h_val (v_moveC rfl) rfl ?_
  refine h_memN (m_bsc Try.underlying75 el_23 (rep_23 _) rfl CS_ (by decide) (by decide) LEN_) APP_ rfl ?_
  refine h_evN (e_callR (bs := [5,3,1,0]) (sgAns3_ev (cut sig 0 32) 32 32 pub 32 32 text text.length tcap HYP_ HYP_ HYP_ HYP_ HYP_ HYP_) ok_25 (by kernel_rfl) (by kernel_rfl) rfl VAL_) APP_ rfl ?_
  refine h_val (v_loadR rfl rfl row_22 sz_22 EQ_ (by decide)) rfl ?_
  refine h_evN (e_callR (bs := []) (cvTmsT_ev (sgAns3 (cut sig 0 32) pub text) pub HYP_ HYP_ hp) ok_37 (by kernel_rfl) (by kernel_rfl) rfl VAL_) APP_ rfl ?_
  refine h_val (v_moveT rfl) rfl ?_
  refine h_val (v_extract rfl rfl) rfl ?_
  refine h_val (v_extract rfl rfl) rfl ?_
  refine h_memN (m_alloc al_22 LEN_) APP_ rfl ?_
  refine h_nil ?_
  refine s_storeR rfl rfl rfl rfl sz_22 EQ_ EQ_ SET_ ?_
  refine s_val (v_assignC rfl) rfl ?_
  refine s_nil ?_
  refine S_ ?_
  refine c_region ?_
  refine s_val (v_moveC rfl) rfl ?_
  refine s_val (v_neqN (a := 0) (b := 0) rfl rfl) rfl ?_
  refine s_nil ?_
  have hQ5 : (cvAddN0).length = 32 := LQ_
  refine S_ ?_
  refine c_region ?_
  refine s_val (v_loadR rfl rfl row_22 sz_22 EQ_ (by decide)) rfl ?_
  refine s_val (v_loadR rfl rfl row_22 sz_22 EQ_ (by decide)) rfl ?_
  refine s_evN (e_callR (bs := []) (cvAddN_ev (cut sig 0 32) (cvTmsT0 (sgAns3 (cut sig 0 32) pub text) pub) HYP_ HYP_ hr) ok_38 (by kernel_rfl) (by kernel_rfl) rfl VAL_) APP_ rfl ?_
  refine s_val (v_moveT rfl) rfl ?_
  refine s_val (v_extract rfl rfl) rfl ?_
  refine s_val (v_extract rfl rfl) rfl ?_
  refine s_memN (m_alloc al_22 LEN_) APP_ rfl ?_
  refine s_storeR rfl rfl rfl rfl sz_22 EQ_ EQ_ SET_ ?_
  refine s_val (v_assignC rfl) rfl ?_
  refine s_nil ?_
  refine S_ ?_
  refine c_draw 9 mixed (by kernel_rfl) rfl rfl rfl ?_
  refine h_val (v_moveC rfl) rfl ?_
  refine h_val (v_eqlN (a := 4) (b := 0) rfl rfl) rfl ?_
  refine h_val (v_moveC rfl) rfl ?_
  refine h_no GO_ ?_
  refine h_no GO_ ?_
  refine h_no GO_ ?_
  refine h_no GO_ ?_
  refine h_val (v_pickF rfl PK_ rfl) rfl ?_
  refine h_val (v_assignC rfl) rfl ?_
  refine h_nil ?_
  refine s_nil ?_
  refine S_ ?_
  exact k_1 (by first | exact r_tmpC rfl | exact r_tmpA rfl) (by first | kernel_rfl | rfl)
end Go.Proofs.Ytcgncafhonlmlaa
namespace Go.Proofs.Ytcgncafhonlmlaa
open Go.RowKit
set_option maxRecDepth 100000 in
set_option maxHeartbeats 2000000 in
theorem sgVfyD_ev (pub : List (BitVec 8)) (text : List (BitVec 8)) (tn : Nat) (tcap : Nat) (sig : List (BitVec 8)) (hpub : pub.length = 32) (htext : text.length = tn) (htn : tn ≤ 1099511627) (hsig : sig.length = 64) (hT : tn ≤ 65536) (hB : sBelow (cut sig 32 32) = true) (hp : unOk pub = true) (hr : unOk (cut sig 0 32) = true) : Ev Try.prog (.call 18 [.agg (.a8 (pub)), .c (.sl 0 0 tn tcap 1), .agg (.a8 (sig))] [.row false (.a8 (text))]) (.val (.c (.val (.bool (decide (cvAddT0 (cut sig 0 32) (cvTmsT0 (sgAns3 (cut sig 0 32) pub text) pub) = enc (oB (cut sig 32 32))))))) [.row false (.a8 (text))]) := by
  subst htext
  refine c_call Try.func18 rfl Try.ntmps18 rfl LEN_ ?_
  refine S_ ?_
  refine c_region ?_
  refine s_memN (m_box BX_ LEN_) APP_ rfl ?_
  refine s_memN (m_box BX_ LEN_) APP_ rfl ?_
  refine s_val (v_assignC rfl) rfl ?_
  refine s_nil ?_
  have hQ1 : (cut sig 0 32).length = 32 := LQ_
  have hQ2 : (cut sig 32 32).length = 32 := LQ_
  refine S_ ?_
  refine c_draw 8 mixed (by kernel_rfl) rfl rfl rfl ?_
  refine h_val (v_slA1 (l := 0) (h := 32) (len := 32) (cp := 64) rfl Try.underlying25 sz_5 rfl rfl rfl (by omega) (by omega) FIT_ rfl rfl) rfl ?_
  refine h_val (v_arrP rfl Try.underlying22 (by omega) (by decide)) rfl ?_
  refine h_val (v_loadW8 rfl rfl row_22 sz_22 LE_ (by decide)) rfl ?_
  refine h_val (v_slA1 (l := 32) (h := 64) (len := 32) (cp := 32) rfl Try.underlying25 sz_5 rfl rfl rfl (by omega) (by omega) FIT_ rfl rfl) rfl ?_
  refine h_val (v_arrP rfl Try.underlying22 (by omega) (by decide)) rfl ?_
  refine h_val (v_loadW8 rfl rfl row_22 sz_22 LE_ (by decide)) rfl ?_
  refine h_memN (m_alloc al_22 LEN_) APP_ rfl ?_
  refine h_memN (m_alloc al_22 LEN_) APP_ rfl ?_
  refine h_nil ?_
  refine s_storeR rfl rfl rfl rfl sz_22 EQ_ EQ_ SET_ ?_
  refine s_storeR rfl rfl rfl rfl sz_22 EQ_ EQ_ SET_ ?_
  refine s_nil ?_
  refine S_ ?_
  refine c_region ?_
  refine s_val (v_moveC rfl) rfl ?_
  refine s_val (v_lenS rfl Try.underlying23) rfl ?_
  refine s_val (v_gtrN (b := 65536) rfl rfl) rfl ?_
  refine s_val (v_moveC rfl) rfl ?_
  refine s_go GO_ ?_
  refine s_val (v_loadR rfl rfl row_22 sz_22 EQ_ (by decide)) rfl ?_
  refine s_go GO_ ?_
  refine s_evN (e_callR (bs := []) (sBelowV_ev (cut sig 32 32) true HYP_ hB) ok_17 (by kernel_rfl) (by kernel_rfl) rfl VAL_) APP_ rfl ?_
  refine s_go GO_ ?_
  refine s_val (v_unnotB rfl) rfl ?_
  refine s_val (v_pickF rfl PK_ rfl) rfl ?_
  refine s_nil ?_
  have hQ3 : (sgAns3 (cut sig 0 32) pub text).length = 32 := LQ_
  have hQ4 : (cvTmsT0 (sgAns3 (cut sig 0 32) pub text) pub).length = 32 := LQ_
  refine S_ ?_
  refine c_late 11 9 mixed (by kernel_rfl) (by kernel_rfl) rfl rfl rfl ?_
  refine h_val (v_slA1 (l := 0) (h := 32) (len := 32) (cp := 32) rfl Try.underlying22 sz_5 rfl rfl rfl (by omega) (by omega) FIT_ rfl rfl) rfl ?_
  refine h_val (v_slA1 (l := 0) (h := 32) (len := 32) (cp := 32) rfl Try.underlying22 sz_5 rfl rfl rfl (by omega) (by omega) FIT_ rfl rfl) rfl ?_
  refine h_val (v_moveC rfl) rfl ?_
  refine h_memN (m_bsc Try.underlying75 el_23 (rep_23 _) rfl CS_ (by decide) (by decide) LEN_) APP_ rfl ?_
  refine h_evN (e_callR (bs := [5,3,1,0]) (sgAns3_ev (cut sig 0 32) 32 32 pub 32 32 text text.length tcap HYP_ HYP_ HYP_ HYP_ HYP_ HYP_) ok_25 (by kernel_rfl) (by kernel_rfl) rfl VAL_) APP_ rfl ?_
  refine h_val (v_loadR rfl rfl row_22 sz_22 EQ_ (by decide)) rfl ?_
  refine h_evN (e_callR (bs := []) (cvTmsT_ev (sgAns3 (cut sig 0 32) pub text) pub HYP_ HYP_ hp) ok_37 (by kernel_rfl) (by kernel_rfl) rfl VAL_) APP_ rfl ?_
  refine h_val (v_moveT rfl) rfl ?_
  refine h_val (v_extract rfl rfl) rfl ?_
  refine h_val (v_extract rfl rfl) rfl ?_
  refine h_memN (m_alloc al_22 LEN_) APP_ rfl ?_
  refine h_nil ?_
  refine s_storeR rfl rfl rfl rfl sz_22 EQ_ EQ_ SET_ ?_
  refine s_val (v_assignC rfl) rfl ?_
  refine s_nil ?_
  refine S_ ?_
  refine c_region ?_
  refine s_val (v_moveC rfl) rfl ?_
  refine s_val (v_neqN (a := 0) (b := 0) rfl rfl) rfl ?_
  refine s_nil ?_
  have hQ5 : (cvAddT0 (cut sig 0 32) (cvTmsT0 (sgAns3 (cut sig 0 32) pub text) pub)).length = 32 := LQ_
  refine S_ ?_
  refine c_region ?_
  refine s_val (v_loadR rfl rfl row_22 sz_22 EQ_ (by decide)) rfl ?_
  refine s_val (v_loadR rfl rfl row_22 sz_22 EQ_ (by decide)) rfl ?_
  refine s_evN (e_callR (bs := []) (cvAddT_ev (cut sig 0 32) (cvTmsT0 (sgAns3 (cut sig 0 32) pub text) pub) HYP_ HYP_ hr (unOk_tms _ _ hpub hp)) ok_38 (by kernel_rfl) (by kernel_rfl) rfl VAL_) APP_ rfl ?_
  refine s_val (v_moveT rfl) rfl ?_
  refine s_val (v_extract rfl rfl) rfl ?_
  refine s_val (v_extract rfl rfl) rfl ?_
  refine s_memN (m_alloc al_22 LEN_) APP_ rfl ?_
  refine s_storeR rfl rfl rfl rfl sz_22 EQ_ EQ_ SET_ ?_
  refine s_val (v_assignC rfl) rfl ?_
  refine s_nil ?_
  have hQ6 : (enc (oB (cut sig 32 32))).length = 32 := LQ_
  refine S_ ?_
  refine c_draw 9 mixed (by kernel_rfl) rfl rfl rfl ?_
  refine h_val (v_moveC rfl) rfl ?_
  refine h_val (v_eqlN (a := 0) (b := 0) rfl rfl) rfl ?_
  refine h_val (v_moveC rfl) rfl ?_
  refine h_go GO_ ?_
  refine h_val (v_loadR rfl rfl row_22 sz_22 EQ_ (by decide)) rfl ?_
  refine h_go GO_ ?_
  refine h_val (v_loadR rfl rfl row_22 sz_22 EQ_ (by decide)) rfl ?_
  refine h_go GO_ ?_
  refine h_evN (e_callR (bs := []) (bsE_ev (cut sig 32 32) HYP_) ok_22 (by kernel_rfl) (by kernel_rfl) rfl VAL_) APP_ rfl ?_
  refine h_go GO_ ?_
  refine h_val (v_eqlR8 rfl rfl Try.underlying22 Try.underlying5 sz_5 EQ_ EQ_) rfl ?_
  refine h_val (v_pickT rfl PK_ rfl) rfl ?_
  refine h_val (v_assignC rfl) rfl ?_
  refine h_nil ?_
  refine s_nil ?_
  refine S_ ?_
  exact k_1 (by first | exact r_tmpC rfl | exact r_tmpA rfl) (by first | kernel_rfl | rfl)
end Go.Proofs.Ytcgncafhonlmlaa
namespace Go.Proofs.Ytcgncafhonlmlaa
open Go.RowKit
end Go.Proofs.Ytcgncafhonlmlaa
namespace Go.Proofs.Ytcgncafhonlmlaa
open Go.RowKit
theorem vfyE_ev (pub text : List (BitVec 8)) (tn tcap : Nat) (sig : List (BitVec 8)) (hpub : pub.length = 32) (htext : text.length = tn) (hsig : sig.length = 64) (htn : tn ≤ 65536) : Ev Try.prog (.call 18 [.agg (.a8 pub), .c (.sl 0 0 tn tcap 1), .agg (.a8 sig)] [.row false (.a8 text)]) (.val (.c (.val (.bool (vfy pub text sig)))) [.row false (.a8 text)]) := by
  have hn : tn ≤ 1099511627 := by omega
  cases hB : sBelow (cut sig 32 32) with
  | false =>
    rw [show vfy pub text sig = false by unfold vfy; rw [hB, Bool.false_and]]
    exact sgVfyA_ev pub text tn tcap sig hpub htext hn hsig htn hB
  | true =>
    cases hp : unOk pub with
    | false =>
      rw [show vfy pub text sig = false by unfold vfy; rw [hB, hp, Bool.false_and, Bool.and_false]]
      exact sgVfyB_ev pub text tn tcap sig hpub htext hn hsig htn hB hp
    | true =>
      cases hr : unOk (cut sig 0 32) with
      | false =>
        rw [show vfy pub text sig = false by unfold vfy; rw [hB, hp, hr, Bool.false_and, Bool.and_false, Bool.and_false]]
        exact sgVfyC_ev pub text tn tcap sig hpub htext hn hsig htn hB hp hr
      | true =>
        rw [show vfy pub text sig = decide (cvAddT0 (cut sig 0 32) (cvTmsT0 (sgAns3 (cut sig 0 32) pub text) pub) = enc (oB (cut sig 32 32))) by unfold vfy; rw [hB, hp, hr, Bool.true_and, Bool.true_and, Bool.true_and]]
        exact sgVfyD_ev pub text tn tcap sig hpub htext hn hsig htn hB hp hr
end Go.Proofs.Ytcgncafhonlmlaa
namespace Go.Proofs.Ytcgncafhonlmlaa
open Go.RowKit
set_option maxRecDepth 100000 in
set_option maxHeartbeats 2000000 in
theorem rjJoin1_ev (a : List (BitVec 8)) (oa : Nat) (na : Nat) (ca : Nat) (ha : oa + na ≤ a.length) (hna : na ≤ 1099511627) : Ev Try.prog (.call 29 [.c (.sl 0 0 1 1 1)] [.row false (.ac [.sl 1 oa na ca 1]), .row false (.a8 (a))]) (.val (.c (.sl 2 0 na na 1)) [.row false (.ac [.sl 1 oa na ca 1]), .row false (.a8 (a)), .row true (.a8 ((cut a oa na)))]) := by
  have hta : (cut a oa na).length = na := by rw [cut_length]; omega
  refine c_call Try.func29 rfl Try.ntmps29 rfl LEN_ ?_
  refine S_ ?_
  refine c_region ?_
  refine s_val (v_assignC rfl) rfl ?_
  refine s_nil ?_
  refine S_ ?_
  refine c_region ?_
  refine s_val (v_assignC rfl) rfl ?_
  refine s_nil ?_
  refine S_ ?_
  refine c_region ?_
  refine s_val (v_assignC rfl) rfl ?_
  refine s_nil ?_
  refine Q_ ?_
  refine c_peel ?_
  refine S_ ?_
  refine c_region ?_
  refine s_val (v_moveC rfl) rfl ?_
  refine s_val (v_moveC rfl) rfl ?_
  refine s_val (v_lenS rfl Try.underlying75) rfl ?_
  refine s_val (v_lssN (a := 0) (b := 1) rfl rfl) rfl ?_
  refine s_nil ?_
  refine S_ ?_
  refine c_region ?_
  refine s_val (v_moveC rfl) rfl ?_
  refine s_val (v_moveC rfl) rfl ?_
  refine s_val (v_moveC rfl) rfl ?_
  refine s_val (v_idxS1 (j := 0) rfl rfl Try.underlying75 sz_23 (by omega)) rfl ?_
  refine s_val (v_load rfl rfl row_23 LT_ rfl) rfl ?_
  refine s_memN (m_appN8c rfl rfl rfl Try.underlying23 Try.underlying23 el_5 LE_ (by omega) LEN_) APP_ rfl ?_
  refine s_val (v_assignC rfl) rfl ?_
  refine s_nil ?_
  refine S_ ?_
  refine c_region ?_
  refine s_val (v_moveC rfl) rfl ?_
  refine s_val (v_addN (a := 0) (b := 1) rfl rfl (by omega)) rfl ?_
  refine s_val (v_assignC rfl) rfl ?_
  refine s_nil ?_
  show WC _ _ _ _ _
  refine Q_ ?_
  refine c_peel ?_
  refine S_ ?_
  refine c_region ?_
  refine s_val (v_moveC rfl) rfl ?_
  refine s_val (v_moveC rfl) rfl ?_
  refine s_val (v_lenS rfl Try.underlying75) rfl ?_
  refine s_val (v_lssN (a := 1) (b := 1) rfl rfl) rfl ?_
  refine s_nil ?_
  refine S_ ?_
  refine c_region ?_
  refine s_val (v_moveC rfl) rfl ?_
  refine s_val (v_assignC rfl) rfl ?_
  refine s_nil ?_
  refine S_ ?_
  exact k_1 (by first | exact r_tmpC rfl | exact r_tmpA rfl) (by first | kernel_rfl | rfl)
set_option maxRecDepth 100000 in
set_option maxHeartbeats 2000000 in
theorem rjJoin2_ev (a : List (BitVec 8)) (na : Nat) (ca : Nat) (b : List (BitVec 8)) (nb : Nat) (cb : Nat) (ha : a.length = na) (hna : na ≤ 1099511627) (hb : b.length = nb) (hnb : nb ≤ 1099511627) : Ev Try.prog (.call 29 [.c (.sl 0 0 2 2 1)] [.row false (.ac [.sl 1 0 na ca 1, .sl 2 0 nb cb 1]), .row false (.a8 (a)), .row false (.a8 (b))]) (.val (.c (.sl 3 0 (na + nb) (na + nb) 1)) [.row false (.ac [.sl 1 0 na ca 1, .sl 2 0 nb cb 1]), .row false (.a8 (a)), .row false (.a8 (b)), .row true (.a8 (a ++ b))]) := by
  subst ha
  subst hb
  refine c_call Try.func29 rfl Try.ntmps29 rfl LEN_ ?_
  refine S_ ?_
  refine c_region ?_
  refine s_val (v_assignC rfl) rfl ?_
  refine s_nil ?_
  refine S_ ?_
  refine c_region ?_
  refine s_val (v_assignC rfl) rfl ?_
  refine s_nil ?_
  refine S_ ?_
  refine c_region ?_
  refine s_val (v_assignC rfl) rfl ?_
  refine s_nil ?_
  refine Q_ ?_
  refine c_peel ?_
  refine S_ ?_
  refine c_region ?_
  refine s_val (v_moveC rfl) rfl ?_
  refine s_val (v_moveC rfl) rfl ?_
  refine s_val (v_lenS rfl Try.underlying75) rfl ?_
  refine s_val (v_lssN (a := 0) (b := 2) rfl rfl) rfl ?_
  refine s_nil ?_
  refine S_ ?_
  refine c_region ?_
  refine s_val (v_moveC rfl) rfl ?_
  refine s_val (v_moveC rfl) rfl ?_
  refine s_val (v_moveC rfl) rfl ?_
  refine s_val (v_idxS1 (j := 0) rfl rfl Try.underlying75 sz_23 (by omega)) rfl ?_
  refine s_val (v_load rfl rfl row_23 LT_ rfl) rfl ?_
  refine s_memN (m_appN8 rfl rfl rfl Try.underlying23 Try.underlying23 el_5 EQL_ (by omega) LEN_) APP_ rfl ?_
  refine s_val (v_assignC rfl) rfl ?_
  refine s_nil ?_
  refine S_ ?_
  refine c_region ?_
  refine s_val (v_moveC rfl) rfl ?_
  refine s_val (v_addN (a := 0) (b := 1) rfl rfl (by omega)) rfl ?_
  refine s_val (v_assignC rfl) rfl ?_
  refine s_nil ?_
  show WC _ _ _ _ _
  refine Q_ ?_
  refine c_peel ?_
  refine S_ ?_
  refine c_region ?_
  refine s_val (v_moveC rfl) rfl ?_
  refine s_val (v_moveC rfl) rfl ?_
  refine s_val (v_lenS rfl Try.underlying75) rfl ?_
  refine s_val (v_lssN (a := 1) (b := 2) rfl rfl) rfl ?_
  refine s_nil ?_
  refine S_ ?_
  refine c_region ?_
  refine s_val (v_moveC rfl) rfl ?_
  refine s_val (v_moveC rfl) rfl ?_
  refine s_val (v_moveC rfl) rfl ?_
  refine s_val (v_idxS1 (j := 1) rfl rfl Try.underlying75 sz_23 (by omega)) rfl ?_
  refine s_val (v_load rfl rfl row_23 LT_ rfl) rfl ?_
  refine s_app8 rfl rfl rfl rfl Try.underlying23 Try.underlying23 el_5 EQL_ EQL_ (by omega) LEN_ KILL_ rfl ?_
  refine s_val (v_assignC rfl) rfl ?_
  refine s_nil ?_
  refine S_ ?_
  refine c_region ?_
  refine s_val (v_moveC rfl) rfl ?_
  refine s_val (v_addN (a := 1) (b := 1) rfl rfl (by omega)) rfl ?_
  refine s_val (v_assignC rfl) rfl ?_
  refine s_nil ?_
  show WC _ _ _ _ _
  refine Q_ ?_
  refine c_peel ?_
  refine S_ ?_
  refine c_region ?_
  refine s_val (v_moveC rfl) rfl ?_
  refine s_val (v_moveC rfl) rfl ?_
  refine s_val (v_lenS rfl Try.underlying75) rfl ?_
  refine s_val (v_lssN (a := 2) (b := 2) rfl rfl) rfl ?_
  refine s_nil ?_
  refine S_ ?_
  refine c_region ?_
  refine s_val (v_moveC rfl) rfl ?_
  refine s_val (v_assignC rfl) rfl ?_
  refine s_nil ?_
  refine S_ ?_
  exact k_1 (by first | exact r_tmpC rfl | exact r_tmpA rfl) (by first | kernel_rfl | rfl)
set_option maxRecDepth 100000 in
set_option maxHeartbeats 2000000 in
theorem rjJoin3_ev (a : List (BitVec 8)) (na : Nat) (ca : Nat) (b : List (BitVec 8)) (nb : Nat) (cb : Nat) (c : List (BitVec 8)) (nc : Nat) (cc : Nat) (ha : a.length = na) (hna : na ≤ 1099511627) (hb : b.length = nb) (hnb : nb ≤ 1099511627) (hc : c.length = nc) (hnc : nc ≤ 1099511627) : Ev Try.prog (.call 29 [.c (.sl 0 0 3 3 1)] [.row false (.ac [.sl 1 0 na ca 1, .sl 2 0 nb cb 1, .sl 3 0 nc cc 1]), .row false (.a8 (a)), .row false (.a8 (b)), .row false (.a8 (c))]) (.val (.c (.sl 4 0 ((na + nb) + nc) ((na + nb) + nc) 1)) [.row false (.ac [.sl 1 0 na ca 1, .sl 2 0 nb cb 1, .sl 3 0 nc cc 1]), .row false (.a8 (a)), .row false (.a8 (b)), .row false (.a8 (c)), .row true (.a8 ((a ++ b) ++ c))]) := by
  subst ha
  subst hb
  subst hc
  refine c_call Try.func29 rfl Try.ntmps29 rfl LEN_ ?_
  refine S_ ?_
  refine c_region ?_
  refine s_val (v_assignC rfl) rfl ?_
  refine s_nil ?_
  refine S_ ?_
  refine c_region ?_
  refine s_val (v_assignC rfl) rfl ?_
  refine s_nil ?_
  refine S_ ?_
  refine c_region ?_
  refine s_val (v_assignC rfl) rfl ?_
  refine s_nil ?_
  refine Q_ ?_
  refine c_peel ?_
  refine S_ ?_
  refine c_region ?_
  refine s_val (v_moveC rfl) rfl ?_
  refine s_val (v_moveC rfl) rfl ?_
  refine s_val (v_lenS rfl Try.underlying75) rfl ?_
  refine s_val (v_lssN (a := 0) (b := 3) rfl rfl) rfl ?_
  refine s_nil ?_
  refine S_ ?_
  refine c_region ?_
  refine s_val (v_moveC rfl) rfl ?_
  refine s_val (v_moveC rfl) rfl ?_
  refine s_val (v_moveC rfl) rfl ?_
  refine s_val (v_idxS1 (j := 0) rfl rfl Try.underlying75 sz_23 (by omega)) rfl ?_
  refine s_val (v_load rfl rfl row_23 LT_ rfl) rfl ?_
  refine s_memN (m_appN8 rfl rfl rfl Try.underlying23 Try.underlying23 el_5 EQL_ (by omega) LEN_) APP_ rfl ?_
  refine s_val (v_assignC rfl) rfl ?_
  refine s_nil ?_
  refine S_ ?_
  refine c_region ?_
  refine s_val (v_moveC rfl) rfl ?_
  refine s_val (v_addN (a := 0) (b := 1) rfl rfl (by omega)) rfl ?_
  refine s_val (v_assignC rfl) rfl ?_
  refine s_nil ?_
  show WC _ _ _ _ _
  refine Q_ ?_
  refine c_peel ?_
  refine S_ ?_
  refine c_region ?_
  refine s_val (v_moveC rfl) rfl ?_
  refine s_val (v_moveC rfl) rfl ?_
  refine s_val (v_lenS rfl Try.underlying75) rfl ?_
  refine s_val (v_lssN (a := 1) (b := 3) rfl rfl) rfl ?_
  refine s_nil ?_
  refine S_ ?_
  refine c_region ?_
  refine s_val (v_moveC rfl) rfl ?_
  refine s_val (v_moveC rfl) rfl ?_
  refine s_val (v_moveC rfl) rfl ?_
  refine s_val (v_idxS1 (j := 1) rfl rfl Try.underlying75 sz_23 (by omega)) rfl ?_
  refine s_val (v_load rfl rfl row_23 LT_ rfl) rfl ?_
  refine s_app8 rfl rfl rfl rfl Try.underlying23 Try.underlying23 el_5 EQL_ EQL_ (by omega) LEN_ KILL_ rfl ?_
  refine s_val (v_assignC rfl) rfl ?_
  refine s_nil ?_
  refine S_ ?_
  refine c_region ?_
  refine s_val (v_moveC rfl) rfl ?_
  refine s_val (v_addN (a := 1) (b := 1) rfl rfl (by omega)) rfl ?_
  refine s_val (v_assignC rfl) rfl ?_
  refine s_nil ?_
  show WC _ _ _ _ _
  refine Q_ ?_
  refine c_peel ?_
  refine S_ ?_
  refine c_region ?_
  refine s_val (v_moveC rfl) rfl ?_
  refine s_val (v_moveC rfl) rfl ?_
  refine s_val (v_lenS rfl Try.underlying75) rfl ?_
  refine s_val (v_lssN (a := 2) (b := 3) rfl rfl) rfl ?_
  refine s_nil ?_
  refine S_ ?_
  refine c_region ?_
  refine s_val (v_moveC rfl) rfl ?_
  refine s_val (v_moveC rfl) rfl ?_
  refine s_val (v_moveC rfl) rfl ?_
  refine s_val (v_idxS1 (j := 2) rfl rfl Try.underlying75 sz_23 (by omega)) rfl ?_
  refine s_val (v_load rfl rfl row_23 LT_ rfl) rfl ?_
  refine s_app8 rfl rfl rfl rfl Try.underlying23 Try.underlying23 el_5 EQL_ EQL_ (by omega) LEN_ KILL_ rfl ?_
  refine s_val (v_assignC rfl) rfl ?_
  refine s_nil ?_
  refine S_ ?_
  refine c_region ?_
  refine s_val (v_moveC rfl) rfl ?_
  refine s_val (v_addN (a := 2) (b := 1) rfl rfl (by omega)) rfl ?_
  refine s_val (v_assignC rfl) rfl ?_
  refine s_nil ?_
  show WC _ _ _ _ _
  refine Q_ ?_
  refine c_peel ?_
  refine S_ ?_
  refine c_region ?_
  refine s_val (v_moveC rfl) rfl ?_
  refine s_val (v_moveC rfl) rfl ?_
  refine s_val (v_lenS rfl Try.underlying75) rfl ?_
  refine s_val (v_lssN (a := 3) (b := 3) rfl rfl) rfl ?_
  refine s_nil ?_
  refine S_ ?_
  refine c_region ?_
  refine s_val (v_moveC rfl) rfl ?_
  refine s_val (v_assignC rfl) rfl ?_
  refine s_nil ?_
  refine S_ ?_
  exact k_1 (by first | exact r_tmpC rfl | exact r_tmpA rfl) (by first | kernel_rfl | rfl)
end Go.Proofs.Ytcgncafhonlmlaa
namespace Go.Proofs.Ytcgncafhonlmlaa
open Go.RowKit
def rkKey (b : List (BitVec 8)) : List (BitVec 64) := rfOf (put (put b 0 ((nth b 0) &&& 248#8)) 31 (((nth (put b 0 ((nth b 0) &&& 248#8)) 31) &&& 127#8) ||| 64#8))
set_option maxRecDepth 100000 in
set_option maxHeartbeats 2000000 in
theorem rkKey_ev (b : List (BitVec 8)) (hb : b.length = 32) : Ev Try.prog (.call 52 [.agg (.a8 (b))] []) (.val (.agg (.a64 (rkKey b))) []) := by
  have hP : Hid (rkKey b = rfOf (put (put b 0 ((nth b 0) &&& 248#8)) 31 (((nth (put b 0 ((nth b 0) &&& 248#8)) 31) &&& 127#8) ||| 64#8))) := ⟨rfl⟩
  refine c_call Try.func52 rfl Try.ntmps52 rfl LEN_ ?_
  refine S_ ?_
  refine c_region ?_
  refine s_memN (m_box BX_ LEN_) APP_ rfl ?_
  refine s_memN (m_alloc al_42 LEN_) APP_ rfl ?_
  refine s_nil ?_
  refine S_ ?_
  refine c_region ?_
  refine s_val (v_idxA1 (j := 0) rfl rfl Try.underlying22 sz_5 (by omega)) rfl ?_
  refine s_val (v_load8 rfl rfl row_5 LT_) rfl ?_
  refine s_val (v_and8 (b := 248#8) rfl rfl) rfl ?_
  refine s_val (v_idxA1 (j := 0) rfl rfl Try.underlying22 sz_5 (by omega)) rfl ?_
  refine s_store8 rfl rfl rfl sz_5 LT_ SET_ ?_
  refine s_nil ?_
  refine S_ ?_
  refine c_region ?_
  refine s_val (v_idxA1 (j := 31) rfl rfl Try.underlying22 sz_5 (by omega)) rfl ?_
  refine s_val (v_load8 rfl rfl row_5 LT_) rfl ?_
  refine s_val (v_and8 (b := 127#8) rfl rfl) rfl ?_
  refine s_val (v_or8 (b := 64#8) rfl rfl) rfl ?_
  refine s_val (v_idxA1 (j := 31) rfl rfl Try.underlying22 sz_5 (by omega)) rfl ?_
  refine s_store8 rfl rfl rfl sz_5 LT_ SET_ ?_
  refine s_nil ?_
  have hQ1 : (rfOf (put (put b 0 ((nth b 0) &&& 248#8)) 31 (((nth (put b 0 ((nth b 0) &&& 248#8)) 31) &&& 127#8) ||| 64#8))).length = 4 := LQ_
  refine S_ ?_
  refine c_region ?_
  refine s_val (v_loadR rfl rfl row_22 sz_22 EQ_ (by decide)) rfl ?_
  refine s_evN (e_callR (bs := []) (rfOf_ev (put (put b 0 ((nth b 0) &&& 248#8)) 31 (((nth (put b 0 ((nth b 0) &&& 248#8)) 31) &&& 127#8) ||| 64#8)) HYP_) ok_55 (by kernel_rfl) (by kernel_rfl) rfl VAL_) APP_ rfl ?_
  refine s_storeR rfl rfl rfl rfl sz_42 EQ_ EQ_ SET_ ?_
  refine s_nil ?_
  refine S_ ?_
  rw [hP.out]
  exact k_1 (r_row rfl rfl row_42 sz_42 EQ_ (by decide)) (by first | kernel_rfl | rfl)
@[simp] theorem rkKey_len (b : List (BitVec 8)) (hb : b.length = 32) : (rkKey b).length = 4 := by
  unfold rkKey
  first | (simp [*]; done) | (simp [*]; omega)
attribute [irreducible] rkKey
end Go.Proofs.Ytcgncafhonlmlaa
namespace Go.Proofs.Ytcgncafhonlmlaa
open Go.RowKit
def rfPad5_L3_S (X1 : List (BitVec 8)) : List (BitVec 8) := X1 ++ [0#8]
def rfPad5_L3 (tx : List (BitVec 8)) : Nat → List (BitVec 8)
  | 0 => tx ++ [128#8]
  | j3 + 1 => rfPad5_L3_S (rfPad5_L3 tx j3)
@[simp] theorem rfPad5_L3_len (tx : List (BitVec 8)) (j3 : Nat) : (rfPad5_L3 tx j3).length = (tx.length + 1) + j3 := by
  induction j3 with
  | zero => first | (simp [rfPad5_L3, *]; done) | (simp [rfPad5_L3, *]; omega)
  | succ j3 ih => rw [rfPad5_L3.eq_2, rfPad5_L3_S]; first | (simp [ih]; done) | (simp [ih]; omega) | (simp [*]; done) | (simp [*]; omega) | (split <;> first | (simp [ih]; done) | (simp [ih]; omega) | (simp [*]; done))
def rfPad5_L7_S (tx : List (BitVec 8)) (X3 : List (BitVec 8)) (j7 : Nat) : List (BitVec 8) := (if 8 ≤ 15 - j7 then X3 ++ [0#8] else X3 ++ [(((BitVec.ofNat 64 tx.length) * 8#64) >>> (8#64 * (BitVec.ofNat 64 (15 - j7))).toNat).setWidth 8])
def rfPad5_L7 (tx : List (BitVec 8)) (Y2 : List (BitVec 8)) : Nat → List (BitVec 8)
  | 0 => Y2
  | j7 + 1 => rfPad5_L7_S tx (rfPad5_L7 tx Y2 j7) j7
@[simp] theorem rfPad5_L7_len (tx : List (BitVec 8)) (Y2 : List (BitVec 8)) (j7 : Nat) : (rfPad5_L7 tx Y2 j7).length = Y2.length + j7 := by
  induction j7 with
  | zero => first | (simp [rfPad5_L7, *]; done) | (simp [rfPad5_L7, *]; omega)
  | succ j7 ih => rw [rfPad5_L7.eq_2, rfPad5_L7_S]; first | (simp [ih]; done) | (simp [ih]; omega) | (simp [rfPad5_L3_len, *]; done) | (simp [rfPad5_L3_len, *]; omega) | (split <;> first | (simp [ih]; done) | (simp [ih]; omega) | (simp [rfPad5_L3_len, *]; done))
def rfPad5 (tx : List (BitVec 8)) : List (BitVec 8) := (rfPad5_L7 tx (rfPad5_L3 tx ((240 - (tx.length + 1) % 128) % 128)) 16)
set_option maxRecDepth 100000 in
set_option maxHeartbeats 2000000 in
theorem rfPad5_ev (b : List (BitVec 8)) (o : Nat) (n : Nat) (cap : Nat) (hb : o + n ≤ b.length) (hn : n ≤ 4398046511104) : Ev Try.prog (.call 58 [.c (.sl 0 o n cap 1), .c (.val (.int .i64 ((128 : Nat) : Int))), .c (.val (.int .i64 ((16 : Nat) : Int)))] [.row false (.a8 (b))]) (.val (.c (.sl 1 0 (((n + 1) + (240 - (n + 1) % 128) % 128) + 16) (((n + 1) + (240 - (n + 1) % 128) % 128) + 16) 1)) [.row false (.a8 (b)), .row true (.a8 (rfPad5 (cut b o n)))]) := by
  have hP : Hid (rfPad5 (cut b o n) = (rfPad5_L7 (cut b o n) (rfPad5_L3 (cut b o n) ((240 - ((cut b o n).length + 1) % 128) % 128)) 16)) := ⟨rfl⟩
  have htx : (cut b o n).length = n := by rw [cut_length]; omega
  try simp only [htx] at hP
  refine c_call Try.func58 rfl Try.ntmps58 rfl LEN_ ?_
  refine S_ ?_
  refine c_region ?_
  refine s_val (v_assignC rfl) rfl ?_
  refine s_nil ?_
  refine S_ ?_
  refine c_region ?_
  refine s_val (v_assignC rfl) rfl ?_
  refine s_nil ?_
  refine S_ ?_
  refine c_region ?_
  refine s_val (v_moveC rfl) rfl ?_
  refine s_val (v_moveC rfl) rfl ?_
  refine s_memN (m_appN8c rfl rfl rfl Try.underlying23 Try.underlying23 el_5 LE_ (by omega) LEN_) APP_ rfl ?_
  refine s_memN (m_bs8 (l := [128#8]) Try.underlying23 el_5 rfl rfl (by decide) (by decide) LEN_) APP_ rfl ?_
  refine s_app8 rfl rfl rfl rfl Try.underlying23 Try.underlying23 el_5 EQL_ EQL_ (by omega) LEN_ KILL_ rfl ?_
  refine s_val (v_assignC rfl) rfl ?_
  refine s_nil ?_
  refine S_ ?_
  refine c_loopC [0, 1, 2, 7] (fun (zz : Nat × List (BitVec 8)) => ⟨50, keepT [0, 1, 2, 7] [.c (.sl 0 o n cap 1), .c (.val (.int .i64 (((128 : Nat) : Int)))), .c (.val (.int .i64 (((16 : Nat) : Int)))), .c (.sl 1 0 ((n + 1) + zz.1) ((n + 1) + zz.1) 1)], [.row false (.a8 (b)), .row true (.a8 (zz.2))]⟩) (fun j3 => (j3, rfPad5_L3 (cut b o n) j3)) ((240 - (n + 1) % 128) % 128) (by kernel_rfl) ?_ ?_
  · intro j3 hj3
    try dsimp only
    have hX1 : (rfPad5_L3 (cut b o n) j3).length = (n + 1) + j3 := by rw [rfPad5_L3_len (cut b o n) _]; try omega
    rw [rfPad5_L3.eq_2, rfPad5_L3_S]
    try simp only [htx]
    generalize rfPad5_L3 (cut b o n) j3 = X1 at *
    refine S_ ?_
    refine c_region ?_
    refine s_val (v_moveC rfl) rfl ?_
    refine s_val (v_lenS rfl Try.underlying23) rfl ?_
    refine s_val (v_moveC rfl) rfl ?_
    refine s_val (v_addN (b := 16) rfl rfl (by omega)) rfl ?_
    refine s_val (v_moveC rfl) rfl ?_
    refine s_val (v_remN (b := 128) rfl rfl (by omega) (by omega)) rfl ?_
    refine s_val (v_neqN (b := 0) rfl rfl) rfl ?_
    refine s_nil ?_
    refine S_ ?_
    refine c_region ?_
    refine s_val (v_moveC rfl) rfl ?_
    refine s_memN (m_bs8 (l := [0#8]) Try.underlying23 el_5 rfl rfl (by decide) (by decide) LEN_) APP_ rfl ?_
    refine s_app8 rfl rfl rfl rfl Try.underlying23 Try.underlying23 el_5 EQL_ EQL_ (by omega) LEN_ KILL_ rfl ?_
    refine s_val (v_assignC rfl) rfl ?_
    refine s_nil ?_
    exact ⟨(j3 + 1, _), by kernel_rfl, rfl⟩
  · try dsimp only
    have hY2 : (rfPad5_L3 (cut b o n) ((240 - (n + 1) % 128) % 128)).length = (n + 1) + (240 - (n + 1) % 128) % 128 := by rw [rfPad5_L3_len (cut b o n) _]; try omega
    generalize rfPad5_L3 (cut b o n) ((240 - (n + 1) % 128) % 128) = Y2 at *
    refine S_ ?_
    refine c_region ?_
    refine s_val (v_moveC rfl) rfl ?_
    refine s_val (v_lenS rfl Try.underlying23) rfl ?_
    refine s_val (v_moveC rfl) rfl ?_
    refine s_val (v_addN (b := 16) rfl rfl (by omega)) rfl ?_
    refine s_val (v_moveC rfl) rfl ?_
    refine s_val (v_remN (b := 128) rfl rfl (by omega) (by omega)) rfl ?_
    refine s_val (v_neqN (b := 0) rfl rfl) rfl ?_
    refine s_nil ?_
    refine S_ ?_
    refine c_region ?_
    refine s_val (v_moveC rfl) rfl ?_
    refine s_val (v_lenS rfl Try.underlying23) rfl ?_
    refine s_val (v_conv rfl Try.underlying3 Try.underlying40 (wi_64 _)) rfl ?_
    refine s_val (v_mul64 (b := 8#64) rfl rfl) rfl ?_
    refine s_val (v_assignC rfl) rfl ?_
    refine s_nil ?_
    refine S_ ?_
    refine c_region ?_
    refine s_val (v_moveC rfl) rfl ?_
    refine s_val (v_subN (a := 16) (b := 1) rfl rfl (by omega) (by omega)) rfl ?_
    refine s_val (v_assignC rfl) rfl ?_
    refine s_nil ?_
    refine S_ ?_
    refine c_loopC [7, 8, 9] (fun (zz : Nat × List (BitVec 8)) => ⟨50, keepT [7, 8, 9] [.c (.sl 1 0 (((n + 1) + (240 - (n + 1) % 128) % 128) + zz.1) (((n + 1) + (240 - (n + 1) % 128) % 128) + zz.1) 1), .c (.val (U64 ((BitVec.ofNat 64 n) * 8#64))), .c (.val (.int .i64 (((15 : Nat) : Int) - ((zz.1 : Nat) : Int))))], [.row false (.a8 (b)), .row true (.a8 (zz.2))]⟩) (fun j7 => (j7, rfPad5_L7 (cut b o n) Y2 j7)) (16) (by kernel_rfl) ?_ ?_
    · intro j7 hj7
      try dsimp only
      have hX3 : (rfPad5_L7 (cut b o n) Y2 j7).length = ((n + 1) + (240 - (n + 1) % 128) % 128) + j7 := by rw [rfPad5_L7_len (cut b o n) Y2 _]; try omega
      rw [rfPad5_L7.eq_2, rfPad5_L7_S]
      try simp only [htx]
      generalize rfPad5_L7 (cut b o n) Y2 j7 = X3 at *
      rw [show ((15 : Nat) : Int) - ((j7 : Nat) : Int) = ((15 - j7 : Nat) : Int) from by omega]
      refine S_ ?_
      refine c_region ?_
      refine s_val (v_moveC rfl) rfl ?_
      refine s_val (v_geqN (b := 0) rfl rfl) rfl ?_
      refine s_nil ?_
      refine S_ ?_
      refine c_region ?_
      refine s_val (v_moveC rfl) rfl ?_
      refine s_val (v_geqN (b := 8) rfl rfl) rfl ?_
      refine s_nil ?_
      refine Q_ ?_
      refine c_join [7, 8, 9] (fun (zz : List (BitVec 8)) => ⟨50, keepT [7, 8, 9] [.c (.sl 1 0 ((((n + 1) + (240 - (n + 1) % 128) % 128) + j7) + 1) ((((n + 1) + (240 - (n + 1) % 128) % 128) + j7) + 1) 1), .c (.val (U64 ((BitVec.ofNat 64 n) * 8#64))), .c (.val (.int .i64 (((15 - j7 : Nat) : Int))))], [.row false (.a8 (b)), .row true (.a8 (zz))]⟩) (if 8 ≤ 15 - j7 then X3 ++ [0#8] else X3 ++ [(((BitVec.ofNat 64 n) * 8#64) >>> (8#64 * (BitVec.ofNat 64 (15 - j7))).toNat).setWidth 8]) rfl (fun hb => ?_) (fun hb => ?_) ?_
      · -- the test is True
        have hb_ := of_decide_eq_true hb
        refine S_ ?_
        refine c_region ?_
        refine s_val (v_moveC rfl) rfl ?_
        refine s_memN (m_bs8 (l := [0#8]) Try.underlying23 el_5 rfl rfl (by decide) (by decide) LEN_) APP_ rfl ?_
        refine s_app8 rfl rfl rfl rfl Try.underlying23 Try.underlying23 el_5 EQL_ EQL_ (by omega) LEN_ KILL_ rfl ?_
        refine s_val (v_assignC rfl) rfl ?_
        refine s_nil ?_
        refine S_ ?_
        refine ⟨(X3 ++ [0#8]), by kernel_rfl, ?_⟩
        rw [if_pos (of_decide_eq_true hb)]
      · -- the test is False
        have hb_ := of_decide_eq_false hb
        refine S_ ?_
        refine c_region ?_
        refine s_val (v_moveC rfl) rfl ?_
        refine s_val (v_moveC rfl) rfl ?_
        refine s_val (v_moveC rfl) rfl ?_
        refine s_val (v_conv rfl Try.underlying3 Try.underlying72 (wi_64 _)) rfl ?_
        refine s_val (v_mul64 (a := 8#64) rfl rfl) rfl ?_
        refine s_val (v_shr64w rfl rfl) rfl ?_
        refine s_val (v_conv rfl Try.underlying40 Try.underlying5 (w64_8 _)) rfl ?_
        refine s_memN (m_bs8 (l := [_]) Try.underlying23 el_5 rfl rfl (by decide) (by decide) LEN_) APP_ rfl ?_
        refine s_app8 rfl rfl rfl rfl Try.underlying23 Try.underlying23 el_5 EQL_ EQL_ (by omega) LEN_ KILL_ rfl ?_
        refine s_val (v_assignC rfl) rfl ?_
        refine s_nil ?_
        refine S_ ?_
        refine ⟨(X3 ++ [(((BitVec.ofNat 64 n) * 8#64) >>> (8#64 * (BitVec.ofNat 64 (15 - j7))).toNat).setWidth 8]), by kernel_rfl, ?_⟩
        rw [if_neg (of_decide_eq_false hb)]
      have hJ4 : (if 8 ≤ 15 - j7 then X3 ++ [0#8] else X3 ++ [(((BitVec.ofNat 64 n) * 8#64) >>> (8#64 * (BitVec.ofNat 64 (15 - j7))).toNat).setWidth 8]).length = (((n + 1) + (240 - (n + 1) % 128) % 128) + j7) + 1 := by split <;> simp [*]
      generalize (if 8 ≤ 15 - j7 then X3 ++ [0#8] else X3 ++ [(((BitVec.ofNat 64 n) * 8#64) >>> (8#64 * (BitVec.ofNat 64 (15 - j7))).toNat).setWidth 8]) = J4 at *
      refine S_ ?_
      refine c_region ?_
      refine s_val (v_moveC rfl) rfl ?_
      first
        | refine s_val (v_subN (b := 1) rfl rfl (by omega) (by omega)) rfl ?_
        | refine s_val (v_subI rfl rfl (by omega)) rfl ?_
      refine s_val (v_assignC rfl) rfl ?_
      refine s_nil ?_
      refine ⟨(j7 + 1, _), (by
        dsimp only
        rw [show ((15 : Nat) : Int) - ((j7 + 1 : Nat) : Int) = ((15 - j7 : Nat) : Int) - 1 from by omega]
        kernel_rfl), rfl⟩
    · try dsimp only
      have hY5 : (rfPad5_L7 (cut b o n) Y2 16).length = ((n + 1) + (240 - (n + 1) % 128) % 128) + 16 := by rw [rfPad5_L7_len (cut b o n) Y2 _]; try omega
      generalize rfPad5_L7 (cut b o n) Y2 16 = Y5 at *
      refine S_ ?_
      refine c_region ?_
      refine s_val (v_moveC rfl) rfl ?_
      refine s_val (v_geqI rfl rfl) rfl ?_
      refine s_nil ?_
      refine S_ ?_
      refine c_region ?_
      refine s_val (v_moveC rfl) rfl ?_
      refine s_val (v_assignC rfl) rfl ?_
      refine s_nil ?_
      refine S_ ?_
      rw [hP.out]
      exact k_1 (by first | exact r_tmpC rfl | exact r_tmpA rfl) (by first | kernel_rfl | rfl)
@[simp] theorem rfPad5_len (tx : List (BitVec 8)) : (rfPad5 tx).length = ((tx.length + 1) + (240 - (tx.length + 1) % 128) % 128) + 16 := by
  unfold rfPad5
  first | (simp [rfPad5_L3_len, rfPad5_L7_len, *]; done) | (simp [rfPad5_L3_len, rfPad5_L7_len, *]; omega)
attribute [irreducible] rfPad5
end Go.Proofs.Ytcgncafhonlmlaa
namespace Go.Proofs.Ytcgncafhonlmlaa
open Go.RowKit
def rfK512  : List (BitVec 64) := [4794697086780616226#64, 8158064640168781261#64, 13096744586834688815#64, 16840607885511220156#64, 4131703408338449720#64, 6480981068601479193#64, 10538285296894168987#64, 12329834152419229976#64, 15566598209576043074#64, 1334009975649890238#64, 2608012711638119052#64, 6128411473006802146#64, 8268148722764581231#64, 9286055187155687089#64, 11230858885718282805#64, 13951009754708518548#64, 16472876342353939154#64, 17275323862435702243#64, 1135362057144423861#64, 2597628984639134821#64, 3308224258029322869#64, 5365058923640841347#64, 6679025012923562964#64, 8573033837759648693#64, 10970295158949994411#64, 12119686244451234320#64, 12683024718118986047#64, 13788192230050041572#64, 14330467153632333762#64, 15395433587784984357#64, 489312712824947311#64, 1452737877330783856#64, 2861767655752347644#64, 3322285676063803686#64, 5560940570517711597#64, 5996557281743188959#64, 7280758554555802590#64, 8532644243296465576#64, 9350256976987008742#64, 10552545826968843579#64, 11727347734174303076#64, 12113106623233404929#64, 14000437183269869457#64, 14369950271660146224#64, 15101387698204529176#64, 15463397548674623760#64, 17586052441742319658#64, 1182934255886127544#64, 1847814050463011016#64, 2177327727835720531#64, 2830643537854262169#64, 3796741975233480872#64, 4115178125766777443#64, 5681478168544905931#64, 6601373596472566643#64, 7507060721942968483#64, 8399075790359081724#64, 8693463985226723168#64, 9568029438360202098#64, 10144078919501101548#64, 10430055236837252648#64, 11840083180663258601#64, 13761210420658862357#64, 14299343276471374635#64, 14566680578165727644#64, 15097957966210449927#64, 16922976911328602910#64, 17689382322260857208#64, 500013540394364858#64, 748580250866718886#64, 1242879168328830382#64, 1977374033974150939#64, 2944078676154940804#64, 3659926193048069267#64, 4368137639120453308#64, 4836135668995329356#64, 5532061633213252278#64, 6448918945643986474#64, 6902733635092675308#64, 7801388544844847127#64]
set_option maxRecDepth 100000 in
set_option maxHeartbeats 2000000 in
theorem rfK512_ev   : Ev Try.prog (.call 57 [] []) (.val (.agg (.a64 (rfK512))) []) := by
  have hP : Hid (rfK512 = [4794697086780616226#64, 8158064640168781261#64, 13096744586834688815#64, 16840607885511220156#64, 4131703408338449720#64, 6480981068601479193#64, 10538285296894168987#64, 12329834152419229976#64, 15566598209576043074#64, 1334009975649890238#64, 2608012711638119052#64, 6128411473006802146#64, 8268148722764581231#64, 9286055187155687089#64, 11230858885718282805#64, 13951009754708518548#64, 16472876342353939154#64, 17275323862435702243#64, 1135362057144423861#64, 2597628984639134821#64, 3308224258029322869#64, 5365058923640841347#64, 6679025012923562964#64, 8573033837759648693#64, 10970295158949994411#64, 12119686244451234320#64, 12683024718118986047#64, 13788192230050041572#64, 14330467153632333762#64, 15395433587784984357#64, 489312712824947311#64, 1452737877330783856#64, 2861767655752347644#64, 3322285676063803686#64, 5560940570517711597#64, 5996557281743188959#64, 7280758554555802590#64, 8532644243296465576#64, 9350256976987008742#64, 10552545826968843579#64, 11727347734174303076#64, 12113106623233404929#64, 14000437183269869457#64, 14369950271660146224#64, 15101387698204529176#64, 15463397548674623760#64, 17586052441742319658#64, 1182934255886127544#64, 1847814050463011016#64, 2177327727835720531#64, 2830643537854262169#64, 3796741975233480872#64, 4115178125766777443#64, 5681478168544905931#64, 6601373596472566643#64, 7507060721942968483#64, 8399075790359081724#64, 8693463985226723168#64, 9568029438360202098#64, 10144078919501101548#64, 10430055236837252648#64, 11840083180663258601#64, 13761210420658862357#64, 14299343276471374635#64, 14566680578165727644#64, 15097957966210449927#64, 16922976911328602910#64, 17689382322260857208#64, 500013540394364858#64, 748580250866718886#64, 1242879168328830382#64, 1977374033974150939#64, 2944078676154940804#64, 3659926193048069267#64, 4368137639120453308#64, 4836135668995329356#64, 5532061633213252278#64, 6448918945643986474#64, 6902733635092675308#64, 7801388544844847127#64]) := ⟨rfl⟩
  refine c_call Try.func57 rfl Try.ntmps57 rfl LEN_ ?_
  refine S_ ?_
  refine c_region ?_
  refine s_memN (m_alloc al_81 LEN_) APP_ rfl ?_
  refine s_nil ?_
  refine S_ ?_
  refine c_region ?_
  refine s_val (v_bld64 (l := [4794697086780616226#64, 8158064640168781261#64, 13096744586834688815#64, 16840607885511220156#64, 4131703408338449720#64, 6480981068601479193#64, 10538285296894168987#64, 12329834152419229976#64, 15566598209576043074#64, 1334009975649890238#64, 2608012711638119052#64, 6128411473006802146#64, 8268148722764581231#64, 9286055187155687089#64, 11230858885718282805#64, 13951009754708518548#64, 16472876342353939154#64, 17275323862435702243#64, 1135362057144423861#64, 2597628984639134821#64, 3308224258029322869#64, 5365058923640841347#64, 6679025012923562964#64, 8573033837759648693#64, 10970295158949994411#64, 12119686244451234320#64, 12683024718118986047#64, 13788192230050041572#64, 14330467153632333762#64, 15395433587784984357#64, 489312712824947311#64, 1452737877330783856#64, 2861767655752347644#64, 3322285676063803686#64, 5560940570517711597#64, 5996557281743188959#64, 7280758554555802590#64, 8532644243296465576#64, 9350256976987008742#64, 10552545826968843579#64, 11727347734174303076#64, 12113106623233404929#64, 14000437183269869457#64, 14369950271660146224#64, 15101387698204529176#64, 15463397548674623760#64, 17586052441742319658#64, 1182934255886127544#64, 1847814050463011016#64, 2177327727835720531#64, 2830643537854262169#64, 3796741975233480872#64, 4115178125766777443#64, 5681478168544905931#64, 6601373596472566643#64, 7507060721942968483#64, 8399075790359081724#64, 8693463985226723168#64, 9568029438360202098#64, 10144078919501101548#64, 10430055236837252648#64, 11840083180663258601#64, 13761210420658862357#64, 14299343276471374635#64, 14566680578165727644#64, 15097957966210449927#64, 16922976911328602910#64, 17689382322260857208#64, 500013540394364858#64, 748580250866718886#64, 1242879168328830382#64, 1977374033974150939#64, 2944078676154940804#64, 3659926193048069267#64, 4368137639120453308#64, 4836135668995329356#64, 5532061633213252278#64, 6448918945643986474#64, 6902733635092675308#64, 7801388544844847127#64]) zc_81 Try.underlying81 sz_40 rfl rfl (by decide)) rfl ?_
  refine s_storeR rfl rfl rfl rfl sz_81 EQ_ EQ_ SET_ ?_
  refine s_nil ?_
  refine S_ ?_
  rw [hP.out]
  exact k_1 (r_row rfl rfl row_81 sz_81 EQ_ (by decide)) (by first | kernel_rfl | rfl)
@[simp] theorem rfK512_len  : (rfK512).length = 80 := by
  unfold rfK512
  first | (simp [*]; done) | (simp [*]; omega)
attribute [irreducible] rfK512
def rfRot64 (x : BitVec 64) (n : Nat) : BitVec 64 := rotl64 x (-((n : Nat) : Int))
set_option maxRecDepth 100000 in
set_option maxHeartbeats 2000000 in
theorem rfRot64_ev (x : BitVec 64) (n : Nat) (hn : n ≤ 1099511627776) : Ev Try.prog (.call 59 [.c (.val (U64 x)), .c (.val (.int .i64 ((n : Nat) : Int)))] []) (.val (.c (.val (U64 (rfRot64 x n)))) []) := by
  have hP : Hid (rfRot64 x n = rotl64 x (-((n : Nat) : Int))) := ⟨rfl⟩
  refine c_call Try.func59 rfl Try.ntmps59 rfl LEN_ ?_
  refine S_ ?_
  refine c_region ?_
  refine s_val (v_assignC rfl) rfl ?_
  refine s_nil ?_
  refine S_ ?_
  refine c_region ?_
  refine s_val (v_moveC rfl) rfl ?_
  refine s_val (v_moveC rfl) rfl ?_
  refine s_val (v_unnegN rfl (by omega)) rfl ?_
  refine s_evN (e_callR (bs := []) (rotl64_ev x (-((n : Nat) : Int))) ok_92 (by kernel_rfl) (by kernel_rfl) rfl VAL_) APP_ rfl ?_
  refine s_val (v_assignC rfl) rfl ?_
  refine s_nil ?_
  refine S_ ?_
  rw [hP.out]
  exact k_1 (by first | exact r_tmpC rfl | exact r_tmpA rfl) (by first | kernel_rfl | rfl)
attribute [irreducible] rfRot64
end Go.Proofs.Ytcgncafhonlmlaa
namespace Go.Proofs.Ytcgncafhonlmlaa
open Go.RowKit
def rf512_L13_S (tx : List (BitVec 8)) (j5 : Nat) (j9 : Nat) (X6 : List (BitVec 64)) (j13 : Nat) : List (BitVec 64) := put X6 j9 (((nth X6 j9) <<< 8) ||| ((nth (rfPad5 tx) (((128 * j5) + (8 * j9)) + j13)).setWidth 64))
def rf512_L13 (tx : List (BitVec 8)) (j5 : Nat) (X4 : List (BitVec 64)) (j9 : Nat) : Nat → List (BitVec 64)
  | 0 => X4
  | j13 + 1 => rf512_L13_S tx j5 j9 (rf512_L13 tx j5 X4 j9 j13) j13
theorem rf512_L13_len (tx : List (BitVec 8)) (j5 : Nat) (X4 : List (BitVec 64)) (j9 : Nat) (hX4 : X4.length = 80) (j13 : Nat) : (rf512_L13 tx j5 X4 j9 j13).length = 80 := by
  induction j13 with
  | zero => first | (simp [rf512_L13, *]; done) | (simp [rf512_L13, *]; omega)
  | succ j13 ih => rw [rf512_L13.eq_2, rf512_L13_S]; first | (simp [ih]; done) | (simp [ih]; omega) | (simp [*]; done) | (simp [*]; omega) | (split <;> first | (simp [ih]; done) | (simp [ih]; omega) | (simp [*]; done))
def rf512_L9_S (tx : List (BitVec 8)) (j5 : Nat) (X4 : List (BitVec 64)) (j9 : Nat) : List (BitVec 64) := if j9 < 16 then (rf512_L13 tx j5 X4 j9 8) else put X4 j9 ((((nth X4 (j9 - 16)) + (nth X4 (j9 - 7))) + (((rfRot64 (nth X4 (j9 - 15)) 1) ^^^ (rfRot64 (nth X4 (j9 - 15)) 8)) ^^^ ((nth X4 (j9 - 15)) >>> 7))) + (((rfRot64 (nth X4 (j9 - 2)) 19) ^^^ (rfRot64 (nth X4 (j9 - 2)) 61)) ^^^ ((nth X4 (j9 - 2)) >>> 6)))
def rf512_L9 (tx : List (BitVec 8)) (j5 : Nat) : Nat → List (BitVec 64)
  | 0 => zer64 80
  | j9 + 1 => rf512_L9_S tx j5 (rf512_L9 tx j5 j9) j9
@[simp] theorem rf512_L9_len (tx : List (BitVec 8)) (j5 : Nat) (j9 : Nat) : (rf512_L9 tx j5 j9).length = 80 := by
  induction j9 with
  | zero => first | (simp [rf512_L9, *]; done) | (simp [rf512_L9, *]; omega)
  | succ j9 ih => rw [rf512_L9.eq_2, rf512_L9_S]; first | (simp [ih]; done) | (simp [ih]; omega) | (simp [rf512_L13_len, *]; done) | (simp [rf512_L13_len, *]; omega) | (split <;> first | (simp [ih]; done) | (simp [ih]; omega) | (simp [rf512_L13_len, *]; done))
def rf512_L20_S (Y5 : List (BitVec 64)) (X6 : List (BitVec 64)) (j20 : Nat) : List (BitVec 64) := [(((((nth X6 7) + (((rfRot64 (nth X6 4) 14) ^^^ (rfRot64 (nth X6 4) 18)) ^^^ (rfRot64 (nth X6 4) 41))) + (((nth X6 4) &&& (nth X6 5)) ^^^ ((~~~(nth X6 4)) &&& (nth X6 6)))) + (nth rfK512 j20)) + (nth Y5 j20)) + ((((rfRot64 (nth X6 0) 28) ^^^ (rfRot64 (nth X6 0) 34)) ^^^ (rfRot64 (nth X6 0) 39)) + ((((nth X6 0) &&& (nth X6 1)) ^^^ ((nth X6 0) &&& (nth X6 2))) ^^^ ((nth X6 1) &&& (nth X6 2)))), nth X6 0, nth X6 1, nth X6 2, (nth X6 3) + (((((nth X6 7) + (((rfRot64 (nth X6 4) 14) ^^^ (rfRot64 (nth X6 4) 18)) ^^^ (rfRot64 (nth X6 4) 41))) + (((nth X6 4) &&& (nth X6 5)) ^^^ ((~~~(nth X6 4)) &&& (nth X6 6)))) + (nth rfK512 j20)) + (nth Y5 j20)), nth X6 4, nth X6 5, nth X6 6]
def rf512_L20 (X3 : List (BitVec 64)) (Y5 : List (BitVec 64)) : Nat → List (BitVec 64)
  | 0 => X3
  | j20 + 1 => rf512_L20_S Y5 (rf512_L20 X3 Y5 j20) j20
theorem rf512_L20_len (X3 : List (BitVec 64)) (Y5 : List (BitVec 64)) (hX3 : X3.length = 8) (hY5 : Y5.length = 80) (j20 : Nat) : (rf512_L20 X3 Y5 j20).length = 8 := by
  induction j20 with
  | zero => first | (simp [rf512_L20, *]; done) | (simp [rf512_L20, *]; omega)
  | succ j20 ih => rw [rf512_L20.eq_2, rf512_L20_S]; first | (simp [ih]; done) | (simp [ih]; omega) | (simp [rf512_L13_len, rf512_L9_len, *]; done) | (simp [rf512_L13_len, rf512_L9_len, *]; omega) | (split <;> first | (simp [ih]; done) | (simp [ih]; omega) | (simp [rf512_L13_len, rf512_L9_len, *]; done))
def rf512_L27_S (Y7 : List (BitVec 64)) (X8 : List (BitVec 64)) (j27 : Nat) : List (BitVec 64) := put X8 j27 ((nth X8 j27) + (nth Y7 j27))
def rf512_L27 (X3 : List (BitVec 64)) (Y7 : List (BitVec 64)) : Nat → List (BitVec 64)
  | 0 => X3
  | j27 + 1 => rf512_L27_S Y7 (rf512_L27 X3 Y7 j27) j27
theorem rf512_L27_len (X3 : List (BitVec 64)) (Y7 : List (BitVec 64)) (hX3 : X3.length = 8) (j27 : Nat) : (rf512_L27 X3 Y7 j27).length = 8 := by
  induction j27 with
  | zero => first | (simp [rf512_L27, *]; done) | (simp [rf512_L27, *]; omega)
  | succ j27 ih => rw [rf512_L27.eq_2, rf512_L27_S]; first | (simp [ih]; done) | (simp [ih]; omega) | (simp [rf512_L13_len, rf512_L9_len, rf512_L20_len, *]; done) | (simp [rf512_L13_len, rf512_L9_len, rf512_L20_len, *]; omega) | (split <;> first | (simp [ih]; done) | (simp [ih]; omega) | (simp [rf512_L13_len, rf512_L9_len, rf512_L20_len, *]; done))
def rf512_L5_S (tx : List (BitVec 8)) (X3 : List (BitVec 64)) (j5 : Nat) : List (BitVec 64) := (rf512_L27 X3 (rf512_L20 X3 (rf512_L9 tx j5 80) 80) 8)
def rf512_L5 (tx : List (BitVec 8)) : Nat → List (BitVec 64)
  | 0 => [7640891576956012808#64, 13503953896175478587#64, 4354685564936845355#64, 11912009170470909681#64, 5840696475078001361#64, 11170449401992604703#64, 2270897969802886507#64, 6620516959819538809#64]
  | j5 + 1 => rf512_L5_S tx (rf512_L5 tx j5) j5
@[simp] theorem rf512_L5_len (tx : List (BitVec 8)) (j5 : Nat) : (rf512_L5 tx j5).length = 8 := by
  induction j5 with
  | zero => first | (simp [rf512_L5, *]; done) | (simp [rf512_L5, *]; omega)
  | succ j5 ih => rw [rf512_L5.eq_2, rf512_L5_S]; first | (simp [ih]; done) | (simp [ih]; omega) | (simp [rf512_L13_len, rf512_L9_len, rf512_L20_len, rf512_L27_len, *]; done) | (simp [rf512_L13_len, rf512_L9_len, rf512_L20_len, rf512_L27_len, *]; omega) | (split <;> first | (simp [ih]; done) | (simp [ih]; omega) | (simp [rf512_L13_len, rf512_L9_len, rf512_L20_len, rf512_L27_len, *]; done))
def rf512_L32_S (Y13 : List (BitVec 64)) (X14 : List (BitVec 8)) (j32 : Nat) : List (BitVec 8) := put X14 j32 (((nth Y13 (j32 / 8)) >>> (BitVec.ofNat 64 (56 - (8 * (j32 % 8)))).toNat).setWidth 8)
def rf512_L32 (Y13 : List (BitVec 64)) : Nat → List (BitVec 8)
  | 0 => zer8 64
  | j32 + 1 => rf512_L32_S Y13 (rf512_L32 Y13 j32) j32
@[simp] theorem rf512_L32_len (Y13 : List (BitVec 64)) (j32 : Nat) : (rf512_L32 Y13 j32).length = 64 := by
  induction j32 with
  | zero => first | (simp [rf512_L32, *]; done) | (simp [rf512_L32, *]; omega)
  | succ j32 ih => rw [rf512_L32.eq_2, rf512_L32_S]; first | (simp [ih]; done) | (simp [ih]; omega) | (simp [rf512_L13_len, rf512_L9_len, rf512_L20_len, rf512_L27_len, rf512_L5_len, *]; done) | (simp [rf512_L13_len, rf512_L9_len, rf512_L20_len, rf512_L27_len, rf512_L5_len, *]; omega) | (split <;> first | (simp [ih]; done) | (simp [ih]; omega) | (simp [rf512_L13_len, rf512_L9_len, rf512_L20_len, rf512_L27_len, rf512_L5_len, *]; done))
def rf512 (tx : List (BitVec 8)) : List (BitVec 8) := (rf512_L32 (rf512_L5 tx (((((tx.length + 1) + (240 - (tx.length + 1) % 128) % 128) + 16) + 127) / 128)) 64)
set_option maxRecDepth 100000 in
set_option maxHeartbeats 2000000 in
theorem rf512_ev (b : List (BitVec 8)) (o : Nat) (n : Nat) (cap : Nat) (hb : o + n ≤ b.length) (hn : n ≤ 2199023255552) : Ev Try.prog (.call 28 [.c (.sl 0 o n cap 1)] [.row false (.a8 (b))]) (.val (.agg (.a8 (rf512 (cut b o n)))) [.row false (.a8 (b))]) := by
  have hP : Hid (rf512 (cut b o n) = (rf512_L32 (rf512_L5 (cut b o n) ((((((cut b o n).length + 1) + (240 - ((cut b o n).length + 1) % 128) % 128) + 16) + 127) / 128)) 64)) := ⟨rfl⟩
  have htx : (cut b o n).length = n := by rw [cut_length]; omega
  try simp only [htx] at hP
  refine c_call Try.func28 rfl Try.ntmps28 rfl LEN_ ?_
  refine S_ ?_
  refine c_region ?_
  refine s_memN (m_alloc al_25 LEN_) APP_ rfl ?_
  refine s_nil ?_
  have hQ1 : (rfK512).length = 80 := LQ_
  refine S_ ?_
  refine c_region ?_
  refine s_evN (e_callR (bs := []) (rfK512_ev) ok_57 (by kernel_rfl) (by kernel_rfl) rfl VAL_) APP_ rfl ?_
  refine s_memN (m_alloc al_81 LEN_) APP_ rfl ?_
  refine s_storeR rfl rfl rfl rfl sz_81 EQ_ EQ_ SET_ ?_
  refine s_nil ?_
  refine S_ ?_
  refine c_region ?_
  refine s_val (v_bld64 (l := [7640891576956012808#64, 13503953896175478587#64, 4354685564936845355#64, 11912009170470909681#64, 5840696475078001361#64, 11170449401992604703#64, 2270897969802886507#64, 6620516959819538809#64]) zc_83 Try.underlying83 sz_40 rfl rfl (by decide)) rfl ?_
  refine s_memN (m_alloc al_83 LEN_) APP_ rfl ?_
  refine s_storeR rfl rfl rfl rfl sz_83 EQ_ EQ_ SET_ ?_
  refine s_nil ?_
  have hQ2 : (rfPad5 (cut b o n)).length = ((n + 1) + (240 - (n + 1) % 128) % 128) + 16 := LQ_
  refine S_ ?_
  refine c_region ?_
  refine s_val (v_moveC rfl) rfl ?_
  refine s_evN (e_callR (bs := [0]) (rfPad5_ev b o n cap HYP_ HYP_) ok_58 (by kernel_rfl) (by kernel_rfl) rfl VAL_) APP_ rfl ?_
  refine s_val (v_assignC rfl) rfl ?_
  refine s_nil ?_
  refine S_ ?_
  refine c_region ?_
  refine s_val (v_assignC rfl) rfl ?_
  refine s_nil ?_
  refine S_ ?_
  refine c_loopC [2, 3, 4, 5, 6] (fun (zz : Nat × List (BitVec 64)) => ⟨208, keepT [2, 3, 4, 5, 6] [.c (.ptr 1 0), .c (.ptr 2 0), .c (.ptr 3 0), .c (.sl 4 0 (((n + 1) + (240 - (n + 1) % 128) % 128) + 16) (((n + 1) + (240 - (n + 1) % 128) % 128) + 16) 1), .c (.val (.int .i64 (((128 * zz.1 : Nat) : Int))))], [.row false (.a8 (b)), .row true (.a8 (zer8 64)), .row true (.a64 (rfK512)), .row true (.a64 (zz.2)), .row true (.a8 (rfPad5 (cut b o n)))]⟩) (fun j5 => (j5, rf512_L5 (cut b o n) j5)) (((((n + 1) + (240 - (n + 1) % 128) % 128) + 16) + 127) / 128) (by kernel_rfl) ?_ ?_
  · intro j5 hj5
    try dsimp only
    have hX3 : (rf512_L5 (cut b o n) j5).length = 8 := by rw [rf512_L5_len (cut b o n) _]; try omega
    rw [rf512_L5.eq_2, rf512_L5_S]
    try simp only [htx]
    generalize rf512_L5 (cut b o n) j5 = X3 at *
    refine S_ ?_
    refine c_region ?_
    refine s_val (v_moveC rfl) rfl ?_
    refine s_val (v_moveC rfl) rfl ?_
    refine s_val (v_lenS rfl Try.underlying23) rfl ?_
    refine s_val (v_lssN rfl rfl) rfl ?_
    refine s_nil ?_
    refine S_ ?_
    refine c_region ?_
    refine s_memN (m_alloc al_81 LEN_) APP_ rfl ?_
    refine s_nil ?_
    refine S_ ?_
    refine c_region ?_
    refine s_val (v_assignC rfl) rfl ?_
    refine s_nil ?_
    refine S_ ?_
    refine c_loopC [2, 3, 4, 5, 6, 7, 8] (fun (zz : Nat × List (BitVec 64)) => ⟨208, keepT [2, 3, 4, 5, 6, 7, 8] [.c (.ptr 1 0), .c (.ptr 2 0), .c (.ptr 3 0), .c (.sl 4 0 (((n + 1) + (240 - (n + 1) % 128) % 128) + 16) (((n + 1) + (240 - (n + 1) % 128) % 128) + 16) 1), .c (.val (.int .i64 (((128 * j5 : Nat) : Int)))), .c (.ptr 5 0), .c (.val (.int .i64 (((zz.1 : Nat) : Int))))], [.row false (.a8 (b)), .row true (.a8 (zer8 64)), .row true (.a64 (rfK512)), .row true (.a64 (X3)), .row true (.a8 (rfPad5 (cut b o n))), .row true (.a64 (zz.2))]⟩) (fun j9 => (j9, rf512_L9 (cut b o n) j5 j9)) (80) (by kernel_rfl) ?_ ?_
    · intro j9 hj9
      try dsimp only
      have hX4 : (rf512_L9 (cut b o n) j5 j9).length = 80 := by rw [rf512_L9_len (cut b o n) j5 _]; try omega
      rw [rf512_L9.eq_2, rf512_L9_S]
      try simp only [htx]
      generalize rf512_L9 (cut b o n) j5 j9 = X4 at *
      refine S_ ?_
      refine c_region ?_
      refine s_val (v_moveC rfl) rfl ?_
      refine s_val (v_lssN (b := 80) rfl rfl) rfl ?_
      refine s_nil ?_
      refine S_ ?_
      refine c_region ?_
      refine s_val (v_moveC rfl) rfl ?_
      refine s_val (v_lssN (b := 16) rfl rfl) rfl ?_
      refine s_nil ?_
      refine Q_ ?_
      by_cases hc5 : j9 < 16
      · try simp only [if_pos hc5] at *
        refine c_condT rfl (decide_eq_true hc5) ?_
        refine S_ ?_
        refine c_region ?_
        refine s_val (v_assignC rfl) rfl ?_
        refine s_nil ?_
        refine S_ ?_
        refine c_loopC [2, 3, 4, 5, 6, 7, 8, 9] (fun (zz : Nat × List (BitVec 64)) => ⟨208, keepT [2, 3, 4, 5, 6, 7, 8, 9] [.c (.ptr 1 0), .c (.ptr 2 0), .c (.ptr 3 0), .c (.sl 4 0 (((n + 1) + (240 - (n + 1) % 128) % 128) + 16) (((n + 1) + (240 - (n + 1) % 128) % 128) + 16) 1), .c (.val (.int .i64 (((128 * j5 : Nat) : Int)))), .c (.ptr 5 0), .c (.val (.int .i64 (((j9 : Nat) : Int)))), .c (.val (.int .i64 (((zz.1 : Nat) : Int))))], [.row false (.a8 (b)), .row true (.a8 (zer8 64)), .row true (.a64 (rfK512)), .row true (.a64 (X3)), .row true (.a8 (rfPad5 (cut b o n))), .row true (.a64 (zz.2))]⟩) (fun j13 => (j13, rf512_L13 (cut b o n) j5 X4 j9 j13)) (8) (by kernel_rfl) ?_ ?_
        · intro j13 hj13
          try dsimp only
          have hX6 : (rf512_L13 (cut b o n) j5 X4 j9 j13).length = 80 := by rw [rf512_L13_len (cut b o n) j5 X4 j9 hX4 _]; try omega
          rw [rf512_L13.eq_2, rf512_L13_S]
          try simp only [htx]
          generalize rf512_L13 (cut b o n) j5 X4 j9 j13 = X6 at *
          refine S_ ?_
          refine c_region ?_
          refine s_val (v_moveC rfl) rfl ?_
          refine s_val (v_lssN (b := 8) rfl rfl) rfl ?_
          refine s_nil ?_
          refine S_ ?_
          refine c_draw 17 mixed (by kernel_rfl) rfl rfl rfl ?_
          refine h_val (v_moveC rfl) rfl ?_
          refine h_val (v_moveC rfl) rfl ?_
          refine h_val (v_idxA1 rfl rfl Try.underlying81 sz_40 (by omega)) rfl ?_
          refine h_val (v_load64 rfl rfl row_40 LT_) rfl ?_
          refine h_val (v_shl64n (j := 8) rfl rfl) rfl ?_
          refine h_val (v_moveC rfl) rfl ?_
          refine h_val (v_moveC rfl) rfl ?_
          refine h_val (v_moveC rfl) rfl ?_
          refine h_val (v_mulN (a := 8) rfl rfl (by omega)) rfl ?_
          refine h_val (v_addN rfl rfl (by omega)) rfl ?_
          refine h_val (v_moveC rfl) rfl ?_
          refine h_val (v_addN rfl rfl (by omega)) rfl ?_
          refine h_val (v_idxS1 rfl rfl Try.underlying23 sz_5 (by omega)) rfl ?_
          refine h_val (v_load8 rfl rfl row_5 LT_) rfl ?_
          refine h_val (v_conv rfl Try.underlying5 Try.underlying40 (w8_64 _)) rfl ?_
          refine h_val (v_or64 rfl rfl) rfl ?_
          refine h_val (v_idxA1 rfl rfl Try.underlying81 sz_40 (by omega)) rfl ?_
          refine h_nil ?_
          refine s_store64 rfl rfl rfl sz_40 LT_ SET_ ?_
          refine s_nil ?_
          refine S_ ?_
          refine c_region ?_
          refine s_val (v_moveC rfl) rfl ?_
          refine s_val (v_addN (b := 1) rfl rfl (by omega)) rfl ?_
          refine s_val (v_assignC rfl) rfl ?_
          refine s_nil ?_
          exact ⟨(j13 + 1, _), by kernel_rfl, rfl⟩
        · try dsimp only
          have hY7 : (rf512_L13 (cut b o n) j5 X4 j9 8).length = 80 := by rw [rf512_L13_len (cut b o n) j5 X4 j9 hX4 _]; try omega
          generalize rf512_L13 (cut b o n) j5 X4 j9 8 = Y7 at *
          refine S_ ?_
          refine c_region ?_
          refine s_val (v_moveC rfl) rfl ?_
          refine s_val (v_lssN (a := 8) (b := 8) rfl rfl) rfl ?_
          refine s_nil ?_
          refine S_ ?_
          refine c_region ?_
          refine s_val (v_moveC rfl) rfl ?_
          refine s_val (v_addN (b := 1) rfl rfl (by omega)) rfl ?_
          refine s_val (v_assignC rfl) rfl ?_
          refine s_nil ?_
          exact ⟨(j9 + 1, _), by kernel_rfl, rfl⟩
      · try simp only [if_neg hc5] at *
        refine c_condF rfl (decide_eq_false hc5) ?_
        refine S_ ?_
        refine c_draw 10 mixed (by kernel_rfl) rfl rfl rfl ?_
        refine h_val (v_moveC rfl) rfl ?_
        first
          | refine h_val (v_subN (b := 15) rfl rfl (by omega) (by omega)) rfl ?_
          | refine h_val (v_subI rfl rfl (by omega)) rfl ?_
        refine h_val (v_idxA1 rfl rfl Try.underlying81 sz_40 (by omega)) rfl ?_
        refine h_val (v_load64 rfl rfl row_40 LT_) rfl ?_
        refine h_val (v_moveC rfl) rfl ?_
        first
          | refine h_val (v_subN (b := 2) rfl rfl (by omega) (by omega)) rfl ?_
          | refine h_val (v_subI rfl rfl (by omega)) rfl ?_
        refine h_val (v_idxA1 rfl rfl Try.underlying81 sz_40 (by omega)) rfl ?_
        refine h_val (v_load64 rfl rfl row_40 LT_) rfl ?_
        refine h_val (v_assignC rfl) rfl ?_
        refine h_val (v_assignC rfl) rfl ?_
        refine h_nil ?_
        refine s_nil ?_
        refine S_ ?_
        refine c_draw 29 mixed (by kernel_rfl) rfl rfl rfl ?_
        refine h_val (v_moveC rfl) rfl ?_
        refine h_val (v_moveC rfl) rfl ?_
        first
          | refine h_val (v_subN (b := 16) rfl rfl (by omega) (by omega)) rfl ?_
          | refine h_val (v_subI rfl rfl (by omega)) rfl ?_
        refine h_val (v_idxA1 rfl rfl Try.underlying81 sz_40 (by omega)) rfl ?_
        refine h_val (v_load64 rfl rfl row_40 LT_) rfl ?_
        refine h_val (v_moveC rfl) rfl ?_
        first
          | refine h_val (v_subN (b := 7) rfl rfl (by omega) (by omega)) rfl ?_
          | refine h_val (v_subI rfl rfl (by omega)) rfl ?_
        refine h_val (v_idxA1 rfl rfl Try.underlying81 sz_40 (by omega)) rfl ?_
        refine h_val (v_load64 rfl rfl row_40 LT_) rfl ?_
        refine h_val (v_add64 rfl rfl) rfl ?_
        refine h_val (v_moveC rfl) rfl ?_
        refine h_evN (e_callR (bs := []) (rfRot64_ev (nth X4 (j9 - 15)) 1 HYP_) ok_59 (by kernel_rfl) (by kernel_rfl) rfl VAL_) APP_ rfl ?_
        refine h_val (v_moveC rfl) rfl ?_
        refine h_evN (e_callR (bs := []) (rfRot64_ev (nth X4 (j9 - 15)) 8 HYP_) ok_59 (by kernel_rfl) (by kernel_rfl) rfl VAL_) APP_ rfl ?_
        refine h_val (v_xor64 rfl rfl) rfl ?_
        refine h_val (v_moveC rfl) rfl ?_
        refine h_val (v_shr64n (j := 7) rfl rfl) rfl ?_
        refine h_val (v_xor64 rfl rfl) rfl ?_
        refine h_val (v_add64 rfl rfl) rfl ?_
        refine h_val (v_moveC rfl) rfl ?_
        refine h_evN (e_callR (bs := []) (rfRot64_ev (nth X4 (j9 - 2)) 19 HYP_) ok_59 (by kernel_rfl) (by kernel_rfl) rfl VAL_) APP_ rfl ?_
        refine h_val (v_moveC rfl) rfl ?_
        refine h_evN (e_callR (bs := []) (rfRot64_ev (nth X4 (j9 - 2)) 61 HYP_) ok_59 (by kernel_rfl) (by kernel_rfl) rfl VAL_) APP_ rfl ?_
        refine h_val (v_xor64 rfl rfl) rfl ?_
        refine h_val (v_moveC rfl) rfl ?_
        refine h_val (v_shr64n (j := 6) rfl rfl) rfl ?_
        refine h_val (v_xor64 rfl rfl) rfl ?_
        refine h_val (v_add64 rfl rfl) rfl ?_
        refine h_val (v_idxA1 rfl rfl Try.underlying81 sz_40 (by omega)) rfl ?_
        refine h_nil ?_
        refine s_store64 rfl rfl rfl sz_40 LT_ SET_ ?_
        refine s_nil ?_
        refine S_ ?_
        refine c_region ?_
        refine s_val (v_moveC rfl) rfl ?_
        refine s_val (v_addN (b := 1) rfl rfl (by omega)) rfl ?_
        refine s_val (v_assignC rfl) rfl ?_
        refine s_nil ?_
        exact ⟨(j9 + 1, _), by kernel_rfl, rfl⟩
    · try dsimp only
      have hY8 : (rf512_L9 (cut b o n) j5 80).length = 80 := by rw [rf512_L9_len (cut b o n) j5 _]; try omega
      generalize rf512_L9 (cut b o n) j5 80 = Y8 at *
      refine S_ ?_
      refine c_region ?_
      refine s_val (v_moveC rfl) rfl ?_
      refine s_val (v_lssN (a := 80) (b := 80) rfl rfl) rfl ?_
      refine s_nil ?_
      refine S_ ?_
      refine c_region ?_
      refine s_val (v_loadR rfl rfl row_83 sz_83 EQ_ (by decide)) rfl ?_
      refine s_memN (m_alloc al_83 LEN_) APP_ rfl ?_
      refine s_storeR rfl rfl rfl rfl sz_83 EQ_ EQ_ SET_ ?_
      refine s_nil ?_
      refine S_ ?_
      refine c_region ?_
      refine s_val (v_assignC rfl) rfl ?_
      refine s_nil ?_
      refine S_ ?_
      refine c_loopC [2, 3, 4, 5, 6, 7, 12, 13] (fun (zz : Nat × List (BitVec 64)) => ⟨208, keepT [2, 3, 4, 5, 6, 7, 12, 13] [.c (.ptr 1 0), .c (.ptr 2 0), .c (.ptr 3 0), .c (.sl 4 0 (((n + 1) + (240 - (n + 1) % 128) % 128) + 16) (((n + 1) + (240 - (n + 1) % 128) % 128) + 16) 1), .c (.val (.int .i64 (((128 * j5 : Nat) : Int)))), .c (.ptr 5 0), .c (.ptr 6 0), .c (.val (.int .i64 (((zz.1 : Nat) : Int))))], [.row false (.a8 (b)), .row true (.a8 (zer8 64)), .row true (.a64 (rfK512)), .row true (.a64 (X3)), .row true (.a8 (rfPad5 (cut b o n))), .row true (.a64 (Y8)), .row true (.a64 (zz.2))]⟩) (fun j20 => (j20, rf512_L20 X3 Y8 j20)) (80) (by kernel_rfl) ?_ ?_
      · intro j20 hj20
        try dsimp only
        have hX9 : (rf512_L20 X3 Y8 j20).length = 8 := by rw [rf512_L20_len X3 Y8 hX3 hY8 _]; try omega
        rw [rf512_L20.eq_2, rf512_L20_S]
        try simp only [htx]
        generalize rf512_L20 X3 Y8 j20 = X9 at *
        refine S_ ?_
        refine c_region ?_
        refine s_val (v_moveC rfl) rfl ?_
        refine s_val (v_lssN (b := 80) rfl rfl) rfl ?_
        refine s_nil ?_
        refine S_ ?_
        refine c_draw 6 mixed (by kernel_rfl) rfl rfl rfl ?_
        refine h_val (v_idxA1 (j := 0) rfl rfl Try.underlying83 sz_40 (by omega)) rfl ?_
        refine h_val (v_load64 rfl rfl row_40 LT_) rfl ?_
        refine h_val (v_idxA1 (j := 4) rfl rfl Try.underlying83 sz_40 (by omega)) rfl ?_
        refine h_val (v_load64 rfl rfl row_40 LT_) rfl ?_
        refine h_val (v_assignC rfl) rfl ?_
        refine h_val (v_assignC rfl) rfl ?_
        refine h_nil ?_
        refine s_nil ?_
        refine S_ ?_
        refine c_draw 31 mixed (by kernel_rfl) rfl rfl rfl ?_
        refine h_val (v_idxA1 (j := 7) rfl rfl Try.underlying83 sz_40 (by omega)) rfl ?_
        refine h_val (v_load64 rfl rfl row_40 LT_) rfl ?_
        refine h_val (v_moveC rfl) rfl ?_
        refine h_evN (e_callR (bs := []) (rfRot64_ev (nth X9 4) 14 HYP_) ok_59 (by kernel_rfl) (by kernel_rfl) rfl VAL_) APP_ rfl ?_
        refine h_val (v_moveC rfl) rfl ?_
        refine h_evN (e_callR (bs := []) (rfRot64_ev (nth X9 4) 18 HYP_) ok_59 (by kernel_rfl) (by kernel_rfl) rfl VAL_) APP_ rfl ?_
        refine h_val (v_xor64 rfl rfl) rfl ?_
        refine h_val (v_moveC rfl) rfl ?_
        refine h_evN (e_callR (bs := []) (rfRot64_ev (nth X9 4) 41 HYP_) ok_59 (by kernel_rfl) (by kernel_rfl) rfl VAL_) APP_ rfl ?_
        refine h_val (v_xor64 rfl rfl) rfl ?_
        refine h_val (v_add64 rfl rfl) rfl ?_
        refine h_val (v_moveC rfl) rfl ?_
        refine h_val (v_idxA1 (j := 5) rfl rfl Try.underlying83 sz_40 (by omega)) rfl ?_
        refine h_val (v_load64 rfl rfl row_40 LT_) rfl ?_
        refine h_val (v_and64 rfl rfl) rfl ?_
        refine h_val (v_moveC rfl) rfl ?_
        refine h_val (v_unxor64 rfl) rfl ?_
        refine h_val (v_idxA1 (j := 6) rfl rfl Try.underlying83 sz_40 (by omega)) rfl ?_
        refine h_val (v_load64 rfl rfl row_40 LT_) rfl ?_
        refine h_val (v_and64 rfl rfl) rfl ?_
        refine h_val (v_xor64 rfl rfl) rfl ?_
        refine h_val (v_add64 rfl rfl) rfl ?_
        refine h_val (v_moveC rfl) rfl ?_
        refine h_val (v_idxA1 rfl rfl Try.underlying81 sz_40 (by omega)) rfl ?_
        refine h_val (v_load64 rfl rfl row_40 LT_) rfl ?_
        refine h_val (v_add64 rfl rfl) rfl ?_
        refine h_val (v_moveC rfl) rfl ?_
        refine h_val (v_idxA1 rfl rfl Try.underlying81 sz_40 (by omega)) rfl ?_
        refine h_val (v_load64 rfl rfl row_40 LT_) rfl ?_
        refine h_val (v_add64 rfl rfl) rfl ?_
        refine h_val (v_assignC rfl) rfl ?_
        refine h_nil ?_
        refine s_nil ?_
        refine S_ ?_
        refine c_draw 25 mixed (by kernel_rfl) rfl rfl rfl ?_
        refine h_val (v_moveC rfl) rfl ?_
        refine h_evN (e_callR (bs := []) (rfRot64_ev (nth X9 0) 28 HYP_) ok_59 (by kernel_rfl) (by kernel_rfl) rfl VAL_) APP_ rfl ?_
        refine h_val (v_moveC rfl) rfl ?_
        refine h_evN (e_callR (bs := []) (rfRot64_ev (nth X9 0) 34 HYP_) ok_59 (by kernel_rfl) (by kernel_rfl) rfl VAL_) APP_ rfl ?_
        refine h_val (v_xor64 rfl rfl) rfl ?_
        refine h_val (v_moveC rfl) rfl ?_
        refine h_evN (e_callR (bs := []) (rfRot64_ev (nth X9 0) 39 HYP_) ok_59 (by kernel_rfl) (by kernel_rfl) rfl VAL_) APP_ rfl ?_
        refine h_val (v_xor64 rfl rfl) rfl ?_
        refine h_val (v_moveC rfl) rfl ?_
        refine h_val (v_idxA1 (j := 1) rfl rfl Try.underlying83 sz_40 (by omega)) rfl ?_
        refine h_val (v_load64 rfl rfl row_40 LT_) rfl ?_
        refine h_val (v_and64 rfl rfl) rfl ?_
        refine h_val (v_moveC rfl) rfl ?_
        refine h_val (v_idxA1 (j := 2) rfl rfl Try.underlying83 sz_40 (by omega)) rfl ?_
        refine h_val (v_load64 rfl rfl row_40 LT_) rfl ?_
        refine h_val (v_and64 rfl rfl) rfl ?_
        refine h_val (v_xor64 rfl rfl) rfl ?_
        refine h_val (v_idxA1 (j := 1) rfl rfl Try.underlying83 sz_40 (by omega)) rfl ?_
        refine h_val (v_load64 rfl rfl row_40 LT_) rfl ?_
        refine h_val (v_idxA1 (j := 2) rfl rfl Try.underlying83 sz_40 (by omega)) rfl ?_
        refine h_val (v_load64 rfl rfl row_40 LT_) rfl ?_
        refine h_val (v_and64 rfl rfl) rfl ?_
        refine h_val (v_xor64 rfl rfl) rfl ?_
        refine h_val (v_add64 rfl rfl) rfl ?_
        refine h_val (v_assignC rfl) rfl ?_
        refine h_nil ?_
        refine s_nil ?_
        refine S_ ?_
        refine c_region ?_
        refine s_val (v_moveC rfl) rfl ?_
        refine s_val (v_moveC rfl) rfl ?_
        refine s_val (v_add64 rfl rfl) rfl ?_
        refine s_val (v_idxA1 (j := 0) rfl rfl Try.underlying83 sz_40 (by omega)) rfl ?_
        refine s_val (v_load64 rfl rfl row_40 LT_) rfl ?_
        refine s_val (v_idxA1 (j := 1) rfl rfl Try.underlying83 sz_40 (by omega)) rfl ?_
        refine s_val (v_load64 rfl rfl row_40 LT_) rfl ?_
        refine s_val (v_idxA1 (j := 2) rfl rfl Try.underlying83 sz_40 (by omega)) rfl ?_
        refine s_val (v_load64 rfl rfl row_40 LT_) rfl ?_
        refine s_val (v_idxA1 (j := 3) rfl rfl Try.underlying83 sz_40 (by omega)) rfl ?_
        refine s_val (v_load64 rfl rfl row_40 LT_) rfl ?_
        refine s_val (v_moveC rfl) rfl ?_
        refine s_val (v_add64 rfl rfl) rfl ?_
        refine s_val (v_idxA1 (j := 4) rfl rfl Try.underlying83 sz_40 (by omega)) rfl ?_
        refine s_val (v_load64 rfl rfl row_40 LT_) rfl ?_
        refine s_val (v_idxA1 (j := 5) rfl rfl Try.underlying83 sz_40 (by omega)) rfl ?_
        refine s_val (v_load64 rfl rfl row_40 LT_) rfl ?_
        refine s_val (v_idxA1 (j := 6) rfl rfl Try.underlying83 sz_40 (by omega)) rfl ?_
        refine s_val (v_load64 rfl rfl row_40 LT_) rfl ?_
        refine s_val (v_bld64 (l := [_, _, _, _, _, _, _, _]) zc_83 Try.underlying83 sz_40 rfl rfl (by decide)) rfl ?_
        refine s_storeR rfl rfl rfl rfl sz_83 EQ_ EQ_ SET_ ?_
        refine s_nil ?_
        refine S_ ?_
        refine c_region ?_
        refine s_val (v_moveC rfl) rfl ?_
        refine s_val (v_addN (b := 1) rfl rfl (by omega)) rfl ?_
        refine s_val (v_assignC rfl) rfl ?_
        refine s_nil ?_
        exact ⟨(j20 + 1, _), by kernel_rfl, rfl⟩
      · try dsimp only
        have hY10 : (rf512_L20 X3 Y8 80).length = 8 := by rw [rf512_L20_len X3 Y8 hX3 hY8 _]; try omega
        generalize rf512_L20 X3 Y8 80 = Y10 at *
        refine S_ ?_
        refine c_region ?_
        refine s_val (v_moveC rfl) rfl ?_
        refine s_val (v_lssN (a := 80) (b := 80) rfl rfl) rfl ?_
        refine s_nil ?_
        refine S_ ?_
        refine c_region ?_
        refine s_val (v_assignC rfl) rfl ?_
        refine s_nil ?_
        refine S_ ?_
        refine c_loopC [2, 3, 4, 5, 6, 12, 18] (fun (zz : Nat × List (BitVec 64)) => ⟨208, keepT [2, 3, 4, 5, 6, 12, 18] [.c (.ptr 1 0), .c (.ptr 2 0), .c (.ptr 3 0), .c (.sl 4 0 (((n + 1) + (240 - (n + 1) % 128) % 128) + 16) (((n + 1) + (240 - (n + 1) % 128) % 128) + 16) 1), .c (.val (.int .i64 (((128 * j5 : Nat) : Int)))), .c (.ptr 5 0), .c (.val (.int .i64 (((zz.1 : Nat) : Int))))], [.row false (.a8 (b)), .row true (.a8 (zer8 64)), .row true (.a64 (rfK512)), .row true (.a64 (zz.2)), .row true (.a8 (rfPad5 (cut b o n))), .row true (.a64 (Y10))]⟩) (fun j27 => (j27, rf512_L27 X3 Y10 j27)) (8) (by kernel_rfl) ?_ ?_
        · intro j27 hj27
          try dsimp only
          have hX11 : (rf512_L27 X3 Y10 j27).length = 8 := by rw [rf512_L27_len X3 Y10 hX3 _]; try omega
          rw [rf512_L27.eq_2, rf512_L27_S]
          try simp only [htx]
          generalize rf512_L27 X3 Y10 j27 = X11 at *
          refine S_ ?_
          refine c_region ?_
          refine s_val (v_moveC rfl) rfl ?_
          refine s_val (v_lssN (b := 8) rfl rfl) rfl ?_
          refine s_nil ?_
          refine S_ ?_
          refine c_draw 8 mixed (by kernel_rfl) rfl rfl rfl ?_
          refine h_val (v_moveC rfl) rfl ?_
          refine h_val (v_idxA1 rfl rfl Try.underlying83 sz_40 (by omega)) rfl ?_
          refine h_val (v_load64 rfl rfl row_40 LT_) rfl ?_
          refine h_val (v_moveC rfl) rfl ?_
          refine h_val (v_idxA1 rfl rfl Try.underlying83 sz_40 (by omega)) rfl ?_
          refine h_val (v_load64 rfl rfl row_40 LT_) rfl ?_
          refine h_val (v_add64 rfl rfl) rfl ?_
          refine h_val (v_idxA1 rfl rfl Try.underlying83 sz_40 (by omega)) rfl ?_
          refine h_nil ?_
          refine s_store64 rfl rfl rfl sz_40 LT_ SET_ ?_
          refine s_nil ?_
          refine S_ ?_
          refine c_region ?_
          refine s_val (v_moveC rfl) rfl ?_
          refine s_val (v_addN (b := 1) rfl rfl (by omega)) rfl ?_
          refine s_val (v_assignC rfl) rfl ?_
          refine s_nil ?_
          exact ⟨(j27 + 1, _), by kernel_rfl, rfl⟩
        · try dsimp only
          have hY12 : (rf512_L27 X3 Y10 8).length = 8 := by rw [rf512_L27_len X3 Y10 hX3 _]; try omega
          generalize rf512_L27 X3 Y10 8 = Y12 at *
          refine S_ ?_
          refine c_region ?_
          refine s_val (v_moveC rfl) rfl ?_
          refine s_val (v_lssN (a := 8) (b := 8) rfl rfl) rfl ?_
          refine s_nil ?_
          refine S_ ?_
          refine c_region ?_
          refine s_val (v_moveC rfl) rfl ?_
          refine s_val (v_addN (b := 128) rfl rfl (by omega)) rfl ?_
          refine s_val (v_assignC rfl) rfl ?_
          refine s_nil ?_
          exact ⟨(j5 + 1, _), by kernel_rfl, rfl⟩
  · try dsimp only
    have hY13 : (rf512_L5 (cut b o n) (((((n + 1) + (240 - (n + 1) % 128) % 128) + 16) + 127) / 128)).length = 8 := by rw [rf512_L5_len (cut b o n) _]; try omega
    generalize rf512_L5 (cut b o n) (((((n + 1) + (240 - (n + 1) % 128) % 128) + 16) + 127) / 128) = Y13 at *
    refine S_ ?_
    refine c_region ?_
    refine s_val (v_moveC rfl) rfl ?_
    refine s_val (v_moveC rfl) rfl ?_
    refine s_val (v_lenS rfl Try.underlying23) rfl ?_
    refine s_val (v_lssN rfl rfl) rfl ?_
    refine s_nil ?_
    refine S_ ?_
    refine c_region ?_
    refine s_memN (m_alloc al_25 LEN_) APP_ rfl ?_
    refine s_nil ?_
    refine S_ ?_
    refine c_region ?_
    refine s_val (v_assignC rfl) rfl ?_
    refine s_nil ?_
    refine S_ ?_
    refine c_loopC [2, 4, 19, 20] (fun (zz : Nat × List (BitVec 8)) => ⟨208, keepT [2, 4, 19, 20] [.c (.ptr 1 0), .c (.ptr 2 0), .c (.ptr 3 0), .c (.val (.int .i64 (((zz.1 : Nat) : Int))))], [.row false (.a8 (b)), .row true (.a8 (zer8 64)), .row true (.a64 (Y13)), .row true (.a8 (zz.2))]⟩) (fun j32 => (j32, rf512_L32 Y13 j32)) (64) (by kernel_rfl) ?_ ?_
    · intro j32 hj32
      try dsimp only
      have hX14 : (rf512_L32 Y13 j32).length = 64 := by rw [rf512_L32_len Y13 _]; try omega
      rw [rf512_L32.eq_2, rf512_L32_S]
      try simp only [htx]
      generalize rf512_L32 Y13 j32 = X14 at *
      refine S_ ?_
      refine c_region ?_
      refine s_val (v_moveC rfl) rfl ?_
      refine s_val (v_lssN (b := 64) rfl rfl) rfl ?_
      refine s_nil ?_
      refine S_ ?_
      refine c_region ?_
      refine s_val (v_moveC rfl) rfl ?_
      refine s_val (v_moveC rfl) rfl ?_
      refine s_val (v_quoN (b := 8) rfl rfl (by omega) (by omega)) rfl ?_
      refine s_val (v_idxA1 rfl rfl Try.underlying83 sz_40 (by omega)) rfl ?_
      refine s_val (v_load64 rfl rfl row_40 LT_) rfl ?_
      refine s_val (v_moveC rfl) rfl ?_
      refine s_val (v_remN (b := 8) rfl rfl (by omega) (by omega)) rfl ?_
      refine s_val (v_mulN (a := 8) rfl rfl (by omega)) rfl ?_
      first
        | refine s_val (v_subN (a := 56) rfl rfl (by omega) (by omega)) rfl ?_
        | refine s_val (v_subI rfl rfl (by omega)) rfl ?_
      refine s_val (v_conv rfl Try.underlying3 Try.underlying72 (wi_64 _)) rfl ?_
      refine s_val (v_shr64w rfl rfl) rfl ?_
      refine s_val (v_conv rfl Try.underlying40 Try.underlying5 (w64_8 _)) rfl ?_
      refine s_val (v_idxA1 rfl rfl Try.underlying25 sz_5 (by omega)) rfl ?_
      refine s_store8 rfl rfl rfl sz_5 LT_ SET_ ?_
      refine s_nil ?_
      refine S_ ?_
      refine c_region ?_
      refine s_val (v_moveC rfl) rfl ?_
      refine s_val (v_addN (b := 1) rfl rfl (by omega)) rfl ?_
      refine s_val (v_assignC rfl) rfl ?_
      refine s_nil ?_
      exact ⟨(j32 + 1, _), by kernel_rfl, rfl⟩
    · try dsimp only
      have hY15 : (rf512_L32 Y13 64).length = 64 := by rw [rf512_L32_len Y13 _]; try omega
      generalize rf512_L32 Y13 64 = Y15 at *
      refine S_ ?_
      refine c_region ?_
      refine s_val (v_moveC rfl) rfl ?_
      refine s_val (v_lssN (a := 64) (b := 64) rfl rfl) rfl ?_
      refine s_nil ?_
      refine S_ ?_
      refine c_region ?_
      refine s_val (v_loadR rfl rfl row_25 sz_25 EQ_ (by decide)) rfl ?_
      refine s_storeR rfl rfl rfl rfl sz_25 EQ_ EQ_ SET_ ?_
      refine s_nil ?_
      refine S_ ?_
      rw [hP.out]
      exact k_1 (r_row rfl rfl row_25 sz_25 EQ_ (by decide)) (by first | kernel_rfl | rfl)
@[simp] theorem rf512_len (tx : List (BitVec 8)) : (rf512 tx).length = 64 := by
  unfold rf512
  first | (simp [rf512_L13_len, rf512_L9_len, rf512_L20_len, rf512_L27_len, rf512_L5_len, rf512_L32_len, *]; done) | (simp [rf512_L13_len, rf512_L9_len, rf512_L20_len, rf512_L27_len, rf512_L5_len, rf512_L32_len, *]; omega)
attribute [irreducible] rf512
end Go.Proofs.Ytcgncafhonlmlaa
namespace Go.Proofs.Ytcgncafhonlmlaa
open Go.RowKit
theorem nth_z64 (n j : Nat) : nth (zer64 n) j = 0#64 := by
  unfold nth zer64
  rw [List.getD_eq_getElem?_getD, List.getElem?_replicate]
  split <;> rfl
theorem put_put {n : Nat} (l : List (BitVec n)) (i : Nat) (v w : BitVec n) : put (put l i v) i w = put l i w := by simp [put]
theorem put_get {n : Nat} (l : List (BitVec n)) (i : Nat) (h : i < l.length) : put l i (nth l i) = l := by
  unfold put nth
  rw [List.getD_eq_getElem?_getD, List.getElem?_eq_getElem h]
  simp
theorem nth_put_same {n : Nat} (l : List (BitVec n)) (i : Nat) (v : BitVec n) (h : i < l.length) : nth (put l i v) i = v := by rw [nth_put l i i v h, if_pos rfl]
theorem shl3 (x : BitVec 64) : x * 8#64 = x <<< 3 := by
  rw [BitVec.shiftLeft_eq_mul_twoPow]
  rfl
theorem mul8 {k : Nat} (h : k < 8) : (8#64 * BitVec.ofNat 64 k).toNat = 8 * k := by
  rw [BitVec.toNat_mul, BitVec.toNat_ofNat, BitVec.toNat_ofNat]
  omega
theorem noughts (Y : List (BitVec 8)) : ∀ j, j ≤ 8 → shaNumber_L2 Y 0#64 j = Y ++ List.replicate j 0#8 := by
  intro j
  induction j with
  | zero => intro _; simp [shaNumber_L2]
  | succ j ih => intro hj; rw [shaNumber_L2.eq_2, ih (by omega), shaNumber_L2_S, List.replicate_succ']; simp
end Go.Proofs.Ytcgncafhonlmlaa
namespace Go.Proofs.Ytcgncafhonlmlaa
open Go.RowKit
theorem k512_same : shaK512 = rfK512 := by with_unfolding_all rfl
theorem pads5 (tx : List (BitVec 8)) (n : Nat) : rfPad5_L3 tx n = shaPad5_L3 tx n := by
  induction n with
  | zero => rfl
  | succ n ih => rw [rfPad5_L3.eq_2, shaPad5_L3.eq_2, ih]; rfl
theorem tailW5 (tx Y : List (BitVec 8)) (hn : tx.length < 2305843009213693952) : rfPad5_L7 tx Y 16 = shaNumber (shaNumber Y (BitVec.ofNat 64 tx.length >>> 61)) (BitVec.ofNat 64 tx.length <<< 3) := by
  have h0 : BitVec.ofNat 64 tx.length >>> 61 = 0#64 := by
    apply BitVec.eq_of_toNat_eq
    rw [BitVec.toNat_ushiftRight, BitVec.toNat_ofNat, Nat.shiftRight_eq_div_pow]
    show _ / 2305843009213693952 = 0
    omega
  have h1 : ∀ j, j ≤ 8 → rfPad5_L7 tx Y j = Y ++ List.replicate j 0#8 := by
    intro j
    induction j with
    | zero => intro _; simp [rfPad5_L7]
    | succ j ih => intro hj; rw [rfPad5_L7.eq_2, ih (by omega), rfPad5_L7_S, if_pos (by omega), List.replicate_succ']; simp
  have h2 : ∀ j, j ≤ 8 → rfPad5_L7 tx Y (8 + j) = shaNumber_L2 (Y ++ List.replicate 8 0#8) (BitVec.ofNat 64 tx.length <<< 3) j := by
    intro j
    induction j with
    | zero => intro _; rw [h1 8 (by omega)]; rfl
    | succ j ih =>
      intro hj
      rw [show 8 + (j + 1) = (8 + j) + 1 from rfl, rfPad5_L7.eq_2, shaNumber_L2.eq_2, ih (by omega), rfPad5_L7_S, shaNumber_L2_S, if_neg (by omega), shl3, mul8 (by omega), show 15 - (8 + j) = 7 - j by omega]
  unfold shaNumber
  rw [h0, noughts Y 8 (by omega)]
  exact h2 8 (by omega)
theorem pad5_same (tx : List (BitVec 8)) (hn : tx.length < 2305843009213693952) : rfPad5 tx = shaPad5 tx := by
  unfold rfPad5 shaPad5
  rw [tailW5 _ _ hn, pads5]
theorem fill512 (tx : List (BitVec 8)) (hn : tx.length < 2305843009213693952) (q : Nat) (X : List (BitVec 64)) (hX : X.length = 80) (j : Nat) (hj : j < 80) (h0 : nth X j = 0#64) : rf512_L13 tx q X j 8 = put X j (shaHigh (shaPad5 tx) ((128 * q) + (8 * j)) (((8 * j) + 8) - (8 * j))) := by
  have hpad := pad5_same tx hn
  have h : ∀ i, i ≤ 8 → rf512_L13 tx q X j i = put X j (shaHigh_L3 (shaPad5 tx) ((128 * q) + (8 * j)) i) := by
    intro i
    induction i with
    | zero => intro _; show X = put X j _; rw [show shaHigh_L3 (shaPad5 tx) ((128 * q) + (8 * j)) 0 = nth X j from h0.symm, put_get X j (by omega)]
    | succ i ih =>
      intro hi
      rw [rf512_L13.eq_2, ih (by omega), rf512_L13_S, put_put, nth_put_same X j _ (by omega), shaHigh_L3.eq_2, shaHigh_L3_S, hpad]
  have e := h 8 (by omega)
  rw [e, show (8 * j) + 8 - (8 * j) = 8 by omega]
  unfold shaHigh
  rfl
theorem words512 (tx : List (BitVec 8)) (hn : tx.length < 2305843009213693952) (q : Nat) : ∀ j, j ≤ 80 → rf512_L9 tx q j = sha512_L8 tx q j ∧ ∀ i, j ≤ i → nth (sha512_L8 tx q j) i = 0#64 := by
  intro j
  induction j with
  | zero => intro _; exact ⟨rfl, fun i _ => nth_z64 _ _⟩
  | succ j ih =>
    intro hj
    obtain ⟨h1, h2⟩ := ih (by omega)
    have hl := sha512_L8_len tx q j
    rw [rf512_L9.eq_2, sha512_L8.eq_2, h1]
    generalize sha512_L8 tx q j = X at *
    rw [rf512_L9_S, sha512_L8_S]
    by_cases h : j < 16
    · rw [if_pos h, if_pos h]
      refine ⟨fill512 tx hn q X hl j (by omega) (h2 j (Nat.le_refl _)), fun i hi => ?_⟩
      rw [nth_put X j i _ (by omega), if_neg (by omega)]
      exact h2 i (by omega)
    · rw [if_neg h, if_neg h]
      refine ⟨?_, fun i hi => ?_⟩
      · unfold rfRot64
        congr 1
        congr 1
        rw [BitVec.add_assoc, BitVec.add_assoc]
        congr 1
        exact BitVec.add_comm _ _
      · rw [nth_put X j i _ (by omega), if_neg (by omega)]
        exact h2 i (by omega)
theorem rounds512 (H Y : List (BitVec 64)) (j : Nat) : rf512_L20 H Y j = sha512_L19 H Y j := by
  induction j with
  | zero => rfl
  | succ j ih =>
    rw [rf512_L20.eq_2, sha512_L19.eq_2, ih, rf512_L20_S, sha512_L19_S, k512_same]
    unfold rfRot64
    rfl
theorem sums512 (H Y : List (BitVec 64)) (j : Nat) : rf512_L27 H Y j = sha512_L29 H Y j := by
  induction j with
  | zero => rfl
  | succ j ih => rw [rf512_L27.eq_2, sha512_L29.eq_2, ih]; rfl
theorem blocks512 (tx : List (BitVec 8)) (hn : tx.length < 2305843009213693952) (j : Nat) : rf512_L5 tx j = sha512_L4 tx j := by
  induction j with
  | zero => rfl
  | succ j ih => rw [rf512_L5.eq_2, sha512_L4.eq_2, ih, rf512_L5_S, sha512_L4_S, sums512, rounds512, (words512 tx hn j 80 (by omega)).1]
theorem outs512 (H : List (BitVec 64)) (j : Nat) : rf512_L32 H j = sha512_L35 H j := by
  induction j with
  | zero => rfl
  | succ j ih =>
    rw [rf512_L32.eq_2, sha512_L35.eq_2, ih, rf512_L32_S, sha512_L35_S, BitVec.toNat_ofNat, Nat.mod_eq_of_lt (by omega)]
theorem sha512_same (tx : List (BitVec 8)) (hn : tx.length < 2305843009213693952) : rf512 tx = sha512 tx := by
  unfold rf512 sha512
  rw [outs512, blocks512 tx hn]
  congr 2
  omega
end Go.Proofs.Ytcgncafhonlmlaa
namespace Go.Proofs.Ytcgncafhonlmlaa
open Go.RowKit
theorem rf512_evA (b : List (BitVec 8)) (o n cap : Nat) (hb : o + n ≤ b.length) (hn : n ≤ 2199023255552) : Ev Try.prog (.call 28 [.c (.sl 0 o n cap 1)] [.row false (.a8 b)]) (.val (.agg (.a8 (sha512 (cut b o n)))) [.row false (.a8 b)]) := by
  have h := rf512_ev b o n cap hb hn
  rw [sha512_same _ (by rw [cut_length]; omega)] at h
  exact h
theorem rf512_evAS (b : List (BitVec 8)) (n cap : Nat) (hb : b.length = n) (hn : n ≤ 2199023255552) : Ev Try.prog (.call 28 [.c (.sl 0 0 n cap 1)] [.row false (.a8 b)]) (.val (.agg (.a8 (sha512 b))) [.row false (.a8 b)]) := by
  have h := rf512_evA b 0 n cap (by omega) hn
  rw [cut_all hb] at h
  exact h
end Go.Proofs.Ytcgncafhonlmlaa
namespace Go.Proofs.Ytcgncafhonlmlaa
open Go.RowKit
def k38 : List (BitVec 64) := put (zer64 4) 0 38#64
def mHi (lo hi : List (BitVec 64)) : BitVec 64 := (nth (rfTimes hi (put (zer64 4) 0 38#64)) 4) + (rfadd1 lo [nth (rfTimes hi (put (zer64 4) 0 38#64)) 0, nth (rfTimes hi (put (zer64 4) 0 38#64)) 1, nth (rfTimes hi (put (zer64 4) 0 38#64)) 2, nth (rfTimes hi (put (zer64 4) 0 38#64)) 3])
def mLo (lo hi : List (BitVec 64)) : List (BitVec 64) := rfadd0 lo [nth (rfTimes hi (put (zer64 4) 0 38#64)) 0, nth (rfTimes hi (put (zer64 4) 0 38#64)) 1, nth (rfTimes hi (put (zer64 4) 0 38#64)) 2, nth (rfTimes hi (put (zer64 4) 0 38#64)) 3]
def mSt (a b : List (BitVec 64)) : Nat → List (BitVec 64) × List (BitVec 64)
  | 0 => ([nth (rfTimes a b) 0, nth (rfTimes a b) 1, nth (rfTimes a b) 2, nth (rfTimes a b) 3], [nth (rfTimes a b) 4, nth (rfTimes a b) 5, nth (rfTimes a b) 6, nth (rfTimes a b) 7])
  | j + 1 => (mLo (mSt a b j).1 (mSt a b j).2, put (zer64 4) 0 (mHi (mSt a b j).1 (mSt a b j).2))
def mH (a b : List (BitVec 64)) (j : Nat) : BitVec 64 := mHi (mSt a b j).1 (mSt a b j).2
def rfN (a b : List (BitVec 64)) : Nat := if mH a b 0 = 0#64 then 1 else if mH a b 1 = 0#64 then 2 else 3
theorem one_word (x : BitVec 64) : wV (put (zer64 4) 0 x) = x.toNat := by
  show x.toNat + (0#64).toNat * _ + (0#64).toNat * _ + (0#64).toNat * _ = _
  rw [show (0#64 : BitVec 64).toNat = 0 from rfl]
  omega
theorem v64_eight (x : List (BitVec 64)) : v64 x 8 = wV [nth x 0, nth x 1, nth x 2, nth x 3] + wV [nth x 4, nth x 5, nth x 6, nth x 7] * 115792089237316195423570985008687907853269984665640564039457584007913129639936 := by
  have e1 : wV [nth x 0, nth x 1, nth x 2, nth x 3] = (nth x 0).toNat + (nth x 1).toNat * 18446744073709551616 + (nth x 2).toNat * 340282366920938463463374607431768211456 + (nth x 3).toNat * 6277101735386680763835789423207666416102355444464034512896 := rfl
  have e2 : wV [nth x 4, nth x 5, nth x 6, nth x 7] = (nth x 4).toNat + (nth x 5).toNat * 18446744073709551616 + (nth x 6).toNat * 340282366920938463463374607431768211456 + (nth x 7).toNat * 6277101735386680763835789423207666416102355444464034512896 := rfl
  rw [e1, e2]
  simp only [v64, Nat.pow_zero, Nat.reducePow]
  omega
theorem mSt_len (a b : List (BitVec 64)) (j : Nat) : (mSt a b j).1.length = 4 ∧ (mSt a b j).2.length = 4 := by
  cases j with
  | zero => exact ⟨rfl, rfl⟩
  | succ j => exact ⟨rfadd_lenA _ _, rfl⟩
theorem fold_step {lo hi : List (BitVec 64)} (hl : lo.length = 4) : wV (mLo lo hi) + (mHi lo hi).toNat * 115792089237316195423570985008687907853269984665640564039457584007913129639936 = wV lo + 38 * wV hi := by
  unfold mLo mHi
  have hv := rfTimes_val hi (put (zer64 4) 0 38#64)
  rw [one_word, show (38#64 : BitVec 64).toNat = 38 from rfl] at hv
  generalize rfTimes hi (put (zer64 4) 0 38#64) = x at *
  rw [v64_eight] at hv
  obtain ⟨e, hc⟩ := rfadd_val (a := lo) (b := [nth x 0, nth x 1, nth x 2, nth x 3]) hl rfl
  have b1 := wV_lt hi
  have b2 := wV_lt [nth x 0, nth x 1, nth x 2, nth x 3]
  have hx : wV [nth x 4, nth x 5, nth x 6, nth x 7] = (nth x 4).toNat + (nth x 5).toNat * 18446744073709551616 + (nth x 6).toNat * 340282366920938463463374607431768211456 + (nth x 7).toNat * 6277101735386680763835789423207666416102355444464034512896 := rfl
  rw [hx] at hv
  clear hx
  have hs := add_nat (x := nth x 4) (y := rfadd1 lo [nth x 0, nth x 1, nth x 2, nth x 3])
  generalize nth x 4 + rfadd1 lo [nth x 0, nth x 1, nth x 2, nth x 3] = w at *
  generalize rfadd1 lo [nth x 0, nth x 1, nth x 2, nth x 3] = c at *
  generalize wV (rfadd0 lo [nth x 0, nth x 1, nth x 2, nth x 3]) = r at *
  generalize wV [nth x 0, nth x 1, nth x 2, nth x 3] = q at *
  generalize wV lo = l at *
  generalize wV hi = h at *
  have h4 := (nth x 4).isLt
  generalize (nth x 4).toNat = x4 at *
  generalize (nth x 5).toNat = x5 at *
  generalize (nth x 6).toNat = x6 at *
  generalize (nth x 7).toNat = x7 at *
  have hx4 : x4 < 64 ∧ x5 = 0 ∧ x6 = 0 ∧ x7 = 0 := by omega
  obtain ⟨g4, g5, g6, g7⟩ := hx4
  rw [hs (by omega)]
  clear hs
  rw [g5, g6, g7] at hv
  simp only [Nat.zero_mul, Nat.add_zero] at hv
  rw [Nat.add_mul, Nat.add_comm (x4 * _) _, ← Nat.add_assoc, e, Nat.add_assoc, hv, Nat.mul_comm]
theorem st_step (a b : List (BitVec 64)) (j : Nat) : wV (mSt a b (j + 1)).1 + (mH a b j).toNat * 115792089237316195423570985008687907853269984665640564039457584007913129639936 = wV (mSt a b j).1 + 38 * wV (mSt a b j).2 := fold_step (mSt_len a b j).1
theorem st_hi (a b : List (BitVec 64)) (j : Nat) : wV (mSt a b (j + 1)).2 = (mH a b j).toNat := one_word _
theorem bounds (a b : List (BitVec 64)) : (mH a b 0).toNat ≤ 38 ∧ (mH a b 1).toNat ≤ 1 ∧ (mH a b 1 ≠ 0#64 → mH a b 2 = 0#64) := by
  have s0 : wV (mSt a b 1).1 + (mH a b 0).toNat * 115792089237316195423570985008687907853269984665640564039457584007913129639936 = wV (mSt a b 0).1 + 38 * wV (mSt a b 0).2 := st_step a b 0
  have s1 : wV (mSt a b 2).1 + (mH a b 1).toNat * 115792089237316195423570985008687907853269984665640564039457584007913129639936 = wV (mSt a b 1).1 + 38 * (mH a b 0).toNat := (st_step a b 1).trans (by rw [show wV (mSt a b 1).2 = (mH a b 0).toNat from st_hi a b 0])
  have s2 : wV (mSt a b 3).1 + (mH a b 2).toNat * 115792089237316195423570985008687907853269984665640564039457584007913129639936 = wV (mSt a b 2).1 + 38 * (mH a b 1).toNat := (st_step a b 2).trans (by rw [show wV (mSt a b 2).2 = (mH a b 1).toNat from st_hi a b 1])
  have l0 := wV_lt (mSt a b 0).1
  have m0 := wV_lt (mSt a b 0).2
  have l1 := wV_lt (mSt a b 1).1
  have l2 := wV_lt (mSt a b 2).1
  have l3 := wV_lt (mSt a b 3).1
  have h0 : (mH a b 0).toNat ≤ 38 := by omega
  have h1 : (mH a b 1).toNat ≤ 1 := by omega
  refine ⟨h0, h1, fun hne => ?_⟩
  have h1' : (mH a b 1).toNat = 1 := by
    have : (mH a b 1).toNat ≠ 0 := fun e => hne (BitVec.eq_of_toNat_eq (by rw [e]; rfl))
    omega
  apply BitVec.eq_of_toNat_eq
  show (mH a b 2).toNat = 0
  omega
theorem zf_256 (n : Nat) : zf (n * 115792089237316195423570985008687907853269984665640564039457584007913129639936) = zf (38 * n) := by
  rw [zf_eq]
  show _ % 57896044618658097711785492504343953926634992332820282019728792003956564819949 = _ % 57896044618658097711785492504343953926634992332820282019728792003956564819949
  omega
theorem st_zf (a b : List (BitVec 64)) : ∀ j, zf (wV (mSt a b j).1) + zf (38 * wV (mSt a b j).2) = zf (wV a * wV b) := by
  intro j
  induction j with
  | zero =>
    have hv := rfTimes_val a b
    rw [v64_eight] at hv
    rw [← hv, zf_add, zf_256]
    rfl
  | succ j ih => rw [← ih, ← zf_add (wV (mSt a b j).1), ← st_step, zf_add, zf_256, st_hi]
theorem end_zf (a b : List (BitVec 64)) : zf (wV (mSt a b (rfN a b)).1) = zf (wV a) * zf (wV b) := by
  have key : ∀ j, mH a b j = 0#64 → zf (wV (mSt a b (j + 1)).1) = zf (wV a) * zf (wV b) := fun j h => by
    have := st_zf a b (j + 1)
    rw [st_hi, h, show 38 * (0#64 : BitVec 64).toNat = 0 from rfl, zf_zero, zf_mul] at this
    rw [← this]
    generalize zf (wV (mSt a b (j + 1)).1) = x
    grobner
  obtain ⟨_, _, h3⟩ := bounds a b
  unfold rfN
  split
  · exact key 0 (by assumption)
  · split
    · exact key 1 (by assumption)
    · exact key 2 (h3 (by assumption))
theorem more_at (a b : List (BitVec 64)) (j : Nat) (hj : j + 1 ≤ rfN a b) : (mH a b j != 0#64) = decide (j + 1 < rfN a b) := by
  obtain ⟨_, _, h3⟩ := bounds a b
  have eb : ∀ x : BitVec 64, x = 0#64 → (x != 0#64) = false := fun x h => by rw [h]; rfl
  have nb : ∀ x : BitVec 64, x ≠ 0#64 → (x != 0#64) = true := fun x h => by simp [h]
  unfold rfN at *
  by_cases e0 : mH a b 0 = 0#64
  · rw [if_pos e0] at *
    obtain rfl : j = 0 := by omega
    rw [eb _ e0]; rfl
  · rw [if_neg e0] at *
    by_cases e1 : mH a b 1 = 0#64
    · rw [if_pos e1] at *
      rcases (by omega : j = 0 ∨ j = 1) with h | h <;> subst h
      · rw [nb _ e0]; rfl
      · rw [eb _ e1]; rfl
    · rw [if_neg e1] at *
      rcases (by omega : j = 0 ∨ j = 1 ∨ j = 2) with h | h | h <;> subst h
      · rw [nb _ e0]; rfl
      · rw [nb _ e1]; rfl
      · rw [eb _ (h3 e1)]; rfl
attribute [irreducible] rfN mH
end Go.Proofs.Ytcgncafhonlmlaa
namespace Go.Proofs.Ytcgncafhonlmlaa
open Go.RowKit
def rfMul_L5_S (X3 : List (BitVec 64)) (X4 : List (BitVec 64)) : Bool × List (BitVec 64) × List (BitVec 64) := (((nth (put (zer64 4) 0 ((nth (rfTimes X4 (put (zer64 4) 0 38#64)) 4) + (rfadd1 X3 [nth (rfTimes X4 (put (zer64 4) 0 38#64)) 0, nth (rfTimes X4 (put (zer64 4) 0 38#64)) 1, nth (rfTimes X4 (put (zer64 4) 0 38#64)) 2, nth (rfTimes X4 (put (zer64 4) 0 38#64)) 3]))) 0) != 0#64), rfadd0 X3 [nth (rfTimes X4 (put (zer64 4) 0 38#64)) 0, nth (rfTimes X4 (put (zer64 4) 0 38#64)) 1, nth (rfTimes X4 (put (zer64 4) 0 38#64)) 2, nth (rfTimes X4 (put (zer64 4) 0 38#64)) 3], put (zer64 4) 0 ((nth (rfTimes X4 (put (zer64 4) 0 38#64)) 4) + (rfadd1 X3 [nth (rfTimes X4 (put (zer64 4) 0 38#64)) 0, nth (rfTimes X4 (put (zer64 4) 0 38#64)) 1, nth (rfTimes X4 (put (zer64 4) 0 38#64)) 2, nth (rfTimes X4 (put (zer64 4) 0 38#64)) 3])))
def rfMul_L5 (a : List (BitVec 64)) (b : List (BitVec 64)) : Nat → Bool × List (BitVec 64) × List (BitVec 64)
  | 0 => (true, [nth (rfTimes a b) 0, nth (rfTimes a b) 1, nth (rfTimes a b) 2, nth (rfTimes a b) 3], [nth (rfTimes a b) 4, nth (rfTimes a b) 5, nth (rfTimes a b) 6, nth (rfTimes a b) 7])
  | j5 + 1 => rfMul_L5_S (rfMul_L5 a b j5).2.1 (rfMul_L5 a b j5).2.2
theorem rfMul_L5_lens (a : List (BitVec 64)) (b : List (BitVec 64)) (ha : a.length = 4) (hb : b.length = 4) (j5 : Nat) : (rfMul_L5 a b j5).2.1.length = 4 ∧ (rfMul_L5 a b j5).2.2.length = 4 := by
  induction j5 with
  | zero => refine ⟨?_, ?_⟩ <;> first | (simp (maxDischargeDepth := 9) [rfMul_L5, *]; done) | (simp (maxDischargeDepth := 9) [rfMul_L5, *]; omega)
  | succ j5 ih =>
    obtain ⟨ih1, ih2⟩ := ih
    rw [rfMul_L5.eq_2, rfMul_L5_S]
    refine ⟨?_, ?_⟩ <;> first | (simp (maxDischargeDepth := 9) [*]; done) | (simp (maxDischargeDepth := 9) [*]; omega) | (split <;> first | (simp (maxDischargeDepth := 9) [*]; done) | (simp (maxDischargeDepth := 9) [*]; omega))
theorem rfMul_L5_len1 (a : List (BitVec 64)) (b : List (BitVec 64)) (ha : a.length = 4) (hb : b.length = 4) (j5 : Nat) : (rfMul_L5 a b j5).2.1.length = 4 := (rfMul_L5_lens a b ha hb j5).1
theorem rfMul_L5_len2 (a : List (BitVec 64)) (b : List (BitVec 64)) (ha : a.length = 4) (hb : b.length = 4) (j5 : Nat) : (rfMul_L5 a b j5).2.2.length = 4 := (rfMul_L5_lens a b ha hb j5).2
def rfMul (a : List (BitVec 64)) (b : List (BitVec 64)) : List (BitVec 64) := rfMod ((rfMul_L5 a b (rfN a b)).2.1)
theorem L5_st (a b : List (BitVec 64)) (j : Nat) : (rfMul_L5 a b j).2 = mSt a b j ∧ ∀ i, j = i + 1 → (rfMul_L5 a b j).1 = (mH a b i != 0#64) := by
  induction j with
  | zero => exact ⟨by rw [mSt]; rfl, fun i hi => by omega⟩
  | succ j ih =>
    have e1 : (rfMul_L5 a b j).2.1 = (mSt a b j).1 := by rw [ih.1]
    have e2 : (rfMul_L5 a b j).2.2 = (mSt a b j).2 := by rw [ih.1]
    rw [rfMul_L5, e1, e2]
    refine ⟨?_, fun i hi => ?_⟩
    · rw [mSt]; rfl
    · obtain rfl : i = j := by omega
      unfold mH
      rfl
theorem rfMul_more (a b : List (BitVec 64)) (_ : a.length = 4) (_ : b.length = 4) (j : Nat) (hj : j ≤ rfN a b) : (rfMul_L5 a b j).1 = decide (j < rfN a b) := by
  cases j with
  | zero =>
    have : 0 < rfN a b := by unfold rfN; split <;> (try split) <;> decide
    rw [decide_eq_true this]; rfl
  | succ j => rw [(L5_st a b (j + 1)).2 j rfl]; exact more_at a b j hj
set_option maxRecDepth 100000 in
set_option maxHeartbeats 2000000 in
theorem rfMul_ev (a : List (BitVec 64)) (b : List (BitVec 64)) (ha : a.length = 4) (hb : b.length = 4) : Ev Try.prog (.call 78 [.agg (.a64 (a)), .agg (.a64 (b))] []) (.val (.agg (.a64 (rfMul a b))) []) := by
  have hP : Hid (rfMul a b = rfMod ((rfMul_L5 a b (rfN a b)).2.1)) := ⟨rfl⟩
  refine c_call Try.func78 rfl Try.ntmps78 rfl LEN_ ?_
  refine S_ ?_
  refine c_region ?_
  refine s_memN (m_box BX_ LEN_) APP_ rfl ?_
  refine s_memN (m_box BX_ LEN_) APP_ rfl ?_
  refine s_memN (m_alloc al_42 LEN_) APP_ rfl ?_
  refine s_nil ?_
  have hQ1 : (rfTimes a b).length = 8 := LQ_
  refine S_ ?_
  refine c_region ?_
  refine s_val (v_loadR rfl rfl row_42 sz_42 EQ_ (by decide)) rfl ?_
  refine s_val (v_loadR rfl rfl row_42 sz_42 EQ_ (by decide)) rfl ?_
  refine s_evN (e_callR (bs := []) (rfTimes_ev a b HYP_ HYP_) ok_61 (by kernel_rfl) (by kernel_rfl) rfl VAL_) APP_ rfl ?_
  refine s_memN (m_alloc al_83 LEN_) APP_ rfl ?_
  refine s_storeR rfl rfl rfl rfl sz_83 EQ_ EQ_ SET_ ?_
  refine s_nil ?_
  refine S_ ?_
  refine c_region ?_
  refine s_val (v_idxA1 (j := 0) rfl rfl Try.underlying83 sz_40 (by omega)) rfl ?_
  refine s_val (v_load64 rfl rfl row_40 LT_) rfl ?_
  refine s_val (v_idxA1 (j := 1) rfl rfl Try.underlying83 sz_40 (by omega)) rfl ?_
  refine s_val (v_load64 rfl rfl row_40 LT_) rfl ?_
  refine s_val (v_idxA1 (j := 2) rfl rfl Try.underlying83 sz_40 (by omega)) rfl ?_
  refine s_val (v_load64 rfl rfl row_40 LT_) rfl ?_
  refine s_val (v_idxA1 (j := 3) rfl rfl Try.underlying83 sz_40 (by omega)) rfl ?_
  refine s_val (v_load64 rfl rfl row_40 LT_) rfl ?_
  refine s_val (v_bld64 (l := [_, _, _, _]) zc_42 Try.underlying42 sz_40 rfl rfl (by decide)) rfl ?_
  refine s_memN (m_alloc al_42 LEN_) APP_ rfl ?_
  refine s_storeR rfl rfl rfl rfl sz_42 EQ_ EQ_ SET_ ?_
  refine s_nil ?_
  refine S_ ?_
  refine c_region ?_
  refine s_val (v_idxA1 (j := 4) rfl rfl Try.underlying83 sz_40 (by omega)) rfl ?_
  refine s_val (v_load64 rfl rfl row_40 LT_) rfl ?_
  refine s_val (v_idxA1 (j := 5) rfl rfl Try.underlying83 sz_40 (by omega)) rfl ?_
  refine s_val (v_load64 rfl rfl row_40 LT_) rfl ?_
  refine s_val (v_idxA1 (j := 6) rfl rfl Try.underlying83 sz_40 (by omega)) rfl ?_
  refine s_val (v_load64 rfl rfl row_40 LT_) rfl ?_
  refine s_val (v_idxA1 (j := 7) rfl rfl Try.underlying83 sz_40 (by omega)) rfl ?_
  refine s_val (v_load64 rfl rfl row_40 LT_) rfl ?_
  refine s_val (v_bld64 (l := [_, _, _, _]) zc_42 Try.underlying42 sz_40 rfl rfl (by decide)) rfl ?_
  refine s_memN (m_alloc al_42 LEN_) APP_ rfl ?_
  refine s_storeR rfl rfl rfl rfl sz_42 EQ_ EQ_ SET_ ?_
  refine s_nil ?_
  refine S_ ?_
  refine c_region ?_
  refine s_val (v_assignC rfl) rfl ?_
  refine s_nil ?_
  refine S_ ?_
  refine c_loopC [4, 6, 7, 8] (fun (zz : Nat × Bool × List (BitVec 64) × List (BitVec 64)) => ⟨62, keepT [4, 6, 7, 8] [.c (.ptr 0 0), .c (.ptr 1 0), .c (.ptr 2 0), .c (.val (.bool (zz.2.1)))], [.row true (.a64 (zer64 4)), .row true (.a64 (zz.2.2.1)), .row true (.a64 (zz.2.2.2))]⟩) (fun j5 => (j5, rfMul_L5 a b j5)) (rfN a b) (by kernel_rfl) ?_ ?_
  · intro j5 hj5
    try dsimp only
    have hX3 : (rfMul_L5 a b j5).2.1.length = 4 := by rw [rfMul_L5_len1 a b ha hb _]; try omega
    have hX4 : (rfMul_L5 a b j5).2.2.length = 4 := by rw [rfMul_L5_len2 a b ha hb _]; try omega
    have hm := rfMul_more a b ha hb j5 (by omega)
    rw [rfMul_L5.eq_2, rfMul_L5_S]
    generalize rfMul_L5 a b j5 = Z5 at *
    obtain ⟨X2, X3, X4⟩ := Z5
    try dsimp only at *
    subst hm
    refine S_ ?_
    refine c_region ?_
    refine s_val (v_moveC rfl) rfl ?_
    refine s_nil ?_
    have hQ6 : (rfTimes X4 (put (zer64 4) 0 38#64)).length = 8 := LQ_
    refine S_ ?_
    refine c_region ?_
    refine s_val (v_loadR rfl rfl row_42 sz_42 EQ_ (by decide)) rfl ?_
    refine s_val (v_blf64 (l := (put (zer64 4) 0 (38#64))) za_42 Try.underlying42 sz_40 rfl rfl) rfl ?_
    refine s_evN (e_callR (bs := []) (rfTimes_ev X4 (put (zer64 4) 0 38#64) HYP_ HYP_) ok_61 (by kernel_rfl) (by kernel_rfl) rfl VAL_) APP_ rfl ?_
    refine s_memN (m_alloc al_83 LEN_) APP_ rfl ?_
    refine s_storeR rfl rfl rfl rfl sz_83 EQ_ EQ_ SET_ ?_
    refine s_nil ?_
    have hQ7 : (rfadd0 X3 [nth (rfTimes X4 (put (zer64 4) 0 38#64)) 0, nth (rfTimes X4 (put (zer64 4) 0 38#64)) 1, nth (rfTimes X4 (put (zer64 4) 0 38#64)) 2, nth (rfTimes X4 (put (zer64 4) 0 38#64)) 3]).length = 4 := LQ_
    refine S_ ?_
    refine c_region ?_
    refine s_val (v_loadR rfl rfl row_42 sz_42 EQ_ (by decide)) rfl ?_
    refine s_val (v_idxA1 (j := 0) rfl rfl Try.underlying83 sz_40 (by omega)) rfl ?_
    refine s_val (v_load64 rfl rfl row_40 LT_) rfl ?_
    refine s_val (v_idxA1 (j := 1) rfl rfl Try.underlying83 sz_40 (by omega)) rfl ?_
    refine s_val (v_load64 rfl rfl row_40 LT_) rfl ?_
    refine s_val (v_idxA1 (j := 2) rfl rfl Try.underlying83 sz_40 (by omega)) rfl ?_
    refine s_val (v_load64 rfl rfl row_40 LT_) rfl ?_
    refine s_val (v_idxA1 (j := 3) rfl rfl Try.underlying83 sz_40 (by omega)) rfl ?_
    refine s_val (v_load64 rfl rfl row_40 LT_) rfl ?_
    refine s_val (v_bld64 (l := [_, _, _, _]) zc_42 Try.underlying42 sz_40 rfl rfl (by decide)) rfl ?_
    refine s_evN (e_callR (bs := []) (rfadd_ev X3 [nth (rfTimes X4 (put (zer64 4) 0 38#64)) 0, nth (rfTimes X4 (put (zer64 4) 0 38#64)) 1, nth (rfTimes X4 (put (zer64 4) 0 38#64)) 2, nth (rfTimes X4 (put (zer64 4) 0 38#64)) 3] HYP_ HYP_) ok_94 (by kernel_rfl) (by kernel_rfl) rfl VAL_) APP_ rfl ?_
    refine s_val (v_moveT rfl) rfl ?_
    refine s_val (v_extract rfl rfl) rfl ?_
    refine s_val (v_extract rfl rfl) rfl ?_
    refine s_memN (m_alloc al_42 LEN_) APP_ rfl ?_
    refine s_storeR rfl rfl rfl rfl sz_42 EQ_ EQ_ SET_ ?_
    refine s_val (v_assignC rfl) rfl ?_
    refine s_nil ?_
    refine S_ ?_
    refine c_stores2 [1,2] mixed (by kernel_rfl) ?_
    first | refine x_val (v_loadR rfl rfl row_42 sz_42 EQ_ (by decide)) rfl ?_ | refine x_early (by kernel_rfl) (v_loadR rfl rfl row_42 sz_42 EQ_ (by decide)) rfl ?_
    refine x_val (v_idxA1 (j := 4) rfl rfl Try.underlying83 sz_40 (by omega)) rfl ?_
    first | refine x_val (v_load64 rfl rfl row_40 LT_) rfl ?_ | refine x_early (by kernel_rfl) (v_load64 rfl rfl row_40 LT_) rfl ?_
    refine x_val (v_moveC rfl) rfl ?_
    refine x_val (v_add64 rfl rfl) rfl ?_
    refine x_val (v_blo64 za_42 Try.underlying42 sz_40 rfl rfl rfl) rfl ?_
    refine x_storeR rfl rfl rfl rfl rfl sz_42 EQ_ EQ_ SET_ ?_
    refine x_storeR rfl rfl rfl rfl rfl sz_42 EQ_ EQ_ SET_ ?_
    refine x_nil ?_
    have h9 : ((put (zer64 4) 0 ((nth (rfTimes X4 (put (zer64 4) 0 38#64)) 4) + (rfadd1 X3 [nth (rfTimes X4 (put (zer64 4) 0 38#64)) 0, nth (rfTimes X4 (put (zer64 4) 0 38#64)) 1, nth (rfTimes X4 (put (zer64 4) 0 38#64)) 2, nth (rfTimes X4 (put (zer64 4) 0 38#64)) 3])))).length = 4 := LQ_
    refine S_ ?_
    refine c_region ?_
    refine s_val (v_idxA1 (j := 0) rfl rfl Try.underlying42 sz_40 (by omega)) rfl ?_
    refine s_val (v_load64 rfl rfl row_40 LT_) rfl ?_
    refine s_val (v_neq64 (b := 0#64) rfl rfl) rfl ?_
    refine s_val (v_assignC rfl) rfl ?_
    refine s_nil ?_
    exact ⟨(j5 + 1, _), by kernel_rfl, rfl⟩
  · try dsimp only
    have hY9 : (rfMul_L5 a b (rfN a b)).2.1.length = 4 := by rw [rfMul_L5_len1 a b ha hb _]; try omega
    have hY10 : (rfMul_L5 a b (rfN a b)).2.2.length = 4 := by rw [rfMul_L5_len2 a b ha hb _]; try omega
    have hm := rfMul_more a b ha hb (rfN a b) (by omega)
    generalize rfMul_L5 a b (rfN a b) = Z11 at *
    obtain ⟨Y8, Y9, Y10⟩ := Z11
    try dsimp only at *
    subst hm
    refine S_ ?_
    refine c_region ?_
    refine s_val (v_moveC rfl) rfl ?_
    refine s_nil ?_
    have hQ12 : (rfMod Y9).length = 4 := LQ_
    refine S_ ?_
    refine c_region ?_
    refine s_val (v_loadR rfl rfl row_42 sz_42 EQ_ (by decide)) rfl ?_
    refine s_evN (e_callR (bs := []) (rfMod_ev Y9 HYP_) ok_99 (by kernel_rfl) (by kernel_rfl) rfl VAL_) APP_ rfl ?_
    refine s_storeR rfl rfl rfl rfl sz_42 EQ_ EQ_ SET_ ?_
    refine s_nil ?_
    refine S_ ?_
    rw [hP.out]
    exact k_1 (r_row rfl rfl row_42 sz_42 EQ_ (by decide)) (by first | kernel_rfl | rfl)
@[simp] theorem rfMul_len (a : List (BitVec 64)) (b : List (BitVec 64)) (ha : a.length = 4) (hb : b.length = 4) : (rfMul a b).length = 4 := by
  unfold rfMul
  first | (simp (maxDischargeDepth := 9) [rfMul_L5_len1, rfMul_L5_len2, *]; done) | (simp (maxDischargeDepth := 9) [rfMul_L5_len1, rfMul_L5_len2, *]; omega) | (split <;> (simp (maxDischargeDepth := 9) [rfMul_L5_len1, rfMul_L5_len2, *]; done))
attribute [irreducible] rfMul
end Go.Proofs.Ytcgncafhonlmlaa
namespace Go.Proofs.Ytcgncafhonlmlaa
open Go.RowKit
def rfPow_L3_S (a : List (BitVec 64)) (e : List (BitVec 64)) (X1 : List (BitVec 64)) (j3 : Nat) : List (BitVec 64) := (if ((((nth e ((255 - j3) / 64)) >>> (BitVec.ofNat 64 ((255 - j3) % 64)).toNat) &&& 1#64) == 1#64) = true then rfMul (rfMul X1 X1) a else rfMul X1 X1)
def rfPow_L3 (a : List (BitVec 64)) (e : List (BitVec 64)) : Nat → List (BitVec 64)
  | 0 => put (zer64 4) 0 1#64
  | j3 + 1 => rfPow_L3_S a e (rfPow_L3 a e j3) j3
theorem rfPow_L3_len (a : List (BitVec 64)) (e : List (BitVec 64)) (ha : a.length = 4) (he : e.length = 4) (j3 : Nat) : (rfPow_L3 a e j3).length = 4 := by
  induction j3 with
  | zero => first | (simp [rfPow_L3, *]; done) | (simp [rfPow_L3, *]; omega)
  | succ j3 ih => rw [rfPow_L3.eq_2, rfPow_L3_S]; first | (simp [ih]; done) | (simp [ih]; omega) | (simp [*]; done) | (simp [*]; omega) | (split <;> first | (simp [ih]; done) | (simp [ih]; omega) | (simp [*]; done))
def rfPow (a : List (BitVec 64)) (e : List (BitVec 64)) : List (BitVec 64) := (rfPow_L3 a e 256)
set_option maxRecDepth 100000 in
set_option maxHeartbeats 2000000 in
theorem rfPow_ev (a : List (BitVec 64)) (e : List (BitVec 64)) (ha : a.length = 4) (he : e.length = 4) : Ev Try.prog (.call 100 [.agg (.a64 (a)), .agg (.a64 (e))] []) (.val (.agg (.a64 (rfPow a e))) []) := by
  have hP : Hid (rfPow a e = (rfPow_L3 a e 256)) := ⟨rfl⟩
  refine c_call Try.func100 rfl Try.ntmps100 rfl LEN_ ?_
  refine S_ ?_
  refine c_region ?_
  refine s_memN (m_box BX_ LEN_) APP_ rfl ?_
  refine s_memN (m_box BX_ LEN_) APP_ rfl ?_
  refine s_memN (m_alloc al_42 LEN_) APP_ rfl ?_
  refine s_nil ?_
  refine S_ ?_
  refine c_region ?_
  refine s_val (v_blf64 (l := (put (zer64 4) 0 (1#64))) za_42 Try.underlying42 sz_40 rfl rfl) rfl ?_
  refine s_memN (m_alloc al_42 LEN_) APP_ rfl ?_
  refine s_storeR rfl rfl rfl rfl sz_42 EQ_ EQ_ SET_ ?_
  refine s_nil ?_
  refine S_ ?_
  refine c_region ?_
  refine s_val (v_assignC rfl) rfl ?_
  refine s_nil ?_
  refine S_ ?_
  refine c_loopC [2, 3, 4, 5, 6] (fun (zz : Nat × List (BitVec 64)) => ⟨29, keepT [2, 3, 4, 5, 6] [.c (.ptr 0 0), .c (.ptr 1 0), .c (.ptr 2 0), .c (.ptr 3 0), .c (.val (.int .i64 (((255 : Nat) : Int) - ((zz.1 : Nat) : Int))))], [.row true (.a64 (a)), .row true (.a64 (e)), .row true (.a64 (zer64 4)), .row true (.a64 (zz.2))]⟩) (fun j3 => (j3, rfPow_L3 a e j3)) (256) (by kernel_rfl) ?_ ?_
  · intro j3 hj3
    try dsimp only
    have hX1 : (rfPow_L3 a e j3).length = 4 := by rw [rfPow_L3_len a e ha he _]; try omega
    rw [rfPow_L3.eq_2, rfPow_L3_S]
    generalize rfPow_L3 a e j3 = X1 at *
    rw [show ((255 : Nat) : Int) - ((j3 : Nat) : Int) = ((255 - j3 : Nat) : Int) from by omega]
    refine S_ ?_
    refine c_region ?_
    refine s_val (v_moveC rfl) rfl ?_
    refine s_val (v_geqN (b := 0) rfl rfl) rfl ?_
    refine s_nil ?_
    have hQ2 : (rfMul X1 X1).length = 4 := LQ_
    refine S_ ?_
    refine c_region ?_
    refine s_val (v_loadR rfl rfl row_42 sz_42 EQ_ (by decide)) rfl ?_
    refine s_val (v_loadR rfl rfl row_42 sz_42 EQ_ (by decide)) rfl ?_
    refine s_evN (e_callR (bs := []) (rfMul_ev X1 X1 HYP_ HYP_) ok_78 (by kernel_rfl) (by kernel_rfl) rfl VAL_) APP_ rfl ?_
    refine s_storeR rfl rfl rfl rfl sz_42 EQ_ EQ_ SET_ ?_
    refine s_nil ?_
    refine S_ ?_
    refine c_region ?_
    refine s_val (v_moveC rfl) rfl ?_
    refine s_val (v_quoN (b := 64) rfl rfl (by omega) (by omega)) rfl ?_
    refine s_val (v_idxA1 rfl rfl Try.underlying42 sz_40 (by omega)) rfl ?_
    refine s_val (v_load64 rfl rfl row_40 LT_) rfl ?_
    refine s_val (v_moveC rfl) rfl ?_
    refine s_val (v_remN (b := 64) rfl rfl (by omega) (by omega)) rfl ?_
    refine s_val (v_conv rfl Try.underlying3 Try.underlying72 (wi_64 _)) rfl ?_
    refine s_val (v_shr64w rfl rfl) rfl ?_
    refine s_val (v_and64 (b := 1#64) rfl rfl) rfl ?_
    refine s_val (v_eql64 (b := 1#64) rfl rfl) rfl ?_
    refine s_nil ?_
    refine Q_ ?_
    refine c_join [2, 3, 4, 5, 6] (fun (zz : List (BitVec 64)) => ⟨29, keepT [2, 3, 4, 5, 6] [.c (.ptr 0 0), .c (.ptr 1 0), .c (.ptr 2 0), .c (.ptr 3 0), .c (.val (.int .i64 (((255 - j3 : Nat) : Int))))], [.row true (.a64 (a)), .row true (.a64 (e)), .row true (.a64 (zer64 4)), .row true (.a64 (zz))]⟩) (if ((((nth e ((255 - j3) / 64)) >>> (BitVec.ofNat 64 ((255 - j3) % 64)).toNat) &&& 1#64) == 1#64) = true then rfMul (rfMul X1 X1) a else rfMul X1 X1) rfl (fun hb => ?_) (fun hb => ?_) ?_
    · -- the test is True
      have hQ4 : (rfMul (rfMul X1 X1) a).length = 4 := LQ_
      refine S_ ?_
      refine c_region ?_
      refine s_val (v_loadR rfl rfl row_42 sz_42 EQ_ (by decide)) rfl ?_
      refine s_val (v_loadR rfl rfl row_42 sz_42 EQ_ (by decide)) rfl ?_
      refine s_evN (e_callR (bs := []) (rfMul_ev (rfMul X1 X1) a HYP_ HYP_) ok_78 (by kernel_rfl) (by kernel_rfl) rfl VAL_) APP_ rfl ?_
      refine s_storeR rfl rfl rfl rfl sz_42 EQ_ EQ_ SET_ ?_
      refine s_nil ?_
      refine S_ ?_
      refine ⟨(rfMul (rfMul X1 X1) a), by kernel_rfl, ?_⟩
      rw [if_pos (hb)]
    · -- the test is False
      refine S_ ?_
      refine ⟨(rfMul X1 X1), by kernel_rfl, ?_⟩
      rw [if_neg (by first | (rw [hb]; decide) | simp [hb])]
    have hJ3 : (if ((((nth e ((255 - j3) / 64)) >>> (BitVec.ofNat 64 ((255 - j3) % 64)).toNat) &&& 1#64) == 1#64) = true then rfMul (rfMul X1 X1) a else rfMul X1 X1).length = 4 := by split <;> simp [*]
    generalize (if ((((nth e ((255 - j3) / 64)) >>> (BitVec.ofNat 64 ((255 - j3) % 64)).toNat) &&& 1#64) == 1#64) = true then rfMul (rfMul X1 X1) a else rfMul X1 X1) = J3 at *
    refine S_ ?_
    refine c_region ?_
    refine s_val (v_moveC rfl) rfl ?_
    first
      | refine s_val (v_subN (b := 1) rfl rfl (by omega) (by omega)) rfl ?_
      | refine s_val (v_subI rfl rfl (by omega)) rfl ?_
    refine s_val (v_assignC rfl) rfl ?_
    refine s_nil ?_
    refine ⟨(j3 + 1, _), (by
      dsimp only
      rw [show ((255 : Nat) : Int) - ((j3 + 1 : Nat) : Int) = ((255 - j3 : Nat) : Int) - 1 from by omega]
      kernel_rfl), rfl⟩
  · try dsimp only
    have hY5 : (rfPow_L3 a e 256).length = 4 := by rw [rfPow_L3_len a e ha he _]; try omega
    generalize rfPow_L3 a e 256 = Y5 at *
    refine S_ ?_
    refine c_region ?_
    refine s_val (v_moveC rfl) rfl ?_
    refine s_val (v_geqI rfl rfl) rfl ?_
    refine s_nil ?_
    refine S_ ?_
    refine c_region ?_
    refine s_val (v_loadR rfl rfl row_42 sz_42 EQ_ (by decide)) rfl ?_
    refine s_storeR rfl rfl rfl rfl sz_42 EQ_ EQ_ SET_ ?_
    refine s_nil ?_
    refine S_ ?_
    rw [hP.out]
    exact k_1 (r_row rfl rfl row_42 sz_42 EQ_ (by decide)) (by first | kernel_rfl | rfl)
@[simp] theorem rfPow_len (a : List (BitVec 64)) (e : List (BitVec 64)) (ha : a.length = 4) (he : e.length = 4) : (rfPow a e).length = 4 := by
  unfold rfPow
  first | (simp [rfPow_L3_len, *]; done) | (simp [rfPow_L3_len, *]; omega)
attribute [irreducible] rfPow
def rfInv (a : List (BitVec 64)) : List (BitVec 64) := rfPow a (rfsub0 rfP (put (zer64 4) 0 2#64))
set_option maxRecDepth 100000 in
set_option maxHeartbeats 2000000 in
theorem rfInv_ev (a : List (BitVec 64)) (ha : a.length = 4) : Ev Try.prog (.call 81 [.agg (.a64 (a))] []) (.val (.agg (.a64 (rfInv a))) []) := by
  have hP : Hid (rfInv a = rfPow a (rfsub0 rfP (put (zer64 4) 0 2#64))) := ⟨rfl⟩
  refine c_call Try.func81 rfl Try.ntmps81 rfl LEN_ ?_
  refine S_ ?_
  refine c_region ?_
  refine s_memN (m_box BX_ LEN_) APP_ rfl ?_
  refine s_memN (m_alloc al_42 LEN_) APP_ rfl ?_
  refine s_nil ?_
  have hQ1 : (rfP).length = 4 := LQ_
  have hQ2 : (rfsub0 rfP (put (zer64 4) 0 2#64)).length = 4 := LQ_
  refine S_ ?_
  refine c_region ?_
  refine s_evN (e_callR (bs := []) (rfP_ev) ok_77 (by kernel_rfl) (by kernel_rfl) rfl VAL_) APP_ rfl ?_
  refine s_val (v_blf64 (l := (put (zer64 4) 0 (2#64))) za_42 Try.underlying42 sz_40 rfl rfl) rfl ?_
  refine s_evN (e_callR (bs := []) (rfsub_ev rfP (put (zer64 4) 0 2#64) HYP_ HYP_) ok_95 (by kernel_rfl) (by kernel_rfl) rfl VAL_) APP_ rfl ?_
  refine s_val (v_moveT rfl) rfl ?_
  refine s_val (v_extract rfl rfl) rfl ?_
  refine s_val (v_extract rfl rfl) rfl ?_
  refine s_memN (m_alloc al_42 LEN_) APP_ rfl ?_
  refine s_storeR rfl rfl rfl rfl sz_42 EQ_ EQ_ SET_ ?_
  refine s_val (v_assignC rfl) rfl ?_
  refine s_nil ?_
  have hQ3 : (rfPow a (rfsub0 rfP (put (zer64 4) 0 2#64))).length = 4 := LQ_
  refine S_ ?_
  refine c_region ?_
  refine s_val (v_loadR rfl rfl row_42 sz_42 EQ_ (by decide)) rfl ?_
  refine s_val (v_loadR rfl rfl row_42 sz_42 EQ_ (by decide)) rfl ?_
  refine s_evN (e_callR (bs := []) (rfPow_ev a (rfsub0 rfP (put (zer64 4) 0 2#64)) HYP_ HYP_) ok_100 (by kernel_rfl) (by kernel_rfl) rfl VAL_) APP_ rfl ?_
  refine s_storeR rfl rfl rfl rfl sz_42 EQ_ EQ_ SET_ ?_
  refine s_nil ?_
  refine S_ ?_
  rw [hP.out]
  exact k_1 (r_row rfl rfl row_42 sz_42 EQ_ (by decide)) (by first | kernel_rfl | rfl)
@[simp] theorem rfInv_len (a : List (BitVec 64)) (ha : a.length = 4) : (rfInv a).length = 4 := by
  unfold rfInv
  first | (simp [*]; done) | (simp [*]; omega)
attribute [irreducible] rfInv
def rfHalf_L3_S (a : List (BitVec 64)) (X1 : List (BitVec 64)) (j3 : Nat) : List (BitVec 64) := (if j3 < 3 then put (put X1 j3 ((nth a j3) >>> 1)) j3 ((nth (put X1 j3 ((nth a j3) >>> 1)) j3) ||| ((nth a (j3 + 1)) <<< 63)) else put X1 j3 ((nth a j3) >>> 1))
def rfHalf_L3 (a : List (BitVec 64)) : Nat → List (BitVec 64)
  | 0 => zer64 4
  | j3 + 1 => rfHalf_L3_S a (rfHalf_L3 a j3) j3
theorem rfHalf_L3_len (a : List (BitVec 64)) (ha : a.length = 4) (j3 : Nat) : (rfHalf_L3 a j3).length = 4 := by
  induction j3 with
  | zero => first | (simp [rfHalf_L3, *]; done) | (simp [rfHalf_L3, *]; omega)
  | succ j3 ih => rw [rfHalf_L3.eq_2, rfHalf_L3_S]; first | (simp [ih]; done) | (simp [ih]; omega) | (simp [*]; done) | (simp [*]; omega) | (split <;> first | (simp [ih]; done) | (simp [ih]; omega) | (simp [*]; done))
def rfHalf (a : List (BitVec 64)) : List (BitVec 64) := (rfHalf_L3 a 4)
set_option maxRecDepth 100000 in
set_option maxHeartbeats 2000000 in
theorem rfHalf_ev (a : List (BitVec 64)) (ha : a.length = 4) : Ev Try.prog (.call 101 [.agg (.a64 (a))] []) (.val (.agg (.a64 (rfHalf a))) []) := by
  have hP : Hid (rfHalf a = (rfHalf_L3 a 4)) := ⟨rfl⟩
  refine c_call Try.func101 rfl Try.ntmps101 rfl LEN_ ?_
  refine S_ ?_
  refine c_region ?_
  refine s_memN (m_box BX_ LEN_) APP_ rfl ?_
  refine s_memN (m_alloc al_42 LEN_) APP_ rfl ?_
  refine s_nil ?_
  refine S_ ?_
  refine c_region ?_
  refine s_memN (m_alloc al_42 LEN_) APP_ rfl ?_
  refine s_nil ?_
  refine S_ ?_
  refine c_region ?_
  refine s_val (v_assignC rfl) rfl ?_
  refine s_nil ?_
  refine S_ ?_
  refine c_loopC [1, 2, 3, 4] (fun (zz : Nat × List (BitVec 64)) => ⟨28, keepT [1, 2, 3, 4] [.c (.ptr 0 0), .c (.ptr 1 0), .c (.ptr 2 0), .c (.val (.int .i64 (((zz.1 : Nat) : Int))))], [.row true (.a64 (a)), .row true (.a64 (zer64 4)), .row true (.a64 (zz.2))]⟩) (fun j3 => (j3, rfHalf_L3 a j3)) (4) (by kernel_rfl) ?_ ?_
  · intro j3 hj3
    try dsimp only
    have hX1 : (rfHalf_L3 a j3).length = 4 := by rw [rfHalf_L3_len a ha _]; try omega
    rw [rfHalf_L3.eq_2, rfHalf_L3_S]
    generalize rfHalf_L3 a j3 = X1 at *
    refine S_ ?_
    refine c_region ?_
    refine s_val (v_moveC rfl) rfl ?_
    refine s_val (v_lssN (b := 4) rfl rfl) rfl ?_
    refine s_nil ?_
    refine S_ ?_
    refine c_region ?_
    refine s_val (v_moveC rfl) rfl ?_
    refine s_val (v_moveC rfl) rfl ?_
    refine s_val (v_idxA1 rfl rfl Try.underlying42 sz_40 (by omega)) rfl ?_
    refine s_val (v_load64 rfl rfl row_40 LT_) rfl ?_
    refine s_val (v_shr64n (j := 1) rfl rfl) rfl ?_
    refine s_val (v_idxA1 rfl rfl Try.underlying42 sz_40 (by omega)) rfl ?_
    refine s_store64 rfl rfl rfl sz_40 LT_ SET_ ?_
    refine s_nil ?_
    refine S_ ?_
    refine c_region ?_
    refine s_val (v_moveC rfl) rfl ?_
    refine s_val (v_lssN (b := 3) rfl rfl) rfl ?_
    refine s_nil ?_
    refine Q_ ?_
    refine c_join [1, 2, 3, 4] (fun (zz : List (BitVec 64)) => ⟨28, keepT [1, 2, 3, 4] [.c (.ptr 0 0), .c (.ptr 1 0), .c (.ptr 2 0), .c (.val (.int .i64 (((j3 : Nat) : Int))))], [.row true (.a64 (a)), .row true (.a64 (zer64 4)), .row true (.a64 (zz))]⟩) (if j3 < 3 then put (put X1 j3 ((nth a j3) >>> 1)) j3 ((nth (put X1 j3 ((nth a j3) >>> 1)) j3) ||| ((nth a (j3 + 1)) <<< 63)) else put X1 j3 ((nth a j3) >>> 1)) rfl (fun hb => ?_) (fun hb => ?_) ?_
    · -- the test is True
      have hb_ := of_decide_eq_true hb
      refine S_ ?_
      refine c_draw 10 mixed (by kernel_rfl) rfl rfl rfl ?_
      refine h_val (v_moveC rfl) rfl ?_
      refine h_val (v_idxA1 rfl rfl Try.underlying42 sz_40 (by omega)) rfl ?_
      refine h_val (v_load64 rfl rfl row_40 LT_) rfl ?_
      refine h_val (v_moveC rfl) rfl ?_
      refine h_val (v_addN (b := 1) rfl rfl (by omega)) rfl ?_
      refine h_val (v_idxA1 rfl rfl Try.underlying42 sz_40 (by omega)) rfl ?_
      refine h_val (v_load64 rfl rfl row_40 LT_) rfl ?_
      refine h_val (v_shl64n (j := 63) rfl rfl) rfl ?_
      refine h_val (v_or64 rfl rfl) rfl ?_
      refine h_val (v_idxA1 rfl rfl Try.underlying42 sz_40 (by omega)) rfl ?_
      refine h_nil ?_
      refine s_store64 rfl rfl rfl sz_40 LT_ SET_ ?_
      refine s_nil ?_
      refine S_ ?_
      refine ⟨(put (put X1 j3 ((nth a j3) >>> 1)) j3 ((nth (put X1 j3 ((nth a j3) >>> 1)) j3) ||| ((nth a (j3 + 1)) <<< 63))), by kernel_rfl, ?_⟩
      rw [if_pos (of_decide_eq_true hb)]
    · -- the test is False
      have hb_ := of_decide_eq_false hb
      refine S_ ?_
      refine ⟨(put X1 j3 ((nth a j3) >>> 1)), by kernel_rfl, ?_⟩
      rw [if_neg (of_decide_eq_false hb)]
    have hJ2 : (if j3 < 3 then put (put X1 j3 ((nth a j3) >>> 1)) j3 ((nth (put X1 j3 ((nth a j3) >>> 1)) j3) ||| ((nth a (j3 + 1)) <<< 63)) else put X1 j3 ((nth a j3) >>> 1)).length = 4 := by split <;> simp [*]
    generalize (if j3 < 3 then put (put X1 j3 ((nth a j3) >>> 1)) j3 ((nth (put X1 j3 ((nth a j3) >>> 1)) j3) ||| ((nth a (j3 + 1)) <<< 63)) else put X1 j3 ((nth a j3) >>> 1)) = J2 at *
    refine S_ ?_
    refine c_region ?_
    refine s_val (v_moveC rfl) rfl ?_
    refine s_val (v_addN (b := 1) rfl rfl (by omega)) rfl ?_
    refine s_val (v_assignC rfl) rfl ?_
    refine s_nil ?_
    exact ⟨(j3 + 1, _), by kernel_rfl, rfl⟩
  · try dsimp only
    have hY3 : (rfHalf_L3 a 4).length = 4 := by rw [rfHalf_L3_len a ha _]; try omega
    generalize rfHalf_L3 a 4 = Y3 at *
    refine S_ ?_
    refine c_region ?_
    refine s_val (v_moveC rfl) rfl ?_
    refine s_val (v_lssN (a := 4) (b := 4) rfl rfl) rfl ?_
    refine s_nil ?_
    refine S_ ?_
    refine c_region ?_
    refine s_val (v_loadR rfl rfl row_42 sz_42 EQ_ (by decide)) rfl ?_
    refine s_storeR rfl rfl rfl rfl sz_42 EQ_ EQ_ SET_ ?_
    refine s_nil ?_
    refine S_ ?_
    rw [hP.out]
    exact k_1 (r_row rfl rfl row_42 sz_42 EQ_ (by decide)) (by first | kernel_rfl | rfl)
@[simp] theorem rfHalf_len (a : List (BitVec 64)) (ha : a.length = 4) : (rfHalf a).length = 4 := by
  unfold rfHalf
  first | (simp [rfHalf_L3_len, *]; done) | (simp [rfHalf_L3_len, *]; omega)
attribute [irreducible] rfHalf
end Go.Proofs.Ytcgncafhonlmlaa
namespace Go.Proofs.Ytcgncafhonlmlaa
open Go.RowKit
theorem rfMul_W {a b : List (BitVec 64)} (ha : a.length = 4) (hb : b.length = 4) : rfMul a b = WF (ZW a * ZW b) := by
  have e : rfMul a b = rfMod ((mSt a b (rfN a b)).1) := by
    unfold rfMul
    rw [(L5_st a b (rfN a b)).1]
  rw [e, rfMod_W (mSt_len a b _).1]
  congr 1
  exact end_zf a b
theorem word_bit (x : BitVec 64) (k : Nat) (hk : k < 64) : (((x >>> (BitVec.ofNat 64 k).toNat) &&& 1#64) == 1#64) = decide (x.toNat / 2 ^ k % 2 = 1) := by
  rw [BitVec.toNat_ofNat, Nat.mod_eq_of_lt (by omega)]
  have e : ((x >>> k) &&& 1#64).toNat = x.toNat / 2 ^ k % 2 := by
    rw [BitVec.toNat_and, BitVec.toNat_ushiftRight, Nat.shiftRight_eq_div_pow]
    exact Nat.and_two_pow_sub_one_eq_mod _ 1
  by_cases h : x.toNat / 2 ^ k % 2 = 1
  · rw [decide_eq_true h, beq_iff_eq]
    apply BitVec.eq_of_toNat_eq
    rw [e, h]; rfl
  · rw [decide_eq_false h, beq_eq_false_iff_ne]
    intro hx
    apply h
    rw [← e, hx]; rfl
theorem wV_digit (e : List (BitVec 64)) (t : Nat) (ht : t < 4) : wV e / 18446744073709551616 ^ t % 18446744073709551616 = (nth e t).toNat := by
  have h0 := (nth e 0).isLt
  have h1 := (nth e 1).isLt
  have h2 := (nth e 2).isLt
  have h3 := (nth e 3).isLt
  unfold wV
  rcases (by omega : t = 0 ∨ t = 1 ∨ t = 2 ∨ t = 3) with h | h | h | h <;> subst h <;> simp only [Nat.pow_zero, Nat.reducePow] <;> omega
theorem wexp_bit (e : List (BitVec 64)) (i : Nat) (hi : i < 256) : ((((nth e (i / 64)) >>> (BitVec.ofNat 64 (i % 64)).toNat) &&& 1#64) == 1#64) = decide (wV e / 2 ^ i % 2 = 1) := by
  rw [word_bit _ _ (by omega), ← wV_digit e (i / 64) (by omega)]
  have h2 : (2 : Nat) ^ i = 18446744073709551616 ^ (i / 64) * 2 ^ (i % 64) := by
    rw [show (18446744073709551616 : Nat) = 2 ^ 64 from rfl, ← Nat.pow_mul, ← Nat.pow_add, Nat.div_add_mod]
  rw [h2, ← Nat.div_div_eq_div_mul]
  generalize wV e / 18446744073709551616 ^ (i / 64) = x
  congr 1
  have hk : i % 64 < 64 := by omega
  generalize i % 64 = k at *
  have : x % 18446744073709551616 / 2 ^ k % 2 = x / 2 ^ k % 2 := by
    have e1 := Nat.testBit_mod_two_pow x 64 k
    rw [decide_eq_true hk, Bool.true_and] at e1
    rw [Nat.testBit_eq_decide_div_mod_eq, Nat.testBit_eq_decide_div_mod_eq] at e1
    have e2 := decide_eq_decide.1 e1
    rw [show (2 : Nat) ^ 64 = 18446744073709551616 from rfl] at e2
    omega
  rw [this]
theorem rfPow_W {a e : List (BitVec 64)} (ha : a.length = 4) : rfPow a e = WF (ZW a ^ wV e) := by
  have run : ∀ j, j ≤ 256 → (rfPow_L3 a e j).length = 4 ∧ ZW (rfPow_L3 a e j) = ZW a ^ (wV e / 2 ^ (256 - j)) ∧ (0 < j → rfPow_L3 a e j = WF (ZW a ^ (wV e / 2 ^ (256 - j)))) := by
    intro j
    induction j with
    | zero =>
      intro _
      have hz : wV e / 2 ^ (256 - 0) = 0 := Nat.div_eq_of_lt (wV_lt e)
      rw [hz, pow_zeroF]
      refine ⟨rfl, ?_, fun h => absurd h (by decide)⟩
      show zf (wV (put (zer64 4) 0 1#64)) = 1
      rw [one_word]; rfl
    | succ j ih =>
      intro hj
      obtain ⟨h1, h2, _⟩ := ih (by omega)
      have hb := wexp_bit e (255 - j) (by omega)
      have hq : wV e / 2 ^ (256 - (j + 1)) = 2 * (wV e / 2 ^ (256 - j)) + wV e / 2 ^ (255 - j) % 2 := by
        rw [show 256 - (j + 1) = 255 - j by omega, show 256 - j = (255 - j) + 1 by omega, Nat.pow_succ, ← Nat.div_div_eq_div_mul]
        omega
      have hs : rfMul (rfPow_L3 a e j) (rfPow_L3 a e j) = WF ((ZW a ^ (wV e / 2 ^ (256 - j))) ^ 2) := by
        rw [rfMul_W h1 h1, h2, sq_powF]
      have key : rfPow_L3 a e (j + 1) = WF (ZW a ^ (wV e / 2 ^ (256 - (j + 1)))) := by
        rw [rfPow_L3, rfPow_L3_S, hb, hq, pow_addF, Nat.mul_comm 2, pow_mulF, hs]
        by_cases hc : wV e / 2 ^ (255 - j) % 2 = 1
        · rw [decide_eq_true hc, if_pos rfl, hc, rfMul_W rfl ha, ZW_WF, pow_oneF]
        · rw [decide_eq_false hc, if_neg (by decide), show wV e / 2 ^ (255 - j) % 2 = 0 by omega, pow_zeroF, mul_oneF]
      exact ⟨by rw [key]; rfl, by rw [key, ZW_WF], fun _ => key⟩
  have := (run 256 (Nat.le_refl _)).2.2 (by decide)
  rw [Nat.sub_self, Nat.pow_zero, Nat.div_one] at this
  unfold rfPow
  exact this
theorem inv_exp : wV (rfsub0 rfP (put (zer64 4) 0 2#64)) = eInv := by decide +kernel
theorem rfInv_W {a : List (BitVec 64)} (ha : a.length = 4) : rfInv a = WF (invF (ZW a)) := by
  unfold rfInv invF
  rw [rfPow_W ha, inv_exp]
def wMod (a : List (BitVec 64)) : List (BitVec 64) := WF (ZW a)
def wSub (a b : List (BitVec 64)) : List (BitVec 64) := WF (ZW a - ZW b)
def wMul (a b : List (BitVec 64)) : List (BitVec 64) := WF (ZW a * ZW b)
def wPow (a e : List (BitVec 64)) : List (BitVec 64) := WF (ZW a ^ wV e)
def wInv (a : List (BitVec 64)) : List (BitVec 64) := WF (invF (ZW a))
@[simp] theorem wMod_len (a : List (BitVec 64)) : (wMod a).length = 4 := rfl
@[simp] theorem wSub_len (a b : List (BitVec 64)) : (wSub a b).length = 4 := rfl
@[simp] theorem wMul_len (a b : List (BitVec 64)) : (wMul a b).length = 4 := rfl
@[simp] theorem wPow_len (a b : List (BitVec 64)) : (wPow a b).length = 4 := rfl
@[simp] theorem wInv_len (a : List (BitVec 64)) : (wInv a).length = 4 := rfl
theorem wMod_same {a : List (BitVec 64)} (h : a.length = 4) : rfMod a = wMod a := rfMod_W h
theorem wSub_same {a b : List (BitVec 64)} (h : a.length = 4) (h' : b.length = 4) : rfSub a b = wSub a b := rfSub_W h h'
theorem wMul_same {a b : List (BitVec 64)} (h : a.length = 4) (h' : b.length = 4) : rfMul a b = wMul a b := rfMul_W h h'
theorem wPow_same {a e : List (BitVec 64)} (h : a.length = 4) : rfPow a e = wPow a e := rfPow_W h
theorem wInv_same {a : List (BitVec 64)} (h : a.length = 4) : rfInv a = wInv a := rfInv_W h
theorem ZW_of {b : List (BitVec 8)} : wV (rfOf b) = leS b 32 := by
  have run := words_run b (rfOf_L3 b) rfl (fun j => by rw [rfOf_L3, rfOf_L3_S, BitVec.toNat_ofNat, Nat.mod_eq_of_lt (by omega)]) 32 (Nat.le_refl _)
  have v : ∀ t, t < 4 → (nth (rfOf_L3 b 32) t).toNat = wvb b t 8 := fun t ht => by
    have := run.2 t ht
    rwa [show min 8 (32 - 8 * t) = 8 by omega] at this
  unfold rfOf wV
  rw [v 0 (by decide), v 1 (by decide), v 2 (by decide), v 3 (by decide), leS_wvb]
theorem exp_root : wV (rfHalf (rfHalf (rfHalf (rfadd0 rfP (put (zer64 4) 0 3#64))))) = eRoot := by decide +kernel
theorem exp_i : wV (rfHalf (rfHalf (rfsub0 rfP (put (zer64 4) 0 1#64)))) = eI := by decide +kernel
def R0 (a : List (BitVec 64)) : List (BitVec 64) := wPow (wMod a) (rfHalf (rfHalf (rfHalf (rfadd0 rfP (put (zer64 4) 0 3#64)))))
def R1 (a : List (BitVec 64)) : List (BitVec 64) := wMul (wPow (wMod a) (rfHalf (rfHalf (rfHalf (rfadd0 rfP (put (zer64 4) 0 3#64)))))) (wPow (put (zer64 4) 0 2#64) (rfHalf (rfHalf (rfsub0 rfP (put (zer64 4) 0 1#64)))))
theorem R0_W (a : List (BitVec 64)) : R0 a = WF (ZW a ^ eRoot) := by
  unfold R0 wPow wMod
  rw [ZW_WF, exp_root]
theorem R1_W (a : List (BitVec 64)) : R1 a = WF (ZW a ^ eRoot * iF) := by
  have e : R1 a = wMul (R0 a) (wPow (put (zer64 4) 0 2#64) (rfHalf (rfHalf (rfsub0 rfP (put (zer64 4) 0 1#64))))) := rfl
  rw [e, R0_W]
  unfold wMul wPow
  rw [ZW_WF, ZW_WF, exp_i]
  have : ZW (put (zer64 4) 0 2#64) = zf 2 := by unfold ZW; rw [one_word]; rfl
  rw [this, iF_pow]
theorem WF_inj {u v : Fp} : WF u = WF v ↔ u = v := ⟨fun h => by rw [← ZW_WF u, h, ZW_WF], fun h => by rw [h]⟩
theorem sq_test (a : List (BitVec 64)) (x : Fp) : (wMul (WF x) (WF x) = wMod a) ↔ x * x = ZW a := by
  unfold wMul wMod
  rw [ZW_WF]
  exact WF_inj
theorem even_W (x : Fp) : (if (((nth (WF x) 0) &&& 1#64) == 1#64) = true then wSub (zer64 4) (WF x) else WF x) = WF (evenF x) := by
  have h0 : nth (WF x) 0 = BitVec.ofNat 64 x.val := rfl
  have hb : (((nth (WF x) 0) &&& 1#64) == 1#64) = decide (x.val % 2 = 1) := by
    have := word_bit (nth (WF x) 0) 0 (by decide)
    rw [show (BitVec.ofNat 64 0).toNat = 0 from rfl, BitVec.ushiftRight_zero] at this
    rw [this, h0, BitVec.toNat_ofNat, Nat.pow_zero, Nat.div_one]
    congr 1
    apply propext
    omega
  rw [hb]
  unfold evenF
  by_cases h : x.val % 2 = 1
  · rw [decide_eq_true h, if_pos rfl, if_pos h]
    unfold wSub
    rw [ZW_WF]
    have : ZW (zer64 4) = 0 := by unfold ZW; rw [show wV (zer64 4) = 0 from by decide +kernel]; rfl
    rw [this]
  · rw [decide_eq_false h, if_neg (by decide), if_neg h]
def wRootIs (a : List (BitVec 64)) : Bool := decide (rootF (ZW a) * rootF (ZW a) = ZW a)
def wRoot (a : List (BitVec 64)) : List (BitVec 64) := WF (if rootF (ZW a) * rootF (ZW a) = ZW a then evenF (rootF (ZW a)) else 0)
@[simp] theorem wRoot_len (a : List (BitVec 64)) : (wRoot a).length = 4 := rfl
theorem rootF_of {z : Fp} (h : z ^ eRoot * z ^ eRoot = z) : rootF z = z ^ eRoot := by
  unfold rootF; rw [if_pos h]
theorem rootF_not {z : Fp} (h : ¬ z ^ eRoot * z ^ eRoot = z) : rootF z = z ^ eRoot * iF := by
  unfold rootF; rw [if_neg h]
theorem zero_words : zer64 4 = WF 0 := by decide +kernel
attribute [irreducible] wRootIs wRoot R0 R1 wMod wSub wMul wPow wInv
end Go.Proofs.Ytcgncafhonlmlaa
namespace Go.Proofs.Ytcgncafhonlmlaa
open Go.RowKit
theorem wMod_ev (a : List (BitVec 64)) (ha : a.length = 4)  : Ev Try.prog (.call 99 [.agg (.a64 (a))] []) (.val (.agg (.a64 (wMod a))) [])  := by
  have h_ := rfMod_ev a ha
  rw [wMod_same ha] at h_
  exact h_
theorem wSub_ev (a : List (BitVec 64)) (b : List (BitVec 64)) (ha : a.length = 4) (hb : b.length = 4)  : Ev Try.prog (.call 80 [.agg (.a64 (a)), .agg (.a64 (b))] []) (.val (.agg (.a64 (wSub a b))) [])  := by
  have h_ := rfSub_ev a b ha hb
  rw [wSub_same ha hb] at h_
  exact h_
theorem wMul_ev (a : List (BitVec 64)) (b : List (BitVec 64)) (ha : a.length = 4) (hb : b.length = 4)  : Ev Try.prog (.call 78 [.agg (.a64 (a)), .agg (.a64 (b))] []) (.val (.agg (.a64 (wMul a b))) [])  := by
  have h_ := rfMul_ev a b ha hb
  rw [wMul_same ha hb] at h_
  exact h_
theorem wPow_ev (a : List (BitVec 64)) (e : List (BitVec 64)) (ha : a.length = 4) (he : e.length = 4)  : Ev Try.prog (.call 100 [.agg (.a64 (a)), .agg (.a64 (e))] []) (.val (.agg (.a64 (wPow a e))) [])  := by
  have h_ := rfPow_ev a e ha he
  rw [wPow_same ha] at h_
  exact h_
theorem wInv_ev (a : List (BitVec 64)) (ha : a.length = 4)  : Ev Try.prog (.call 81 [.agg (.a64 (a))] []) (.val (.agg (.a64 (wInv a))) [])  := by
  have h_ := rfInv_ev a ha
  rw [wInv_same ha] at h_
  exact h_
end Go.Proofs.Ytcgncafhonlmlaa
namespace Go.Proofs.Ytcgncafhonlmlaa
open Go.RowKit
def rfAdd (a : List (BitVec 64)) (b : List (BitVec 64)) : List (BitVec 64) := wMod (rfadd0 (wMod a) (wMod b))
set_option maxRecDepth 100000 in
set_option maxHeartbeats 2000000 in
theorem rfAdd_ev (a : List (BitVec 64)) (b : List (BitVec 64)) (ha : a.length = 4) (hb : b.length = 4) : Ev Try.prog (.call 82 [.agg (.a64 (a)), .agg (.a64 (b))] []) (.val (.agg (.a64 (rfAdd a b))) []) := by
  have hP : Hid (rfAdd a b = wMod (rfadd0 (wMod a) (wMod b))) := ⟨rfl⟩
  refine c_call Try.func82 rfl Try.ntmps82 rfl LEN_ ?_
  refine S_ ?_
  refine c_region ?_
  refine s_memN (m_box BX_ LEN_) APP_ rfl ?_
  refine s_memN (m_box BX_ LEN_) APP_ rfl ?_
  refine s_memN (m_alloc al_42 LEN_) APP_ rfl ?_
  refine s_nil ?_
  have hQ1 : (wMod a).length = 4 := LQ_
  have hQ2 : (wMod b).length = 4 := LQ_
  have hQ3 : (rfadd0 (wMod a) (wMod b)).length = 4 := LQ_
  refine S_ ?_
  refine c_late 9 7 mixed (by kernel_rfl) (by kernel_rfl) rfl rfl rfl ?_
  refine h_val (v_loadR rfl rfl row_42 sz_42 EQ_ (by decide)) rfl ?_
  refine h_evN (e_callR (bs := []) (wMod_ev a HYP_) ok_99 (by kernel_rfl) (by kernel_rfl) rfl VAL_) APP_ rfl ?_
  refine h_val (v_loadR rfl rfl row_42 sz_42 EQ_ (by decide)) rfl ?_
  refine h_evN (e_callR (bs := []) (wMod_ev b HYP_) ok_99 (by kernel_rfl) (by kernel_rfl) rfl VAL_) APP_ rfl ?_
  refine h_evN (e_callR (bs := []) (rfadd_ev (wMod a) (wMod b) HYP_ HYP_) ok_94 (by kernel_rfl) (by kernel_rfl) rfl VAL_) APP_ rfl ?_
  refine h_val (v_moveT rfl) rfl ?_
  refine h_val (v_extract rfl rfl) rfl ?_
  refine h_val (v_extract rfl rfl) rfl ?_
  refine h_memN (m_alloc al_42 LEN_) APP_ rfl ?_
  refine h_nil ?_
  refine s_storeR rfl rfl rfl rfl sz_42 EQ_ EQ_ SET_ ?_
  refine s_val (v_assignC rfl) rfl ?_
  refine s_nil ?_
  refine S_ ?_
  refine c_region ?_
  refine s_val (v_moveC rfl) rfl ?_
  refine s_nil ?_
  have hQ4 : (wMod (rfadd0 (wMod a) (wMod b))).length = 4 := LQ_
  refine S_ ?_
  refine c_region ?_
  refine s_val (v_loadR rfl rfl row_42 sz_42 EQ_ (by decide)) rfl ?_
  refine s_evN (e_callR (bs := []) (wMod_ev (rfadd0 (wMod a) (wMod b)) HYP_) ok_99 (by kernel_rfl) (by kernel_rfl) rfl VAL_) APP_ rfl ?_
  refine s_storeR rfl rfl rfl rfl sz_42 EQ_ EQ_ SET_ ?_
  refine s_nil ?_
  refine S_ ?_
  rw [hP.out]
  exact k_1 (r_row rfl rfl row_42 sz_42 EQ_ (by decide)) (by first | kernel_rfl | rfl)
@[simp] theorem rfAdd_len (a : List (BitVec 64)) (b : List (BitVec 64)) (ha : a.length = 4) (hb : b.length = 4) : (rfAdd a b).length = 4 := by
  unfold rfAdd
  first | (simp (maxDischargeDepth := 9) [*]; done) | (simp (maxDischargeDepth := 9) [*]; omega) | (split <;> (simp (maxDischargeDepth := 9) [*]; done))
attribute [irreducible] rfAdd
end Go.Proofs.Ytcgncafhonlmlaa
namespace Go.Proofs.Ytcgncafhonlmlaa
open Go.RowKit
def wAdd (a b : List (BitVec 64)) : List (BitVec 64) := WF (ZW a + ZW b)
@[simp] theorem wAdd_len (a b : List (BitVec 64)) : (wAdd a b).length = 4 := rfl
theorem wAdd_same {a b : List (BitVec 64)} (ha : a.length = 4) (hb : b.length = 4) : rfAdd a b = wAdd a b := by
  unfold rfAdd wAdd wMod
  generalize ZW a = u
  generalize ZW b = v
  obtain ⟨e1, c1⟩ := rfadd_val (a := WF u) (b := WF v) rfl rfl
  congr 1
  rw [WF_val, WF_val] at e1
  have hu := u.isLt
  have hv := v.isLt
  change _ < 57896044618658097711785492504343953926634992332820282019728792003956564819949 at hu
  change _ < 57896044618658097711785492504343953926634992332820282019728792003956564819949 at hv
  have hw : wV (rfadd0 (WF u) (WF v)) = u.val + v.val := by omega
  unfold ZW
  rw [hw, zf_add, zf_self, zf_self]
theorem wAdd_ev (a : List (BitVec 64)) (b : List (BitVec 64)) (ha : a.length = 4) (hb : b.length = 4)  : Ev Try.prog (.call 82 [.agg (.a64 (a)), .agg (.a64 (b))] []) (.val (.agg (.a64 (wAdd a b))) [])  := by
  have h_ := rfAdd_ev a b ha hb
  rw [wAdd_same ha hb] at h_
  exact h_
end Go.Proofs.Ytcgncafhonlmlaa
namespace Go.Proofs.Ytcgncafhonlmlaa
open Go.RowKit
def rfD  : List (BitVec 64) := wMul (wSub (zer64 4) (put (zer64 4) 0 121665#64)) (wInv (put (zer64 4) 0 121666#64))
set_option maxRecDepth 100000 in
set_option maxHeartbeats 2000000 in
theorem rfD_ev   : Ev Try.prog (.call 83 [] []) (.val (.agg (.a64 (rfD))) []) := by
  have hP : Hid (rfD = wMul (wSub (zer64 4) (put (zer64 4) 0 121665#64)) (wInv (put (zer64 4) 0 121666#64))) := ⟨rfl⟩
  refine c_call Try.func83 rfl Try.ntmps83 rfl LEN_ ?_
  refine S_ ?_
  refine c_region ?_
  refine s_memN (m_alloc al_42 LEN_) APP_ rfl ?_
  refine s_nil ?_
  have hQ1 : (wSub (zer64 4) (put (zer64 4) 0 121665#64)).length = 4 := LQ_
  have hQ2 : (wInv (put (zer64 4) 0 121666#64)).length = 4 := LQ_
  have hQ3 : (wMul (wSub (zer64 4) (put (zer64 4) 0 121665#64)) (wInv (put (zer64 4) 0 121666#64))).length = 4 := LQ_
  refine S_ ?_
  refine c_region ?_
  refine s_val (v_blf64 (l := (zer64 4)) za_42 Try.underlying42 sz_40 rfl rfl) rfl ?_
  refine s_val (v_blf64 (l := (put (zer64 4) 0 (121665#64))) za_42 Try.underlying42 sz_40 rfl rfl) rfl ?_
  refine s_evN (e_callR (bs := []) (wSub_ev (zer64 4) (put (zer64 4) 0 121665#64) HYP_ HYP_) ok_80 (by kernel_rfl) (by kernel_rfl) rfl VAL_) APP_ rfl ?_
  refine s_val (v_blf64 (l := (put (zer64 4) 0 (121666#64))) za_42 Try.underlying42 sz_40 rfl rfl) rfl ?_
  refine s_evN (e_callR (bs := []) (wInv_ev (put (zer64 4) 0 121666#64) HYP_) ok_81 (by kernel_rfl) (by kernel_rfl) rfl VAL_) APP_ rfl ?_
  refine s_evN (e_callR (bs := []) (wMul_ev (wSub (zer64 4) (put (zer64 4) 0 121665#64)) (wInv (put (zer64 4) 0 121666#64)) HYP_ HYP_) ok_78 (by kernel_rfl) (by kernel_rfl) rfl VAL_) APP_ rfl ?_
  refine s_storeR rfl rfl rfl rfl sz_42 EQ_ EQ_ SET_ ?_
  refine s_nil ?_
  refine S_ ?_
  rw [hP.out]
  exact k_1 (r_row rfl rfl row_42 sz_42 EQ_ (by decide)) (by first | kernel_rfl | rfl)
@[simp] theorem rfD_len  : (rfD).length = 4 := by
  unfold rfD
  first | (simp (maxDischargeDepth := 9) [*]; done) | (simp (maxDischargeDepth := 9) [*]; omega) | (split <;> (simp (maxDischargeDepth := 9) [*]; done))
attribute [irreducible] rfD
def rfZero  : List (BitVec 64) := (zer64 4) ++ (put (zer64 4) 0 1#64) ++ (put (zer64 4) 0 1#64) ++ (zer64 4)
set_option maxRecDepth 100000 in
set_option maxHeartbeats 2000000 in
theorem rfZero_ev   : Ev Try.prog (.call 93 [] []) (.val (.agg (.a64 (rfZero))) []) := by
  have hP : Hid (rfZero = (zer64 4) ++ (put (zer64 4) 0 1#64) ++ (put (zer64 4) 0 1#64) ++ (zer64 4)) := ⟨rfl⟩
  refine c_call Try.func93 rfl Try.ntmps93 rfl LEN_ ?_
  refine S_ ?_
  refine c_region ?_
  refine s_memN (m_alloc al_64 LEN_) APP_ rfl ?_
  refine s_nil ?_
  refine S_ ?_
  refine c_region ?_
  refine s_val (v_blf64 (l := (zer64 4)) za_42 Try.underlying42 sz_40 rfl rfl) rfl ?_
  refine s_val (v_blf64 (l := (put (zer64 4) 0 (1#64))) za_42 Try.underlying42 sz_40 rfl rfl) rfl ?_
  refine s_val (v_blf64 (l := (put (zer64 4) 0 (1#64))) za_42 Try.underlying42 sz_40 rfl rfl) rfl ?_
  refine s_val (v_blf64 (l := (zer64 4)) za_42 Try.underlying42 sz_40 rfl rfl) rfl ?_
  refine s_val (v_bld4 rfl rfl rfl rfl (bs_64 EQL_ EQL_ EQL_ EQL_)) rfl ?_
  refine s_storeR rfl rfl rfl rfl sz_64 EQ_ EQ_ SET_ ?_
  refine s_nil ?_
  refine S_ ?_
  rw [hP.out]
  exact k_1 (r_row rfl rfl row_64 sz_64 EQ_ (by decide)) (by first | kernel_rfl | rfl)
@[simp] theorem rfZero_len  : (rfZero).length = 16 := by
  unfold rfZero
  first | (simp (maxDischargeDepth := 9) [*]; done) | (simp (maxDischargeDepth := 9) [*]; omega) | (split <;> (simp (maxDischargeDepth := 9) [*]; done))
attribute [irreducible] rfZero
end Go.Proofs.Ytcgncafhonlmlaa
namespace Go.Proofs.Ytcgncafhonlmlaa
open Go.RowKit
def rfL  : List (BitVec 64) := [6346243789798364141#64, 1503914060200516822#64, 0#64, 1152921504606846976#64]
set_option maxRecDepth 100000 in
set_option maxHeartbeats 2000000 in
theorem rfL_ev   : Ev Try.prog (.call 23 [] []) (.val (.agg (.a64 (rfL))) []) := by
  have hP : Hid (rfL = [6346243789798364141#64, 1503914060200516822#64, 0#64, 1152921504606846976#64]) := ⟨rfl⟩
  refine c_call Try.func23 rfl Try.ntmps23 rfl LEN_ ?_
  refine S_ ?_
  refine c_region ?_
  refine s_memN (m_alloc al_42 LEN_) APP_ rfl ?_
  refine s_nil ?_
  refine S_ ?_
  refine c_region ?_
  refine s_val (v_bld64 (l := [6346243789798364141#64, 1503914060200516822#64, 0#64, 1152921504606846976#64]) zc_42 Try.underlying42 sz_40 rfl rfl (by decide)) rfl ?_
  refine s_storeR rfl rfl rfl rfl sz_42 EQ_ EQ_ SET_ ?_
  refine s_nil ?_
  refine S_ ?_
  rw [hP.out]
  exact k_1 (r_row rfl rfl row_42 sz_42 EQ_ (by decide)) (by first | kernel_rfl | rfl)
@[simp] theorem rfL_len  : (rfL).length = 4 := by
  unfold rfL
  first | (simp [*]; done) | (simp [*]; omega)
attribute [irreducible] rfL
theorem rfL_val : wV rfL = L25519 := by unfold rfL; decide +kernel
end Go.Proofs.Ytcgncafhonlmlaa
namespace Go.Proofs.Ytcgncafhonlmlaa
open Go.RowKit
def rfModL_L3_S (t : List (BitVec 64)) (X1 : List (BitVec 64)) (j3 : Nat) : List (BitVec 64) := (if (!((rfsub1 (put (rfadd0 X1 X1) 0 ((nth (rfadd0 X1 X1) 0) ||| (((nth t ((511 - j3) / 64)) >>> (BitVec.ofNat 64 ((511 - j3) % 64)).toNat) &&& 1#64))) rfL) == 1#64)) = true then rfsub0 (put (rfadd0 X1 X1) 0 ((nth (rfadd0 X1 X1) 0) ||| (((nth t ((511 - j3) / 64)) >>> (BitVec.ofNat 64 ((511 - j3) % 64)).toNat) &&& 1#64))) rfL else put (rfadd0 X1 X1) 0 ((nth (rfadd0 X1 X1) 0) ||| (((nth t ((511 - j3) / 64)) >>> (BitVec.ofNat 64 ((511 - j3) % 64)).toNat) &&& 1#64)))
def rfModL_L3 (t : List (BitVec 64)) : Nat → List (BitVec 64)
  | 0 => zer64 4
  | j3 + 1 => rfModL_L3_S t (rfModL_L3 t j3) j3
theorem rfModL_L3_len (t : List (BitVec 64)) (ht : t.length = 8) (j3 : Nat) : (rfModL_L3 t j3).length = 4 := by
  induction j3 with
  | zero => first | (simp (maxDischargeDepth := 9) [rfModL_L3, *]; done) | (simp (maxDischargeDepth := 9) [rfModL_L3, *]; omega)
  | succ j3 ih => rw [rfModL_L3.eq_2, rfModL_L3_S]; first | (simp (maxDischargeDepth := 9) [ih]; done) | (simp (maxDischargeDepth := 9) [ih]; omega) | (simp (maxDischargeDepth := 9) [*]; done) | (simp (maxDischargeDepth := 9) [*]; omega) | (split <;> first | (simp (maxDischargeDepth := 9) [ih]; done) | (simp (maxDischargeDepth := 9) [ih]; omega) | (simp (maxDischargeDepth := 9) [*]; done))
def rfModL (t : List (BitVec 64)) : List (BitVec 64) := (rfModL_L3 t 512)
set_option maxRecDepth 100000 in
set_option maxHeartbeats 2000000 in
theorem rfModL_ev (t : List (BitVec 64)) (ht : t.length = 8) : Ev Try.prog (.call 60 [.agg (.a64 (t))] []) (.val (.agg (.a64 (rfModL t))) []) := by
  have hP : Hid (rfModL t = (rfModL_L3 t 512)) := ⟨rfl⟩
  refine c_call Try.func60 rfl Try.ntmps60 rfl LEN_ ?_
  refine S_ ?_
  refine c_region ?_
  refine s_memN (m_box BX_ LEN_) APP_ rfl ?_
  refine s_memN (m_alloc al_42 LEN_) APP_ rfl ?_
  refine s_nil ?_
  refine S_ ?_
  refine c_region ?_
  refine s_memN (m_alloc al_42 LEN_) APP_ rfl ?_
  refine s_nil ?_
  refine S_ ?_
  refine c_region ?_
  refine s_val (v_assignC rfl) rfl ?_
  refine s_nil ?_
  refine S_ ?_
  refine c_loopC [1, 2, 3, 4] (fun (zz : Nat × List (BitVec 64)) => ⟨39, keepT [1, 2, 3, 4] [.c (.ptr 0 0), .c (.ptr 1 0), .c (.ptr 2 0), .c (.val (.int .i64 (((511 : Nat) : Int) - ((zz.1 : Nat) : Int))))], [.row true (.a64 (t)), .row true (.a64 (zer64 4)), .row true (.a64 (zz.2))]⟩) (fun j3 => (j3, rfModL_L3 t j3)) (512) (by kernel_rfl) ?_ ?_
  · intro j3 hj3
    try dsimp only
    have hX1 : (rfModL_L3 t j3).length = 4 := by rw [rfModL_L3_len t ht _]; try omega
    rw [rfModL_L3.eq_2, rfModL_L3_S]
    generalize rfModL_L3 t j3 = X1 at *
    rw [show ((511 : Nat) : Int) - ((j3 : Nat) : Int) = ((511 - j3 : Nat) : Int) from by omega]
    refine S_ ?_
    refine c_region ?_
    refine s_val (v_moveC rfl) rfl ?_
    refine s_val (v_geqN (b := 0) rfl rfl) rfl ?_
    refine s_nil ?_
    have hQ2 : (rfadd0 X1 X1).length = 4 := LQ_
    refine S_ ?_
    refine c_region ?_
    refine s_val (v_loadR rfl rfl row_42 sz_42 EQ_ (by decide)) rfl ?_
    refine s_val (v_loadR rfl rfl row_42 sz_42 EQ_ (by decide)) rfl ?_
    refine s_evN (e_callR (bs := []) (rfadd_ev X1 X1 HYP_ HYP_) ok_94 (by kernel_rfl) (by kernel_rfl) rfl VAL_) APP_ rfl ?_
    refine s_val (v_moveT rfl) rfl ?_
    refine s_val (v_extract rfl rfl) rfl ?_
    refine s_val (v_extract rfl rfl) rfl ?_
    refine s_storeR rfl rfl rfl rfl sz_42 EQ_ EQ_ SET_ ?_
    refine s_nil ?_
    refine S_ ?_
    refine c_draw 13 mixed (by kernel_rfl) rfl rfl rfl ?_
    refine h_val (v_idxA1 (j := 0) rfl rfl Try.underlying42 sz_40 (by omega)) rfl ?_
    refine h_val (v_load64 rfl rfl row_40 LT_) rfl ?_
    refine h_val (v_moveC rfl) rfl ?_
    refine h_val (v_quoN (b := 64) rfl rfl (by omega) (by omega)) rfl ?_
    refine h_val (v_idxA1 rfl rfl Try.underlying83 sz_40 (by omega)) rfl ?_
    refine h_val (v_load64 rfl rfl row_40 LT_) rfl ?_
    refine h_val (v_moveC rfl) rfl ?_
    refine h_val (v_remN (b := 64) rfl rfl (by omega) (by omega)) rfl ?_
    refine h_val (v_conv rfl Try.underlying3 Try.underlying72 (wi_64 _)) rfl ?_
    refine h_val (v_shr64w rfl rfl) rfl ?_
    refine h_val (v_and64 (b := 1#64) rfl rfl) rfl ?_
    refine h_val (v_or64 rfl rfl) rfl ?_
    refine h_val (v_idxA1 (j := 0) rfl rfl Try.underlying42 sz_40 (by omega)) rfl ?_
    refine h_nil ?_
    refine s_store64 rfl rfl rfl sz_40 LT_ SET_ ?_
    refine s_nil ?_
    have hQ3 : (rfL).length = 4 := LQ_
    refine S_ ?_
    refine c_draw 4 mixed (by kernel_rfl) rfl rfl rfl ?_
    refine h_val (v_loadR rfl rfl row_42 sz_42 EQ_ (by decide)) rfl ?_
    refine h_evN (e_callR (bs := []) (rfL_ev) ok_23 (by kernel_rfl) (by kernel_rfl) rfl VAL_) APP_ rfl ?_
    refine h_evN (e_callR (bs := []) (rfless_ev (put (rfadd0 X1 X1) 0 ((nth (rfadd0 X1 X1) 0) ||| (((nth t ((511 - j3) / 64)) >>> (BitVec.ofNat 64 ((511 - j3) % 64)).toNat) &&& 1#64))) rfL HYP_ HYP_) ok_76 (by kernel_rfl) (by kernel_rfl) rfl VAL_) APP_ rfl ?_
    refine h_val (v_unnotB rfl) rfl ?_
    refine h_nil ?_
    refine s_nil ?_
    refine Q_ ?_
    refine c_join [1, 2, 3, 4] (fun (zz : List (BitVec 64)) => ⟨39, keepT [1, 2, 3, 4] [.c (.ptr 0 0), .c (.ptr 1 0), .c (.ptr 2 0), .c (.val (.int .i64 (((511 - j3 : Nat) : Int))))], [.row true (.a64 (t)), .row true (.a64 (zer64 4)), .row true (.a64 (zz))]⟩) (if (!((rfsub1 (put (rfadd0 X1 X1) 0 ((nth (rfadd0 X1 X1) 0) ||| (((nth t ((511 - j3) / 64)) >>> (BitVec.ofNat 64 ((511 - j3) % 64)).toNat) &&& 1#64))) rfL) == 1#64)) = true then rfsub0 (put (rfadd0 X1 X1) 0 ((nth (rfadd0 X1 X1) 0) ||| (((nth t ((511 - j3) / 64)) >>> (BitVec.ofNat 64 ((511 - j3) % 64)).toNat) &&& 1#64))) rfL else put (rfadd0 X1 X1) 0 ((nth (rfadd0 X1 X1) 0) ||| (((nth t ((511 - j3) / 64)) >>> (BitVec.ofNat 64 ((511 - j3) % 64)).toNat) &&& 1#64))) rfl (fun hb => ?_) (fun hb => ?_) ?_
    · -- the test is True
      have hQ5 : (rfL).length = 4 := LQ_
      have hQ6 : (rfsub0 (put (rfadd0 X1 X1) 0 ((nth (rfadd0 X1 X1) 0) ||| (((nth t ((511 - j3) / 64)) >>> (BitVec.ofNat 64 ((511 - j3) % 64)).toNat) &&& 1#64))) rfL).length = 4 := LQ_
      refine S_ ?_
      refine c_late 6 5 mixed (by kernel_rfl) (by kernel_rfl) rfl rfl rfl ?_
      refine h_val (v_loadR rfl rfl row_42 sz_42 EQ_ (by decide)) rfl ?_
      refine h_evN (e_callR (bs := []) (rfL_ev) ok_23 (by kernel_rfl) (by kernel_rfl) rfl VAL_) APP_ rfl ?_
      refine h_evN (e_callR (bs := []) (rfsub_ev (put (rfadd0 X1 X1) 0 ((nth (rfadd0 X1 X1) 0) ||| (((nth t ((511 - j3) / 64)) >>> (BitVec.ofNat 64 ((511 - j3) % 64)).toNat) &&& 1#64))) rfL HYP_ HYP_) ok_95 (by kernel_rfl) (by kernel_rfl) rfl VAL_) APP_ rfl ?_
      refine h_val (v_moveT rfl) rfl ?_
      refine h_val (v_extract rfl rfl) rfl ?_
      refine h_val (v_extract rfl rfl) rfl ?_
      refine h_nil ?_
      refine s_storeR rfl rfl rfl rfl sz_42 EQ_ EQ_ SET_ ?_
      refine s_nil ?_
      refine S_ ?_
      refine ⟨(rfsub0 (put (rfadd0 X1 X1) 0 ((nth (rfadd0 X1 X1) 0) ||| (((nth t ((511 - j3) / 64)) >>> (BitVec.ofNat 64 ((511 - j3) % 64)).toNat) &&& 1#64))) rfL), by kernel_rfl, ?_⟩
      rw [if_pos (hb)]
    · -- the test is False
      refine S_ ?_
      refine ⟨(put (rfadd0 X1 X1) 0 ((nth (rfadd0 X1 X1) 0) ||| (((nth t ((511 - j3) / 64)) >>> (BitVec.ofNat 64 ((511 - j3) % 64)).toNat) &&& 1#64))), by kernel_rfl, ?_⟩
      rw [if_neg (by first | (rw [hb]; decide) | simp [hb])]
    have hJ4 : (if (!((rfsub1 (put (rfadd0 X1 X1) 0 ((nth (rfadd0 X1 X1) 0) ||| (((nth t ((511 - j3) / 64)) >>> (BitVec.ofNat 64 ((511 - j3) % 64)).toNat) &&& 1#64))) rfL) == 1#64)) = true then rfsub0 (put (rfadd0 X1 X1) 0 ((nth (rfadd0 X1 X1) 0) ||| (((nth t ((511 - j3) / 64)) >>> (BitVec.ofNat 64 ((511 - j3) % 64)).toNat) &&& 1#64))) rfL else put (rfadd0 X1 X1) 0 ((nth (rfadd0 X1 X1) 0) ||| (((nth t ((511 - j3) / 64)) >>> (BitVec.ofNat 64 ((511 - j3) % 64)).toNat) &&& 1#64))).length = 4 := by split <;> simp [*]
    generalize (if (!((rfsub1 (put (rfadd0 X1 X1) 0 ((nth (rfadd0 X1 X1) 0) ||| (((nth t ((511 - j3) / 64)) >>> (BitVec.ofNat 64 ((511 - j3) % 64)).toNat) &&& 1#64))) rfL) == 1#64)) = true then rfsub0 (put (rfadd0 X1 X1) 0 ((nth (rfadd0 X1 X1) 0) ||| (((nth t ((511 - j3) / 64)) >>> (BitVec.ofNat 64 ((511 - j3) % 64)).toNat) &&& 1#64))) rfL else put (rfadd0 X1 X1) 0 ((nth (rfadd0 X1 X1) 0) ||| (((nth t ((511 - j3) / 64)) >>> (BitVec.ofNat 64 ((511 - j3) % 64)).toNat) &&& 1#64))) = J4 at *
    refine S_ ?_
    refine c_region ?_
    refine s_val (v_moveC rfl) rfl ?_
    first
      | refine s_val (v_subN (b := 1) rfl rfl (by omega) (by omega)) rfl ?_
      | refine s_val (v_subI rfl rfl (by omega)) rfl ?_
    refine s_val (v_assignC rfl) rfl ?_
    refine s_nil ?_
    refine ⟨(j3 + 1, _), (by
      dsimp only
      rw [show ((511 : Nat) : Int) - ((j3 + 1 : Nat) : Int) = ((511 - j3 : Nat) : Int) - 1 from by omega]
      kernel_rfl), rfl⟩
  · try dsimp only
    have hY7 : (rfModL_L3 t 512).length = 4 := by rw [rfModL_L3_len t ht _]; try omega
    generalize rfModL_L3 t 512 = Y7 at *
    refine S_ ?_
    refine c_region ?_
    refine s_val (v_moveC rfl) rfl ?_
    refine s_val (v_geqI rfl rfl) rfl ?_
    refine s_nil ?_
    refine S_ ?_
    refine c_region ?_
    refine s_val (v_loadR rfl rfl row_42 sz_42 EQ_ (by decide)) rfl ?_
    refine s_storeR rfl rfl rfl rfl sz_42 EQ_ EQ_ SET_ ?_
    refine s_nil ?_
    refine S_ ?_
    rw [hP.out]
    exact k_1 (r_row rfl rfl row_42 sz_42 EQ_ (by decide)) (by first | kernel_rfl | rfl)
@[simp] theorem rfModL_len (t : List (BitVec 64)) (ht : t.length = 8) : (rfModL t).length = 4 := by
  unfold rfModL
  first | (simp (maxDischargeDepth := 9) [rfModL_L3_len, *]; done) | (simp (maxDischargeDepth := 9) [rfModL_L3_len, *]; omega) | (split <;> (simp (maxDischargeDepth := 9) [rfModL_L3_len, *]; done))
attribute [irreducible] rfModL
end Go.Proofs.Ytcgncafhonlmlaa
namespace Go.Proofs.Ytcgncafhonlmlaa
open Go.RowKit
def rfModB_L3_S (b : List (BitVec 8)) (X1 : List (BitVec 64)) (j3 : Nat) : List (BitVec 64) := put X1 (j3 / 8) ((nth X1 (j3 / 8)) ||| (((nth b j3).setWidth 64) <<< (BitVec.ofNat 64 (8 * (j3 % 8))).toNat))
def rfModB_L3 (b : List (BitVec 8)) : Nat → List (BitVec 64)
  | 0 => zer64 8
  | j3 + 1 => rfModB_L3_S b (rfModB_L3 b j3) j3
@[simp] theorem rfModB_L3_len (b : List (BitVec 8)) (j3 : Nat) : (rfModB_L3 b j3).length = 8 := by
  induction j3 with
  | zero => first | (simp [rfModB_L3, *]; done) | (simp [rfModB_L3, *]; omega)
  | succ j3 ih => rw [rfModB_L3.eq_2, rfModB_L3_S]; first | (simp [ih]; done) | (simp [ih]; omega) | (simp [*]; done) | (simp [*]; omega) | (split <;> first | (simp [ih]; done) | (simp [ih]; omega) | (simp [*]; done))
def rfModB (b : List (BitVec 8)) : List (BitVec 8) := rB (rfModL (rfModB_L3 b b.length))
set_option maxRecDepth 100000 in
set_option maxHeartbeats 2000000 in
theorem rfModB_ev (b : List (BitVec 8)) (n : Nat) (cap : Nat) (hb : b.length = n) (hn : n ≤ 1099511627776) (hN : n ≤ 64) : Ev Try.prog (.call 30 [.c (.sl 0 0 n cap 1)] [.row false (.a8 (b))]) (.val (.agg (.a8 (rfModB b))) [.row false (.a8 (b))]) := by
  have hP : Hid (rfModB b = rB (rfModL (rfModB_L3 b b.length))) := ⟨rfl⟩
  subst hb
  refine c_call Try.func30 rfl Try.ntmps30 rfl LEN_ ?_
  refine S_ ?_
  refine c_region ?_
  refine s_memN (m_alloc al_22 LEN_) APP_ rfl ?_
  refine s_nil ?_
  refine S_ ?_
  refine c_region ?_
  refine s_memN (m_alloc al_83 LEN_) APP_ rfl ?_
  refine s_nil ?_
  refine S_ ?_
  refine c_region ?_
  refine s_val (v_assignC rfl) rfl ?_
  refine s_nil ?_
  refine S_ ?_
  refine c_loopC [0, 2, 3, 4] (fun (zz : Nat × List (BitVec 64)) => ⟨30, keepT [0, 2, 3, 4] [.c (.sl 0 0 b.length cap 1), .c (.ptr 1 0), .c (.ptr 2 0), .c (.val (.int .i64 (((zz.1 : Nat) : Int))))], [.row false (.a8 (b)), .row true (.a8 (zer8 32)), .row true (.a64 (zz.2))]⟩) (fun j3 => (j3, rfModB_L3 b j3)) (b.length) (by kernel_rfl) ?_ ?_
  · intro j3 hj3
    try dsimp only
    have hX1 : (rfModB_L3 b j3).length = 8 := by rw [rfModB_L3_len b _]; try omega
    rw [rfModB_L3.eq_2, rfModB_L3_S]
    generalize rfModB_L3 b j3 = X1 at *
    refine S_ ?_
    refine c_region ?_
    refine s_val (v_moveC rfl) rfl ?_
    refine s_val (v_moveC rfl) rfl ?_
    refine s_val (v_lenS rfl Try.underlying23) rfl ?_
    refine s_val (v_lssN rfl rfl) rfl ?_
    refine s_nil ?_
    refine S_ ?_
    refine c_draw 16 mixed (by kernel_rfl) rfl rfl rfl ?_
    refine h_val (v_moveC rfl) rfl ?_
    refine h_val (v_quoN (b := 8) rfl rfl (by omega) (by omega)) rfl ?_
    refine h_val (v_idxA1 rfl rfl Try.underlying83 sz_40 (by omega)) rfl ?_
    refine h_val (v_load64 rfl rfl row_40 LT_) rfl ?_
    refine h_val (v_moveC rfl) rfl ?_
    refine h_val (v_moveC rfl) rfl ?_
    refine h_val (v_idxS1 rfl rfl Try.underlying23 sz_5 (by omega)) rfl ?_
    refine h_val (v_load8 rfl rfl row_5 LT_) rfl ?_
    refine h_val (v_conv rfl Try.underlying5 Try.underlying40 (w8_64 _)) rfl ?_
    refine h_val (v_moveC rfl) rfl ?_
    refine h_val (v_remN (b := 8) rfl rfl (by omega) (by omega)) rfl ?_
    refine h_val (v_mulN (a := 8) rfl rfl (by omega)) rfl ?_
    refine h_val (v_conv rfl Try.underlying3 Try.underlying72 (wi_64 _)) rfl ?_
    refine h_val (v_shl64w rfl rfl) rfl ?_
    refine h_val (v_or64 rfl rfl) rfl ?_
    refine h_val (v_idxA1 rfl rfl Try.underlying83 sz_40 (by omega)) rfl ?_
    refine h_nil ?_
    refine s_store64 rfl rfl rfl sz_40 LT_ SET_ ?_
    refine s_nil ?_
    refine S_ ?_
    refine c_region ?_
    refine s_val (v_moveC rfl) rfl ?_
    refine s_val (v_addN (b := 1) rfl rfl (by omega)) rfl ?_
    refine s_val (v_assignC rfl) rfl ?_
    refine s_nil ?_
    exact ⟨(j3 + 1, _), by kernel_rfl, rfl⟩
  · try dsimp only
    have hY2 : (rfModB_L3 b b.length).length = 8 := by rw [rfModB_L3_len b _]; try omega
    generalize rfModB_L3 b b.length = Y2 at *
    refine S_ ?_
    refine c_region ?_
    refine s_val (v_moveC rfl) rfl ?_
    refine s_val (v_moveC rfl) rfl ?_
    refine s_val (v_lenS rfl Try.underlying23) rfl ?_
    refine s_val (v_lssN rfl rfl) rfl ?_
    refine s_nil ?_
    have hQ3 : (rfModL Y2).length = 4 := LQ_
    have hQ4 : (rB (rfModL Y2)).length = 32 := LQ_
    refine S_ ?_
    refine c_region ?_
    refine s_val (v_loadR rfl rfl row_83 sz_83 EQ_ (by decide)) rfl ?_
    refine s_evN (e_callR (bs := []) (rfModL_ev Y2 HYP_) ok_60 (by kernel_rfl) (by kernel_rfl) rfl VAL_) APP_ rfl ?_
    refine s_evN (e_callR (bs := []) (rB_ev (rfModL Y2) HYP_) ok_21 (by kernel_rfl) (by kernel_rfl) rfl VAL_) APP_ rfl ?_
    refine s_storeR rfl rfl rfl rfl sz_22 EQ_ EQ_ SET_ ?_
    refine s_nil ?_
    refine S_ ?_
    rw [hP.out]
    exact k_1 (r_row rfl rfl row_22 sz_22 EQ_ (by decide)) (by first | kernel_rfl | rfl)
@[simp] theorem rfModB_len (b : List (BitVec 8)) : (rfModB b).length = 32 := by
  unfold rfModB
  first | (simp [rfModB_L3_len, *]; done) | (simp [rfModB_L3_len, *]; omega)
attribute [irreducible] rfModB
end Go.Proofs.Ytcgncafhonlmlaa
namespace Go.Proofs.Ytcgncafhonlmlaa
open Go.RowKit
def rfMA_L5_S (c : List (BitVec 8)) (X5 : BitVec 64) (X6 : List (BitVec 64)) (j5 : Nat) : BitVec 64 × List (BitVec 64) := (addC (nth X6 j5) (if j5 < 4 then nth (rfOf c) j5 else 0#64) X5, put X6 j5 ((nth X6 j5) + (if j5 < 4 then nth (rfOf c) j5 else 0#64) + X5))
def rfMA_L5 (a : List (BitVec 8)) (b : List (BitVec 8)) (c : List (BitVec 8)) : Nat → BitVec 64 × List (BitVec 64)
  | 0 => (0#64, rfTimes (rfOf a) (rfOf b))
  | j5 + 1 => rfMA_L5_S c (rfMA_L5 a b c j5).1 (rfMA_L5 a b c j5).2 j5
theorem rfMA_L5_len1 (a : List (BitVec 8)) (b : List (BitVec 8)) (c : List (BitVec 8)) (ha : a.length = 32) (hb : b.length = 32) (hc : c.length = 32) (j5 : Nat) : (rfMA_L5 a b c j5).2.length = 8 := by
  induction j5 with
  | zero => first | (simp (maxDischargeDepth := 9) [rfMA_L5, *]; done) | (simp (maxDischargeDepth := 9) [rfMA_L5, *]; omega)
  | succ j5 ih => rw [rfMA_L5.eq_2, rfMA_L5_S]; first | (simp (maxDischargeDepth := 9) [ih]; done) | (simp (maxDischargeDepth := 9) [ih]; omega) | (simp (maxDischargeDepth := 9) [*]; done) | (simp (maxDischargeDepth := 9) [*]; omega) | (split <;> first | (simp (maxDischargeDepth := 9) [ih]; done) | (simp (maxDischargeDepth := 9) [ih]; omega) | (simp (maxDischargeDepth := 9) [*]; done))
def rfMA (a : List (BitVec 8)) (b : List (BitVec 8)) (c : List (BitVec 8)) : List (BitVec 8) := rB (rfModL ((rfMA_L5 a b c 8).2))
theorem rfMA_c (a b c : List (BitVec 8)) (j : Nat) : (rfMA_L5 a b c j).1.toNat ≤ 1 := by
  induction j with
  | zero => show (0#64).toNat ≤ 1; decide
  | succ j ih => rw [rfMA_L5.eq_2, rfMA_L5_S]; exact addC_le _ _ _ ih
set_option maxRecDepth 100000 in
set_option maxHeartbeats 2000000 in
theorem rfMA_ev (a : List (BitVec 8)) (b : List (BitVec 8)) (c : List (BitVec 8)) (ha : a.length = 32) (hb : b.length = 32) (hc : c.length = 32) : Ev Try.prog (.call 31 [.agg (.a8 (a)), .agg (.a8 (b)), .agg (.a8 (c))] []) (.val (.agg (.a8 (rfMA a b c))) []) := by
  have hP : Hid (rfMA a b c = rB (rfModL ((rfMA_L5 a b c 8).2))) := ⟨rfl⟩
  refine c_call Try.func31 rfl Try.ntmps31 rfl LEN_ ?_
  refine S_ ?_
  refine c_region ?_
  refine s_memN (m_box BX_ LEN_) APP_ rfl ?_
  refine s_memN (m_box BX_ LEN_) APP_ rfl ?_
  refine s_memN (m_box BX_ LEN_) APP_ rfl ?_
  refine s_memN (m_alloc al_22 LEN_) APP_ rfl ?_
  refine s_nil ?_
  have hQ1 : (rfOf a).length = 4 := LQ_
  have hQ2 : (rfOf b).length = 4 := LQ_
  have hQ3 : (rfTimes (rfOf a) (rfOf b)).length = 8 := LQ_
  refine S_ ?_
  refine c_draw 6 mixed (by kernel_rfl) rfl rfl rfl ?_
  refine h_val (v_loadR rfl rfl row_22 sz_22 EQ_ (by decide)) rfl ?_
  refine h_evN (e_callR (bs := []) (rfOf_ev a HYP_) ok_55 (by kernel_rfl) (by kernel_rfl) rfl VAL_) APP_ rfl ?_
  refine h_val (v_loadR rfl rfl row_22 sz_22 EQ_ (by decide)) rfl ?_
  refine h_evN (e_callR (bs := []) (rfOf_ev b HYP_) ok_55 (by kernel_rfl) (by kernel_rfl) rfl VAL_) APP_ rfl ?_
  refine h_evN (e_callR (bs := []) (rfTimes_ev (rfOf a) (rfOf b) HYP_ HYP_) ok_61 (by kernel_rfl) (by kernel_rfl) rfl VAL_) APP_ rfl ?_
  refine h_memN (m_alloc al_83 LEN_) APP_ rfl ?_
  refine h_nil ?_
  refine s_storeR rfl rfl rfl rfl sz_83 EQ_ EQ_ SET_ ?_
  refine s_nil ?_
  have hQ4 : (rfOf c).length = 4 := LQ_
  refine S_ ?_
  refine c_region ?_
  refine s_val (v_loadR rfl rfl row_22 sz_22 EQ_ (by decide)) rfl ?_
  refine s_evN (e_callR (bs := []) (rfOf_ev c HYP_) ok_55 (by kernel_rfl) (by kernel_rfl) rfl VAL_) APP_ rfl ?_
  refine s_memN (m_alloc al_42 LEN_) APP_ rfl ?_
  refine s_storeR rfl rfl rfl rfl sz_42 EQ_ EQ_ SET_ ?_
  refine s_nil ?_
  refine S_ ?_
  refine c_region ?_
  refine s_val (v_assignC rfl) rfl ?_
  refine s_nil ?_
  refine S_ ?_
  refine c_region ?_
  refine s_val (v_assignC rfl) rfl ?_
  refine s_nil ?_
  refine S_ ?_
  refine c_loopC [6, 7, 8, 9, 10] (fun (zz : Nat × BitVec 64 × List (BitVec 64)) => ⟨42, keepT [6, 7, 8, 9, 10] [.c (.ptr 0 0), .c (.ptr 1 0), .c (.ptr 2 0), .c (.val (U64 (zz.2.1))), .c (.val (.int .i64 (((zz.1 : Nat) : Int))))], [.row true (.a8 (zer8 32)), .row true (.a64 (zz.2.2)), .row true (.a64 (rfOf c))]⟩) (fun j5 => (j5, rfMA_L5 a b c j5)) (8) (by kernel_rfl) ?_ ?_
  · intro j5 hj5
    try dsimp only
    have hX6 : (rfMA_L5 a b c j5).2.length = 8 := by rw [rfMA_L5_len1 a b c ha hb hc _]; try omega
    have hcc := rfMA_c a b c j5
    rw [rfMA_L5.eq_2, rfMA_L5_S]
    generalize rfMA_L5 a b c j5 = Z7 at *
    obtain ⟨X5, X6⟩ := Z7
    try dsimp only at *
    refine S_ ?_
    refine c_region ?_
    refine s_val (v_moveC rfl) rfl ?_
    refine s_val (v_lssN (b := 8) rfl rfl) rfl ?_
    refine s_nil ?_
    refine S_ ?_
    refine c_region ?_
    refine s_val (v_assignC rfl) rfl ?_
    refine s_nil ?_
    refine S_ ?_
    refine c_region ?_
    refine s_val (v_moveC rfl) rfl ?_
    refine s_val (v_lssN (b := 4) rfl rfl) rfl ?_
    refine s_nil ?_
    refine Q_ ?_
    refine c_join [6, 7, 8, 9, 10, 11] (fun (zz : BitVec 64) => ⟨42, keepT [6, 7, 8, 9, 10, 11] [.c (.ptr 0 0), .c (.ptr 1 0), .c (.ptr 2 0), .c (.val (U64 (X5))), .c (.val (.int .i64 (((j5 : Nat) : Int)))), .c (.val (U64 (zz)))], [.row true (.a8 (zer8 32)), .row true (.a64 (X6)), .row true (.a64 (rfOf c))]⟩) (if j5 < 4 then nth (rfOf c) j5 else 0#64) rfl (fun hb => ?_) (fun hb => ?_) ?_
    · -- the test is True
      have hb_ := of_decide_eq_true hb
      refine S_ ?_
      refine c_region ?_
      refine s_val (v_moveC rfl) rfl ?_
      refine s_val (v_idxA1 rfl rfl Try.underlying42 sz_40 (by omega)) rfl ?_
      refine s_val (v_load64 rfl rfl row_40 LT_) rfl ?_
      refine s_val (v_assignC rfl) rfl ?_
      refine s_nil ?_
      refine S_ ?_
      refine ⟨(nth (rfOf c) j5), by kernel_rfl, ?_⟩
      rw [if_pos (of_decide_eq_true hb)]
    · -- the test is False
      have hb_ := of_decide_eq_false hb
      refine S_ ?_
      refine ⟨0#64, by kernel_rfl, ?_⟩
      rw [if_neg (of_decide_eq_false hb)]
    generalize (if j5 < 4 then nth (rfOf c) j5 else 0#64) = J8 at *
    refine S_ ?_
    refine c_region ?_
    refine s_val (v_moveC rfl) rfl ?_
    refine s_val (v_moveC rfl) rfl ?_
    refine s_val (v_idxA1 rfl rfl Try.underlying83 sz_40 (by omega)) rfl ?_
    refine s_val (v_load64 rfl rfl row_40 LT_) rfl ?_
    refine s_val (v_moveC rfl) rfl ?_
    refine s_val (v_moveC rfl) rfl ?_
    refine s_evN (e_add ext_62 rfl rfl rfl (rfl : _ = U64 (X5)) (by repeat (first | decide | assumption | apply addC_le | apply subC_le))) APP_ rfl ?_
    refine s_val (v_moveT rfl) rfl ?_
    refine s_val (v_extract rfl rfl) rfl ?_
    refine s_val (v_extract rfl rfl) rfl ?_
    refine s_val (v_idxA1 rfl rfl Try.underlying83 sz_40 (by omega)) rfl ?_
    refine s_store64 rfl rfl rfl sz_40 LT_ SET_ ?_
    refine s_val (v_assignC rfl) rfl ?_
    refine s_nil ?_
    refine S_ ?_
    refine c_region ?_
    refine s_val (v_moveC rfl) rfl ?_
    refine s_val (v_addN (b := 1) rfl rfl (by omega)) rfl ?_
    refine s_val (v_assignC rfl) rfl ?_
    refine s_nil ?_
    exact ⟨(j5 + 1, _), by kernel_rfl, rfl⟩
  · try dsimp only
    have hY10 : (rfMA_L5 a b c 8).2.length = 8 := by rw [rfMA_L5_len1 a b c ha hb hc _]; try omega
    have hcc := rfMA_c a b c 8
    generalize rfMA_L5 a b c 8 = Z11 at *
    obtain ⟨Y9, Y10⟩ := Z11
    try dsimp only at *
    refine S_ ?_
    refine c_region ?_
    refine s_val (v_moveC rfl) rfl ?_
    refine s_val (v_lssN (a := 8) (b := 8) rfl rfl) rfl ?_
    refine s_nil ?_
    have hQ12 : (rfModL Y10).length = 4 := LQ_
    have hQ13 : (rB (rfModL Y10)).length = 32 := LQ_
    refine S_ ?_
    refine c_region ?_
    refine s_val (v_loadR rfl rfl row_83 sz_83 EQ_ (by decide)) rfl ?_
    refine s_evN (e_callR (bs := []) (rfModL_ev Y10 HYP_) ok_60 (by kernel_rfl) (by kernel_rfl) rfl VAL_) APP_ rfl ?_
    refine s_evN (e_callR (bs := []) (rB_ev (rfModL Y10) HYP_) ok_21 (by kernel_rfl) (by kernel_rfl) rfl VAL_) APP_ rfl ?_
    refine s_storeR rfl rfl rfl rfl sz_22 EQ_ EQ_ SET_ ?_
    refine s_nil ?_
    refine S_ ?_
    rw [hP.out]
    exact k_1 (r_row rfl rfl row_22 sz_22 EQ_ (by decide)) (by first | kernel_rfl | rfl)
@[simp] theorem rfMA_len (a : List (BitVec 8)) (b : List (BitVec 8)) (c : List (BitVec 8)) (ha : a.length = 32) (hb : b.length = 32) (hc : c.length = 32) : (rfMA a b c).length = 32 := by
  unfold rfMA
  first | (simp (maxDischargeDepth := 9) [rfMA_L5_len1, *]; done) | (simp (maxDischargeDepth := 9) [rfMA_L5_len1, *]; omega) | (split <;> (simp (maxDischargeDepth := 9) [rfMA_L5_len1, *]; done))
attribute [irreducible] rfMA
set_option maxRecDepth 100000 in
set_option maxHeartbeats 2000000 in
theorem rfBelow_ev (n : List (BitVec 8)) (hn : n.length = 32) : Ev Try.prog (.call 39 [.agg (.a8 (n))] []) (.val (.c (.val (.bool ((rfsub1 (rfOf n) rfL) == 1#64)))) []) := by
  refine c_call Try.func39 rfl Try.ntmps39 rfl LEN_ ?_
  refine S_ ?_
  refine c_region ?_
  refine s_memN (m_box BX_ LEN_) APP_ rfl ?_
  refine s_val (v_assignC rfl) rfl ?_
  refine s_nil ?_
  have hQ1 : (rfOf n).length = 4 := LQ_
  have hQ2 : (rfL).length = 4 := LQ_
  refine S_ ?_
  refine c_region ?_
  refine s_val (v_loadR rfl rfl row_22 sz_22 EQ_ (by decide)) rfl ?_
  refine s_evN (e_callR (bs := []) (rfOf_ev n HYP_) ok_55 (by kernel_rfl) (by kernel_rfl) rfl VAL_) APP_ rfl ?_
  refine s_evN (e_callR (bs := []) (rfL_ev) ok_23 (by kernel_rfl) (by kernel_rfl) rfl VAL_) APP_ rfl ?_
  refine s_evN (e_callR (bs := []) (rfless_ev (rfOf n) rfL HYP_ HYP_) ok_76 (by kernel_rfl) (by kernel_rfl) rfl VAL_) APP_ rfl ?_
  refine s_val (v_assignC rfl) rfl ?_
  refine s_nil ?_
  refine S_ ?_
  exact k_1 (by first | exact r_tmpC rfl | exact r_tmpA rfl) (by first | kernel_rfl | rfl)
end Go.Proofs.Ytcgncafhonlmlaa
namespace Go.Proofs.Ytcgncafhonlmlaa
open Go.RowKit
theorem or_even (x b : BitVec 64) (hx : x.toNat % 2 = 0) (hb : b.toNat < 2) : (x ||| b).toNat = x.toNat + b.toNat := by
  have e : (x >>> 1) <<< 1 = x := by
    apply BitVec.eq_of_toNat_eq
    rw [BitVec.toNat_shiftLeft, BitVec.toNat_ushiftRight, Nat.shiftLeft_eq, Nat.shiftRight_eq_div_pow]
    have := x.isLt
    omega
  have h := or_low (x := b) (y := x >>> 1) 1 (by omega)
  rw [e, BitVec.or_comm] at h
  rw [h, BitVec.toNat_ushiftRight, Nat.shiftRight_eq_div_pow]
  have := x.isLt
  omega
theorem wbit_at (t : List (BitVec 64)) (n i : Nat) (hi : i < 64 * n) : (((nth t (i / 64)) >>> (BitVec.ofNat 64 (i % 64)).toNat) &&& 1#64).toNat = v64 t n / 2 ^ i % 2 := by
  have hm : (BitVec.ofNat 64 (i % 64)).toNat = i % 64 := by rw [BitVec.toNat_ofNat]; omega
  have e1 : (((nth t (i / 64)) >>> (i % 64)) &&& 1#64).toNat = ((nth t (i / 64)) >>> (i % 64)).toNat % 2 := by
    rw [BitVec.toNat_and]
    exact Nat.and_two_pow_sub_one_eq_mod _ 1
  rw [hm, e1, BitVec.toNat_ushiftRight, Nat.shiftRight_eq_div_pow, ← v64_digit t n (i / 64) (by omega)]
  have h2 : (2 : Nat) ^ i = 18446744073709551616 ^ (i / 64) * 2 ^ (i % 64) := by
    rw [show (18446744073709551616 : Nat) = 2 ^ 64 from rfl, ← Nat.pow_mul, ← Nat.pow_add, Nat.div_add_mod]
  rw [h2, ← Nat.div_div_eq_div_mul]
  generalize v64 t n / 18446744073709551616 ^ (i / 64) = x
  have h3 : i % 64 < 64 := Nat.mod_lt _ (by decide)
  generalize i % 64 = k at h3
  have h4 : (18446744073709551616 : Nat) = 2 ^ k * (2 * 2 ^ (63 - k)) := by
    rw [← Nat.mul_assoc, Nat.mul_comm (2 ^ k) 2, Nat.mul_assoc, ← Nat.pow_add, show k + (63 - k) = 63 by omega]
  rw [h4, Nat.mod_mul_right_div_self, Nat.mod_mul_right_mod]
theorem dblL {X : List (BitVec 64)} (hX : X.length = 4) (hl : wV X < L25519) (b : BitVec 64) (hb : b.toNat < 2) : (put (rfadd0 X X) 0 ((nth (rfadd0 X X) 0) ||| b)).length = 4 ∧ wV (put (rfadd0 X X) 0 ((nth (rfadd0 X X) 0) ||| b)) = 2 * wV X + b.toNat := by
  obtain ⟨e, hc⟩ := rfadd_val hX hX
  have l := rfadd_lenA X X
  have l1 := wV_lt (rfadd0 X X)
  change _ < 7237005577332262213973186563042994240857116359379907606001950938285454250989 at hl
  have hv : wV (rfadd0 X X) = 2 * wV X := by omega
  generalize rfadd0 X X = Y at *
  obtain ⟨a0, a1, a2, a3, rfl⟩ := four l
  change a0.toNat + a1.toNat * 18446744073709551616 + a2.toNat * 340282366920938463463374607431768211456 + a3.toNat * 6277101735386680763835789423207666416102355444464034512896 = 2 * wV X at hv
  refine ⟨rfl, ?_⟩
  show (a0 ||| b).toNat + a1.toNat * 18446744073709551616 + a2.toNat * 340282366920938463463374607431768211456 + a3.toNat * 6277101735386680763835789423207666416102355444464034512896 = 2 * wV X + b.toNat
  rw [or_even a0 b (by omega) hb]
  omega
theorem rfL_len4 : rfL.length = 4 := by simp
theorem lessL {Y : List (BitVec 64)} (hY : Y.length = 4) : (rfsub1 Y rfL == 1#64) = decide (wV Y < L25519) := by
  obtain ⟨e, hc⟩ := rfsub_val hY rfL_len4
  have l1 := wV_lt (rfsub0 Y rfL)
  rw [rfL_val] at e
  by_cases h : wV Y < L25519
  · rw [decide_eq_true h, beq_iff_eq]
    apply BitVec.eq_of_toNat_eq
    show _ = 1
    omega
  · rw [decide_eq_false h, beq_eq_false_iff_ne]
    intro h2
    have : (rfsub1 Y rfL).toNat = 1 := by rw [h2]; rfl
    omega
theorem subL {Y : List (BitVec 64)} (hY : Y.length = 4) (h : ¬ wV Y < L25519) (h2 : wV Y < 2 * L25519) : (rfsub0 Y rfL).length = 4 ∧ wV (rfsub0 Y rfL) = wV Y % L25519 := by
  obtain ⟨e, hc⟩ := rfsub_val hY rfL_len4
  have l1 := wV_lt (rfsub0 Y rfL)
  refine ⟨rfsub_lenB Y rfL hY, ?_⟩
  rw [rfL_val] at e
  have hm : wV Y % L25519 = wV Y - L25519 := by
    rw [Nat.mod_eq_sub_mod (by omega), Nat.mod_eq_of_lt (by omega)]
  rw [hm]
  have hc0 : (rfsub1 Y rfL).toNat = 0 := by omega
  rw [hc0] at e
  omega
theorem div_big (v k n : Nat) (hk : k = 64 * n) (h : v < 18446744073709551616 ^ n) : v / 2 ^ k = 0 := by
  subst hk
  rw [Nat.pow_mul]
  exact Nat.div_eq_of_lt h
theorem modL_run (t : List (BitVec 64)) : ∀ j, j ≤ 512 → (rfModL_L3 t j).length = 4 ∧ wV (rfModL_L3 t j) = v64 t 8 / 2 ^ (512 - j) % L25519 := by
  intro j
  induction j with
  | zero =>
    intro _
    rw [rfModL_L3]
    refine ⟨rfl, ?_⟩
    have h := v64_lt t 8
    rw [Nat.sub_zero, div_big (v64 t 8) 512 8 rfl h]
    decide +kernel
  | succ j ih =>
    intro hj
    obtain ⟨h1, h2⟩ := ih (by omega)
    have hl : wV (rfModL_L3 t j) < L25519 := by rw [h2]; exact Nat.mod_lt _ L_pos
    have hbit := wbit_at t 8 (511 - j) (by omega)
    rw [rfModL_L3, rfModL_L3_S]
    generalize hB : (((nth t ((511 - j) / 64)) >>> (BitVec.ofNat 64 ((511 - j) % 64)).toNat) &&& 1#64) = B at *
    have hB2 : B.toNat < 2 := by rw [hbit]; exact Nat.mod_lt _ (by decide)
    obtain ⟨d1, d2⟩ := dblL h1 hl B hB2
    have hs : v64 t 8 / 2 ^ (512 - (j + 1)) % L25519 = (2 * wV (rfModL_L3 t j) + B.toNat) % L25519 := by
      rw [h2, hbit, step_mod]
      congr 1
      rw [show 512 - j = (511 - j) + 1 by omega, show 512 - (j + 1) = 511 - j by omega, Nat.pow_succ, ← Nat.div_div_eq_div_mul]
      omega
    rw [hs, ← d2]
    have hlt : wV (put (rfadd0 (rfModL_L3 t j) (rfModL_L3 t j)) 0 ((nth (rfadd0 (rfModL_L3 t j) (rfModL_L3 t j)) 0) ||| B)) < 2 * L25519 := by rw [d2]; omega
    generalize put (rfadd0 (rfModL_L3 t j) (rfModL_L3 t j)) 0 ((nth (rfadd0 (rfModL_L3 t j) (rfModL_L3 t j)) 0) ||| B) = Y at *
    rw [lessL d1]
    by_cases h : wV Y < L25519
    · rw [decide_eq_true h, if_neg (by decide), Nat.mod_eq_of_lt h]
      exact ⟨d1, rfl⟩
    · rw [decide_eq_false h, if_pos (by decide)]
      exact subL d1 h hlt
theorem modL_val (t : List (BitVec 64)) : wV (rfModL t) = v64 t 8 % L25519 := by
  obtain ⟨_, h⟩ := modL_run t 512 (Nat.le_refl _)
  unfold rfModL
  rw [h, Nat.sub_self, Nat.pow_zero, Nat.div_one]
theorem modB_run (b : List (BitVec 8)) : ∀ j, j ≤ 64 → (rfModB_L3 b j).length = 8 ∧ v64 (rfModB_L3 b j) 8 = leS b j := by
  intro j
  induction j with
  | zero => intro _; exact ⟨rfl, by rw [rfModB_L3, leS]; decide⟩
  | succ j ih =>
    intro hj
    obtain ⟨h1, h2⟩ := ih (by omega)
    rw [rfModB_L3, rfModB_L3_S, BitVec.toNat_ofNat, Nat.mod_eq_of_lt (show 8 * (j % 8) < 2 ^ 64 by omega)]
    have hd := v64_digit (rfModB_L3 b j) 8 (j / 8) (by omega)
    have hlt := leS_lt b j
    have hw : (nth (rfModB_L3 b j) (j / 8)).toNat < 256 ^ (j % 8) := by
      rw [← hd, h2]
      refine Nat.lt_of_le_of_lt (Nat.mod_le _ _) ?_
      rw [Nat.div_lt_iff_lt_mul (Nat.pow_pos (by decide))]
      rw [show (18446744073709551616 : Nat) = 256 ^ 8 from rfl, ← Nat.pow_mul, ← Nat.pow_add, Nat.add_comm, Nat.div_add_mod]
      exact hlt
    have hb := or_byte (nth (rfModB_L3 b j) (j / 8)) (nth b j) (j % 8) (Nat.mod_lt _ (by decide)) hw
    have hp := v64_put (rfModB_L3 b j) (j / 8) ((nth (rfModB_L3 b j) (j / 8)) ||| (((nth b j).setWidth 64) <<< (8 * (j % 8)))) (by omega) 8
    rw [if_pos (by omega), if_pos (by omega), hb, h2, Nat.add_mul] at hp
    refine ⟨by rw [put_length, h1], ?_⟩
    rw [leS]
    have e : (256 : Nat) ^ j = 256 ^ (j % 8) * 18446744073709551616 ^ (j / 8) := by
      rw [show (18446744073709551616 : Nat) = 256 ^ 8 from rfl, ← Nat.pow_mul, ← Nat.pow_add, Nat.add_comm, Nat.div_add_mod]
    rw [e, ← Nat.mul_assoc]
    omega
theorem rfModB_same {b : List (BitVec 8)} (hb : b.length ≤ 64) : rfModB b = sMod b := by
  unfold rfModB sMod rB
  rw [modL_val, (modB_run b b.length hb).2]
theorem addm (m : Nat) {c Y : List (BitVec 64)} (hY : Y.length = m) : ∀ j, j ≤ m → (scProd_L19 c Y j).2.length = m ∧ v64 (scProd_L19 c Y j).2 m + (scProd_L19 c Y j).1.toNat * 18446744073709551616 ^ j = v64 Y m + cSum c j := by
  intro j
  induction j with
  | zero => intro _; exact ⟨hY, by show v64 Y m + 0 * _ = v64 Y m + 0; rw [Nat.zero_mul]⟩
  | succ j ih =>
    intro hj
    obtain ⟨h1, h2⟩ := ih (by omega)
    have hc := scProd_c c Y j
    rw [scProd_L19, scProd_L19_S]
    generalize scProd_L19 c Y j = X at *
    obtain ⟨k, t⟩ := X
    dsimp only at h1 h2 hc ⊢
    rw [show (if j < 4 then nth c j else 0#64) = cAt c j from rfl]
    have hv : (nth t j + cAt c j + k).toNat + (addC (nth t j) (cAt c j) k).toNat * 18446744073709551616 = (nth t j).toNat + (cAt c j).toNat + k.toNat := by
      rw [addC_nat3 hc, add3]
      omega
    generalize nth t j + cAt c j + k = v at *
    generalize addC (nth t j) (cAt c j) k = k' at *
    have hp := v64_put t j v (by omega) m
    rw [if_pos (by omega), if_pos (by omega)] at hp
    refine ⟨by rw [put_length, h1], ?_⟩
    rw [cSum, Nat.pow_succ]
    generalize 18446744073709551616 ^ j = Q at *
    generalize 18446744073709551616 = M at *
    generalize v64 (put t j v) m = V at *
    generalize v64 t m = W at *
    generalize v64 Y m = S at *
    clear h1
    have e1 : k'.toNat * (Q * M) = (k'.toNat * M) * Q := by rw [Nat.mul_comm Q M, Nat.mul_assoc]
    have e2 : (k'.toNat * M) * Q + v.toNat * Q = (nth t j).toNat * Q + (cAt c j).toNat * Q + k.toNat * Q := by rw [← Nat.add_mul, ← Nat.add_mul, ← Nat.add_mul, ← hv, Nat.add_comm]
    rw [e1]
    omega
theorem rfMA_run (a b c : List (BitVec 8)) (j : Nat) : rfMA_L5 a b c j = scProd_L19 (rfOf c) (rfTimes (rfOf a) (rfOf b)) j := by
  induction j with
  | zero => rfl
  | succ j ih => rw [rfMA_L5, rfMA_L5_S, scProd_L19, scProd_L19_S, ih]
theorem cSum8 (c : List (BitVec 64)) : cSum c 8 = wV c := by
  simp only [cSum, cAt, wV, Nat.pow_zero, Nat.reducePow, show (0#64 : BitVec 64).toNat = 0 from rfl, Nat.reduceLT, if_true, if_false]
  omega
theorem rfTimes_len8 (a b : List (BitVec 64)) : (rfTimes a b).length = 8 := by
  obtain ⟨h, _⟩ := times_outer (a := a) (b := b) 4 (Nat.le_refl _)
  unfold rfTimes
  exact h
theorem rfMA_same (a b c : List (BitVec 8)) : rfMA a b c = sMA a b c := by
  obtain ⟨g1, g2⟩ := addm 8 (c := rfOf c) (rfTimes_len8 (rfOf a) (rfOf b)) 8 (Nat.le_refl _)
  rw [cSum8, rfTimes_val] at g2
  have la := wV_lt (rfOf a)
  have lb := wV_lt (rfOf b)
  have lc := wV_lt (rfOf c)
  have hab : wV (rfOf a) * wV (rfOf b) ≤ 115792089237316195423570985008687907853269984665640564039457584007913129639935 * 115792089237316195423570985008687907853269984665640564039457584007913129639935 := Nat.mul_le_mul (by omega) (by omega)
  unfold rfMA sMA rB
  rw [modL_val, rfMA_run, ← ZW_of (b := a), ← ZW_of (b := b), ← ZW_of (b := c)]
  have e : v64 (scProd_L19 (rfOf c) (rfTimes (rfOf a) (rfOf b)) 8).2 8 = wV (rfOf a) * wV (rfOf b) + wV (rfOf c) := by
    generalize v64 (scProd_L19 (rfOf c) (rfTimes (rfOf a) (rfOf b)) 8).2 8 = V at *
    generalize (scProd_L19 (rfOf c) (rfTimes (rfOf a) (rfOf b)) 8).1.toNat = k at *
    generalize wV (rfOf a) * wV (rfOf b) = q at *
    simp only [Nat.reducePow, Nat.reduceMul] at *
    omega
  rw [e]
theorem rfBelow_same {n : List (BitVec 8)} (hn : n.length = 32) : ((rfsub1 (rfOf n) rfL) == 1#64) = sBelow n := by
  unfold sBelow
  rw [lessL (rfOf_len n hn), ZW_of]
theorem rMA_ev (a b c : List (BitVec 8)) (ha : a.length = 32) (hb : b.length = 32) (hc : c.length = 32) : Ev Try.prog (.call 31 [.agg (.a8 a), .agg (.a8 b), .agg (.a8 c)] []) (.val (.agg (.a8 (sMA a b c))) []) := by
  rw [← rfMA_same]; exact rfMA_ev a b c ha hb hc
theorem rBelow_ev (n : List (BitVec 8)) (hn : n.length = 32) : Ev Try.prog (.call 39 [.agg (.a8 n)] []) (.val (.c (.val (.bool (sBelow n)))) []) := by
  rw [← rfBelow_same hn]; exact rfBelow_ev n hn
theorem rMod_ev (b : List (BitVec 8)) (n cap : Nat) (hb : b.length = n) (hn : n ≤ 64) : Ev Try.prog (.call 30 [.c (.sl 0 0 n cap 1)] [.row false (.a8 b)]) (.val (.agg (.a8 (sMod b))) [.row false (.a8 b)]) := by
  rw [← rfModB_same (hb ▸ hn)]; exact rfModB_ev b n cap hb (by omega) hn
end Go.Proofs.Ytcgncafhonlmlaa
namespace Go.Proofs.Ytcgncafhonlmlaa
open Go.RowKit
def rkSeed0 (seed : List (BitVec 8)) : List (BitVec 8) := rB (rkKey (cut (sha512 seed) 0 32))
def rkSeed1 (seed : List (BitVec 8)) : List (BitVec 8) := cut (sha512 seed) 32 32
set_option maxRecDepth 100000 in
set_option maxHeartbeats 2000000 in
theorem rkSeed_ev (seed : List (BitVec 8)) (hseed : seed.length = 32) : Ev Try.prog (.call 26 [.agg (.a8 (seed))] []) (.val (.tup [.agg (.a8 (rkSeed0 seed)), .c (.sl 0 0 32 32 1)]) [.row true (.a8 (rkSeed1 seed))]) := by
  have hP_rkSeed0 : Hid (rkSeed0 seed = rB (rkKey (cut (sha512 seed) 0 32))) := ⟨rfl⟩
  have hP_rkSeed1 : Hid (rkSeed1 seed = cut (sha512 seed) 32 32) := ⟨rfl⟩
  refine c_call Try.func26 rfl Try.ntmps26 rfl LEN_ ?_
  refine S_ ?_
  refine c_region ?_
  refine s_memN (m_box BX_ LEN_) APP_ rfl ?_
  refine s_memN (m_alloc al_22 LEN_) APP_ rfl ?_
  refine s_val (v_assignC rfl) rfl ?_
  refine s_nil ?_
  have hQ1 : (sha512 seed).length = 64 := LQ_
  refine S_ ?_
  refine c_region ?_
  refine s_val (v_slA1 (l := 0) (h := 32) (len := 32) (cp := 32) rfl Try.underlying22 sz_5 rfl rfl rfl (by omega) (by omega) FIT_ rfl rfl) rfl ?_
  refine s_evN (e_callR (bs := [0]) (rf512_evAS seed 32 32 HYP_ HYP_) ok_28 (by kernel_rfl) (by kernel_rfl) rfl VAL_) APP_ rfl ?_
  refine s_memN (m_alloc al_25 LEN_) APP_ rfl ?_
  refine s_storeR rfl rfl rfl rfl sz_25 EQ_ EQ_ SET_ ?_
  refine s_nil ?_
  refine S_ ?_
  refine c_region ?_
  refine s_memN (m_alloc al_22 LEN_) APP_ rfl ?_
  refine s_nil ?_
  have hQ2 : (cut (sha512 seed) 0 32).length = 32 := LQ_
  refine S_ ?_
  refine c_draw 2 mixed (by kernel_rfl) rfl rfl rfl ?_
  refine h_val (v_slA1 (l := 0) (h := 32) (len := 32) (cp := 32) rfl Try.underlying22 sz_5 rfl rfl rfl (by omega) (by omega) FIT_ rfl rfl) rfl ?_
  refine h_val (v_slA1 (l := 0) (h := 32) (len := 32) (cp := 64) rfl Try.underlying25 sz_5 rfl rfl rfl (by omega) (by omega) FIT_ rfl rfl) rfl ?_
  refine h_nil ?_
  refine s_copy8w rfl rfl rfl rfl Try.underlying23 sz_5 EQL_ LE_ MN_ rfl SET_ rfl ?_
  refine s_nil ?_
  have hQ3 : (rkKey (cut (sha512 seed) 0 32)).length = 4 := LQ_
  have hQ4 : (rB (rkKey (cut (sha512 seed) 0 32))).length = 32 := LQ_
  have hQ5 : (cut (sha512 seed) 32 32).length = 32 := LQ_
  refine S_ ?_
  refine c_draw 6 mixed (by kernel_rfl) rfl rfl rfl ?_
  refine h_val (v_loadR rfl rfl row_22 sz_22 EQ_ (by decide)) rfl ?_
  refine h_evN (e_callR (bs := []) (rkKey_ev (cut (sha512 seed) 0 32) HYP_) ok_52 (by kernel_rfl) (by kernel_rfl) rfl VAL_) APP_ rfl ?_
  refine h_evN (e_callR (bs := []) (rB_ev (rkKey (cut (sha512 seed) 0 32)) HYP_) ok_21 (by kernel_rfl) (by kernel_rfl) rfl VAL_) APP_ rfl ?_
  refine h_val (v_slA1 (l := 32) (h := 64) (len := 32) (cp := 32) rfl Try.underlying25 sz_5 rfl rfl rfl (by omega) (by omega) FIT_ rfl rfl) rfl ?_
  refine h_memN (m_bsc Try.underlying75 el_23 (rep_23 _) rfl CS_ (by decide) (by decide) LEN_) APP_ rfl ?_
  refine h_evN (e_callR (bs := [4,2]) (rjJoin1_ev (sha512 seed) 32 32 32 HYP_ HYP_) ok_29 (by kernel_rfl) (by kernel_rfl) rfl VAL_) APP_ rfl ?_
  refine h_nil ?_
  refine s_storeR rfl rfl rfl rfl sz_22 EQ_ EQ_ SET_ ?_
  refine s_val (v_assignC rfl) rfl ?_
  refine s_nil ?_
  refine S_ ?_
  rw [hP_rkSeed0.out, hP_rkSeed1.out]
  exact k_2 (r_row rfl rfl row_22 sz_22 EQ_ (by decide)) (by first | exact r_tmpC rfl | exact r_tmpA rfl) (by first | kernel_rfl | rfl)
@[simp] theorem rkSeed0_len (seed : List (BitVec 8)) (hseed : seed.length = 32) : (rkSeed0 seed).length = 32 := by
  unfold rkSeed0
  first | (simp [*]; done) | (simp [*]; omega)
attribute [irreducible] rkSeed0
@[simp] theorem rkSeed1_len (seed : List (BitVec 8)) (hseed : seed.length = 32) : (rkSeed1 seed).length = 32 := by
  unfold rkSeed1
  first | (simp [*]; done) | (simp [*]; omega)
attribute [irreducible] rkSeed1
def rkChal (r : List (BitVec 8)) (pub : List (BitVec 8)) (text : List (BitVec 8)) : List (BitVec 8) := sMod (sha512 ((r ++ pub) ++ text))
set_option maxRecDepth 100000 in
set_option maxHeartbeats 2000000 in
theorem rkChal_ev (r : List (BitVec 8)) (pub : List (BitVec 8)) (text : List (BitVec 8)) (tn : Nat) (tcap : Nat) (hr : r.length = 32) (hpub : pub.length = 32) (htext : text.length = tn) (htn : tn ≤ 1099511627) : Ev Try.prog (.call 32 [.agg (.a8 (r)), .agg (.a8 (pub)), .c (.sl 0 0 tn tcap 1)] [.row false (.a8 (text))]) (.val (.agg (.a8 (rkChal r pub text))) [.row false (.a8 (text))]) := by
  have hP : Hid (rkChal r pub text = sMod (sha512 ((r ++ pub) ++ text))) := ⟨rfl⟩
  subst htext
  refine c_call Try.func32 rfl Try.ntmps32 rfl LEN_ ?_
  refine S_ ?_
  refine c_region ?_
  refine s_memN (m_box BX_ LEN_) APP_ rfl ?_
  refine s_memN (m_box BX_ LEN_) APP_ rfl ?_
  refine s_memN (m_alloc al_22 LEN_) APP_ rfl ?_
  refine s_nil ?_
  have hQ1 : ((r ++ pub) ++ text).length = (32 + 32) + text.length := LQ_
  have hQ2 : (sha512 ((r ++ pub) ++ text)).length = 64 := LQ_
  refine S_ ?_
  refine c_draw 7 mixed (by kernel_rfl) rfl rfl rfl ?_
  refine h_val (v_slA1 (l := 0) (h := 32) (len := 32) (cp := 32) rfl Try.underlying22 sz_5 rfl rfl rfl (by omega) (by omega) FIT_ rfl rfl) rfl ?_
  refine h_val (v_slA1 (l := 0) (h := 32) (len := 32) (cp := 32) rfl Try.underlying22 sz_5 rfl rfl rfl (by omega) (by omega) FIT_ rfl rfl) rfl ?_
  refine h_val (v_moveC rfl) rfl ?_
  refine h_memN (m_bsc Try.underlying75 el_23 (rep_23 _) rfl CS_ (by decide) (by decide) LEN_) APP_ rfl ?_
  refine h_evN (e_callR (bs := [4,1,2,0]) (rjJoin3_ev r 32 32 pub 32 32 text text.length tcap HYP_ HYP_ HYP_ HYP_ HYP_ HYP_) ok_29 (by kernel_rfl) (by kernel_rfl) rfl VAL_) APP_ rfl ?_
  refine h_evN (e_callR (bs := [5]) (rf512_evAS ((r ++ pub) ++ text) ((32 + 32) + text.length) ((32 + 32) + text.length) HYP_ HYP_) ok_28 (by kernel_rfl) (by kernel_rfl) rfl VAL_) APP_ rfl ?_
  refine h_memN (m_alloc al_25 LEN_) APP_ rfl ?_
  refine h_nil ?_
  refine s_storeR rfl rfl rfl rfl sz_25 EQ_ EQ_ SET_ ?_
  refine s_nil ?_
  have hQ3 : (sMod (sha512 ((r ++ pub) ++ text))).length = 32 := LQ_
  refine S_ ?_
  refine c_region ?_
  refine s_val (v_slA1 (l := 0) (h := 64) (len := 64) (cp := 64) rfl Try.underlying25 sz_5 rfl rfl rfl (by omega) (by omega) FIT_ rfl rfl) rfl ?_
  refine s_evN (e_callR (bs := [6]) (rMod_ev (sha512 ((r ++ pub) ++ text)) 64 64 HYP_ HYP_) ok_30 (by kernel_rfl) (by kernel_rfl) rfl VAL_) APP_ rfl ?_
  refine s_storeR rfl rfl rfl rfl sz_22 EQ_ EQ_ SET_ ?_
  refine s_nil ?_
  refine S_ ?_
  rw [hP.out]
  exact k_1 (r_row rfl rfl row_22 sz_22 EQ_ (by decide)) (by first | kernel_rfl | rfl)
@[simp] theorem rkChal_len (r : List (BitVec 8)) (pub : List (BitVec 8)) (text : List (BitVec 8)) (hr : r.length = 32) (hpub : pub.length = 32) : (rkChal r pub text).length = 32 := by
  unfold rkChal
  first | (simp [*]; done) | (simp [*]; omega)
attribute [irreducible] rkChal
end Go.Proofs.Ytcgncafhonlmlaa
namespace Go.Proofs.Ytcgncafhonlmlaa
open Go.RowKit
set_option maxRecDepth 100000 in
set_option maxHeartbeats 2000000 in
theorem rfDecA_ev (b : List (BitVec 8)) (hb : b.length = 32) (wMul : List (BitVec 64) → List (BitVec 64) → List (BitVec 64)) (wMul_len : ∀ a b : List (BitVec 64), (wMul a b).length = 4) (wMul_ev : ∀ a b : List (BitVec 64), a.length = 4 → b.length = 4 → Ev Try.prog (.call 78 [.agg (.a64 a), .agg (.a64 b)] []) (.val (.agg (.a64 (wMul a b))) [])) (wSub : List (BitVec 64) → List (BitVec 64) → List (BitVec 64)) (wSub_len : ∀ a b : List (BitVec 64), (wSub a b).length = 4) (wSub_ev : ∀ a b : List (BitVec 64), a.length = 4 → b.length = 4 → Ev Try.prog (.call 80 [.agg (.a64 a), .agg (.a64 b)] []) (.val (.agg (.a64 (wSub a b))) [])) (wAdd : List (BitVec 64) → List (BitVec 64) → List (BitVec 64)) (wAdd_len : ∀ a b : List (BitVec 64), (wAdd a b).length = 4) (wAdd_ev : ∀ a b : List (BitVec 64), a.length = 4 → b.length = 4 → Ev Try.prog (.call 82 [.agg (.a64 a), .agg (.a64 b)] []) (.val (.agg (.a64 (wAdd a b))) [])) (wInv : List (BitVec 64) → List (BitVec 64)) (wInv_len : ∀ a : List (BitVec 64), (wInv a).length = 4) (wInv_ev : ∀ a : List (BitVec 64), a.length = 4 → Ev Try.prog (.call 81 [.agg (.a64 a)] []) (.val (.agg (.a64 (wInv a))) [])) (y : List (BitVec 64)) (y_len : y.length = 4) (y_ev : Ev Try.prog (.call 55 [.agg (.a8 (put b 31 ((nth b 31) &&& 127#8)))] []) (.val (.agg (.a64 y)) [])) (dd : List (BitVec 64)) (dd_len : dd.length = 4) (dd_ev : Ev Try.prog (.call 83 [] []) (.val (.agg (.a64 dd)) [])) (rt : List (BitVec 64)) (rt_len : rt.length = 4) (ri : Bool) (rt_ev : Ev Try.prog (.call 79 [.agg (.a64 (wMul (wSub (wMul y y) (put (zer64 4) 0 1#64)) (wInv (wAdd (wMul dd (wMul y y)) (put (zer64 4) 0 1#64)))))] []) (.val (.tup [.agg (.a64 rt), .c (.val (.bool ri))]) [])) (hL : (rfsub1 y rfP == 1#64) = false) : Ev Try.prog (.call 40 [.agg (.a8 (b))] []) (.val (.tup [.agg (.a64 (zer64 16)), .c (.val (.bool (false)))]) []) := by
  refine c_call Try.func40 rfl Try.ntmps40 rfl LEN_ ?_
  refine S_ ?_
  refine c_region ?_
  refine s_memN (m_box BX_ LEN_) APP_ rfl ?_
  refine s_memN (m_alloc al_64 LEN_) APP_ rfl ?_
  refine s_val (v_assignC rfl) rfl ?_
  refine s_nil ?_
  refine S_ ?_
  refine c_region ?_
  refine s_val (v_idxA1 (j := 31) rfl rfl Try.underlying22 sz_5 (by omega)) rfl ?_
  refine s_val (v_load8 rfl rfl row_5 LT_) rfl ?_
  refine s_val (v_geq8 (b := 128#8) rfl rfl) rfl ?_
  refine s_val (v_assignC rfl) rfl ?_
  refine s_nil ?_
  refine S_ ?_
  refine c_region ?_
  refine s_val (v_idxA1 (j := 31) rfl rfl Try.underlying22 sz_5 (by omega)) rfl ?_
  refine s_val (v_load8 rfl rfl row_5 LT_) rfl ?_
  refine s_val (v_and8 (b := 127#8) rfl rfl) rfl ?_
  refine s_val (v_idxA1 (j := 31) rfl rfl Try.underlying22 sz_5 (by omega)) rfl ?_
  refine s_store8 rfl rfl rfl sz_5 LT_ SET_ ?_
  refine s_nil ?_
  have hQ1 : (y).length = 4 := LQ_
  refine S_ ?_
  refine c_region ?_
  refine s_val (v_loadR rfl rfl row_22 sz_22 EQ_ (by decide)) rfl ?_
  refine s_evN (e_callR (bs := []) (y_ev) ok_55 (by kernel_rfl) (by kernel_rfl) rfl VAL_) APP_ rfl ?_
  refine s_memN (m_alloc al_42 LEN_) APP_ rfl ?_
  refine s_storeR rfl rfl rfl rfl sz_42 EQ_ EQ_ SET_ ?_
  refine s_nil ?_
  have hQ3 : (rfP).length = 4 := LQ_
  have hE2 : (!((rfsub1 y rfP) == 1#64)) = true := by rw [hL]; rfl
  refine S_ ?_
  refine c_draw 4 mixed (by kernel_rfl) rfl rfl rfl ?_
  refine h_val (v_loadR rfl rfl row_42 sz_42 EQ_ (by decide)) rfl ?_
  refine h_evN (e_callR (bs := []) (rfP_ev) ok_77 (by kernel_rfl) (by kernel_rfl) rfl VAL_) APP_ rfl ?_
  refine h_evN (e_callR (bs := []) (rfless_ev y rfP HYP_ HYP_) ok_76 (by kernel_rfl) (by kernel_rfl) rfl VAL_) APP_ rfl ?_
  refine h_val (v_bool (v_unnotB rfl) hE2) rfl ?_
  refine h_nil ?_
  refine s_nil ?_
  refine S_ ?_
  refine c_region ?_
  refine s_val (v_bld0 bz_64) rfl ?_
  refine s_storeR rfl rfl rfl rfl sz_64 EQ_ EQ_ SET_ ?_
  refine s_val (v_assignC rfl) rfl ?_
  refine s_nil ?_
  refine S_ ?_
  exact k_2 (r_row rfl rfl row_64 sz_64 EQ_ (by decide)) (by first | exact r_tmpC rfl | exact r_tmpA rfl) (by first | kernel_rfl | rfl)
end Go.Proofs.Ytcgncafhonlmlaa
namespace Go.Proofs.Ytcgncafhonlmlaa
open Go.RowKit
set_option maxRecDepth 100000 in
set_option maxHeartbeats 2000000 in
theorem rfDecB_ev (b : List (BitVec 8)) (hb : b.length = 32) (wMul : List (BitVec 64) → List (BitVec 64) → List (BitVec 64)) (wMul_len : ∀ a b : List (BitVec 64), (wMul a b).length = 4) (wMul_ev : ∀ a b : List (BitVec 64), a.length = 4 → b.length = 4 → Ev Try.prog (.call 78 [.agg (.a64 a), .agg (.a64 b)] []) (.val (.agg (.a64 (wMul a b))) [])) (wSub : List (BitVec 64) → List (BitVec 64) → List (BitVec 64)) (wSub_len : ∀ a b : List (BitVec 64), (wSub a b).length = 4) (wSub_ev : ∀ a b : List (BitVec 64), a.length = 4 → b.length = 4 → Ev Try.prog (.call 80 [.agg (.a64 a), .agg (.a64 b)] []) (.val (.agg (.a64 (wSub a b))) [])) (wAdd : List (BitVec 64) → List (BitVec 64) → List (BitVec 64)) (wAdd_len : ∀ a b : List (BitVec 64), (wAdd a b).length = 4) (wAdd_ev : ∀ a b : List (BitVec 64), a.length = 4 → b.length = 4 → Ev Try.prog (.call 82 [.agg (.a64 a), .agg (.a64 b)] []) (.val (.agg (.a64 (wAdd a b))) [])) (wInv : List (BitVec 64) → List (BitVec 64)) (wInv_len : ∀ a : List (BitVec 64), (wInv a).length = 4) (wInv_ev : ∀ a : List (BitVec 64), a.length = 4 → Ev Try.prog (.call 81 [.agg (.a64 a)] []) (.val (.agg (.a64 (wInv a))) [])) (y : List (BitVec 64)) (y_len : y.length = 4) (y_ev : Ev Try.prog (.call 55 [.agg (.a8 (put b 31 ((nth b 31) &&& 127#8)))] []) (.val (.agg (.a64 y)) [])) (dd : List (BitVec 64)) (dd_len : dd.length = 4) (dd_ev : Ev Try.prog (.call 83 [] []) (.val (.agg (.a64 dd)) [])) (rt : List (BitVec 64)) (rt_len : rt.length = 4) (ri : Bool) (rt_ev : Ev Try.prog (.call 79 [.agg (.a64 (wMul (wSub (wMul y y) (put (zer64 4) 0 1#64)) (wInv (wAdd (wMul dd (wMul y y)) (put (zer64 4) 0 1#64)))))] []) (.val (.tup [.agg (.a64 rt), .c (.val (.bool ri))]) [])) (hL : (rfsub1 y rfP == 1#64) = true) (hI : ri = false) : Ev Try.prog (.call 40 [.agg (.a8 (b))] []) (.val (.tup [.agg (.a64 (zer64 16)), .c (.val (.bool (false)))]) []) := by
  refine c_call Try.func40 rfl Try.ntmps40 rfl LEN_ ?_
  refine S_ ?_
  refine c_region ?_
  refine s_memN (m_box BX_ LEN_) APP_ rfl ?_
  refine s_memN (m_alloc al_64 LEN_) APP_ rfl ?_
  refine s_val (v_assignC rfl) rfl ?_
  refine s_nil ?_
  refine S_ ?_
  refine c_region ?_
  refine s_val (v_idxA1 (j := 31) rfl rfl Try.underlying22 sz_5 (by omega)) rfl ?_
  refine s_val (v_load8 rfl rfl row_5 LT_) rfl ?_
  refine s_val (v_geq8 (b := 128#8) rfl rfl) rfl ?_
  refine s_val (v_assignC rfl) rfl ?_
  refine s_nil ?_
  refine S_ ?_
  refine c_region ?_
  refine s_val (v_idxA1 (j := 31) rfl rfl Try.underlying22 sz_5 (by omega)) rfl ?_
  refine s_val (v_load8 rfl rfl row_5 LT_) rfl ?_
  refine s_val (v_and8 (b := 127#8) rfl rfl) rfl ?_
  refine s_val (v_idxA1 (j := 31) rfl rfl Try.underlying22 sz_5 (by omega)) rfl ?_
  refine s_store8 rfl rfl rfl sz_5 LT_ SET_ ?_
  refine s_nil ?_
  have hQ1 : (y).length = 4 := LQ_
  refine S_ ?_
  refine c_region ?_
  refine s_val (v_loadR rfl rfl row_22 sz_22 EQ_ (by decide)) rfl ?_
  refine s_evN (e_callR (bs := []) (y_ev) ok_55 (by kernel_rfl) (by kernel_rfl) rfl VAL_) APP_ rfl ?_
  refine s_memN (m_alloc al_42 LEN_) APP_ rfl ?_
  refine s_storeR rfl rfl rfl rfl sz_42 EQ_ EQ_ SET_ ?_
  refine s_nil ?_
  have hQ3 : (rfP).length = 4 := LQ_
  have hE2 : (!((rfsub1 y rfP) == 1#64)) = false := by rw [hL]; rfl
  refine S_ ?_
  refine c_draw 4 mixed (by kernel_rfl) rfl rfl rfl ?_
  refine h_val (v_loadR rfl rfl row_42 sz_42 EQ_ (by decide)) rfl ?_
  refine h_evN (e_callR (bs := []) (rfP_ev) ok_77 (by kernel_rfl) (by kernel_rfl) rfl VAL_) APP_ rfl ?_
  refine h_evN (e_callR (bs := []) (rfless_ev y rfP HYP_ HYP_) ok_76 (by kernel_rfl) (by kernel_rfl) rfl VAL_) APP_ rfl ?_
  refine h_val (v_bool (v_unnotB rfl) hE2) rfl ?_
  refine h_nil ?_
  refine s_nil ?_
  have hQ4 : (wMul y y).length = 4 := LQ_
  refine S_ ?_
  refine c_region ?_
  refine s_val (v_loadR rfl rfl row_42 sz_42 EQ_ (by decide)) rfl ?_
  refine s_val (v_loadR rfl rfl row_42 sz_42 EQ_ (by decide)) rfl ?_
  refine s_evN (e_callR (bs := []) (wMul_ev y y HYP_ HYP_) ok_78 (by kernel_rfl) (by kernel_rfl) rfl VAL_) APP_ rfl ?_
  refine s_memN (m_alloc al_42 LEN_) APP_ rfl ?_
  refine s_storeR rfl rfl rfl rfl sz_42 EQ_ EQ_ SET_ ?_
  refine s_nil ?_
  have hQ6 : (wSub (wMul y y) (put (zer64 4) 0 1#64)).length = 4 := LQ_
  have hQ7 : (dd).length = 4 := LQ_
  have hQ8 : (wMul dd (wMul y y)).length = 4 := LQ_
  have hQ9 : (wAdd (wMul dd (wMul y y)) (put (zer64 4) 0 1#64)).length = 4 := LQ_
  have hQ10 : (wInv (wAdd (wMul dd (wMul y y)) (put (zer64 4) 0 1#64))).length = 4 := LQ_
  have hQ11 : (wMul (wSub (wMul y y) (put (zer64 4) 0 1#64)) (wInv (wAdd (wMul dd (wMul y y)) (put (zer64 4) 0 1#64)))).length = 4 := LQ_
  have hQ12 : (rt).length = 4 := LQ_
  have hE5 : (ri) = false := hI
  refine S_ ?_
  refine c_late 15 13 mixed (by kernel_rfl) (by kernel_rfl) rfl rfl rfl ?_
  refine h_val (v_loadR rfl rfl row_42 sz_42 EQ_ (by decide)) rfl ?_
  refine h_val (v_blf64 (l := (put (zer64 4) 0 (1#64))) za_42 Try.underlying42 sz_40 rfl rfl) rfl ?_
  refine h_evN (e_callR (bs := []) (wSub_ev (wMul y y) (put (zer64 4) 0 1#64) HYP_ HYP_) ok_80 (by kernel_rfl) (by kernel_rfl) rfl VAL_) APP_ rfl ?_
  refine h_evN (e_callR (bs := []) (dd_ev) ok_83 (by kernel_rfl) (by kernel_rfl) rfl VAL_) APP_ rfl ?_
  refine h_val (v_loadR rfl rfl row_42 sz_42 EQ_ (by decide)) rfl ?_
  refine h_evN (e_callR (bs := []) (wMul_ev dd (wMul y y) HYP_ HYP_) ok_78 (by kernel_rfl) (by kernel_rfl) rfl VAL_) APP_ rfl ?_
  refine h_val (v_blf64 (l := (put (zer64 4) 0 (1#64))) za_42 Try.underlying42 sz_40 rfl rfl) rfl ?_
  refine h_evN (e_callR (bs := []) (wAdd_ev (wMul dd (wMul y y)) (put (zer64 4) 0 1#64) HYP_ HYP_) ok_82 (by kernel_rfl) (by kernel_rfl) rfl VAL_) APP_ rfl ?_
  refine h_evN (e_callR (bs := []) (wInv_ev (wAdd (wMul dd (wMul y y)) (put (zer64 4) 0 1#64)) HYP_) ok_81 (by kernel_rfl) (by kernel_rfl) rfl VAL_) APP_ rfl ?_
  refine h_evN (e_callR (bs := []) (wMul_ev (wSub (wMul y y) (put (zer64 4) 0 1#64)) (wInv (wAdd (wMul dd (wMul y y)) (put (zer64 4) 0 1#64))) HYP_ HYP_) ok_78 (by kernel_rfl) (by kernel_rfl) rfl VAL_) APP_ rfl ?_
  refine h_evN (e_callR (bs := []) (rt_ev) ok_79 (by kernel_rfl) (by kernel_rfl) rfl VAL_) APP_ rfl ?_
  refine h_val (v_moveT rfl) rfl ?_
  refine h_val (v_extract rfl rfl) rfl ?_
  refine h_val (v_bool (v_extract rfl rfl) hE5) rfl ?_
  refine h_memN (m_alloc al_42 LEN_) APP_ rfl ?_
  refine h_nil ?_
  refine s_storeR rfl rfl rfl rfl sz_42 EQ_ EQ_ SET_ ?_
  refine s_val (v_assignC rfl) rfl ?_
  refine s_nil ?_
  refine S_ ?_
  refine c_region ?_
  refine s_val (v_moveC rfl) rfl ?_
  refine s_val (v_unnotB rfl) rfl ?_
  refine s_val (v_moveC rfl) rfl ?_
  refine s_no GO_ rfl ?_
  refine s_no GO_ rfl ?_
  refine s_no GO_ rfl ?_
  refine s_no GO_ rfl ?_
  refine s_no GO_ rfl ?_
  refine s_no GO_ rfl ?_
  refine s_val (v_pickT rfl PK_ rfl) rfl ?_
  refine s_nil ?_
  refine S_ ?_
  refine c_region ?_
  refine s_val (v_bld0 bz_64) rfl ?_
  refine s_storeR rfl rfl rfl rfl sz_64 EQ_ EQ_ SET_ ?_
  refine s_val (v_assignC rfl) rfl ?_
  refine s_nil ?_
  refine S_ ?_
  exact k_2 (r_row rfl rfl row_64 sz_64 EQ_ (by decide)) (by first | exact r_tmpC rfl | exact r_tmpA rfl) (by first | kernel_rfl | rfl)
end Go.Proofs.Ytcgncafhonlmlaa
namespace Go.Proofs.Ytcgncafhonlmlaa
open Go.RowKit
set_option maxRecDepth 100000 in
set_option maxHeartbeats 2000000 in
theorem rfDecD_ev (b : List (BitVec 8)) (hb : b.length = 32) (wMul : List (BitVec 64) → List (BitVec 64) → List (BitVec 64)) (wMul_len : ∀ a b : List (BitVec 64), (wMul a b).length = 4) (wMul_ev : ∀ a b : List (BitVec 64), a.length = 4 → b.length = 4 → Ev Try.prog (.call 78 [.agg (.a64 a), .agg (.a64 b)] []) (.val (.agg (.a64 (wMul a b))) [])) (wSub : List (BitVec 64) → List (BitVec 64) → List (BitVec 64)) (wSub_len : ∀ a b : List (BitVec 64), (wSub a b).length = 4) (wSub_ev : ∀ a b : List (BitVec 64), a.length = 4 → b.length = 4 → Ev Try.prog (.call 80 [.agg (.a64 a), .agg (.a64 b)] []) (.val (.agg (.a64 (wSub a b))) [])) (wAdd : List (BitVec 64) → List (BitVec 64) → List (BitVec 64)) (wAdd_len : ∀ a b : List (BitVec 64), (wAdd a b).length = 4) (wAdd_ev : ∀ a b : List (BitVec 64), a.length = 4 → b.length = 4 → Ev Try.prog (.call 82 [.agg (.a64 a), .agg (.a64 b)] []) (.val (.agg (.a64 (wAdd a b))) [])) (wInv : List (BitVec 64) → List (BitVec 64)) (wInv_len : ∀ a : List (BitVec 64), (wInv a).length = 4) (wInv_ev : ∀ a : List (BitVec 64), a.length = 4 → Ev Try.prog (.call 81 [.agg (.a64 a)] []) (.val (.agg (.a64 (wInv a))) [])) (y : List (BitVec 64)) (y_len : y.length = 4) (y_ev : Ev Try.prog (.call 55 [.agg (.a8 (put b 31 ((nth b 31) &&& 127#8)))] []) (.val (.agg (.a64 y)) [])) (dd : List (BitVec 64)) (dd_len : dd.length = 4) (dd_ev : Ev Try.prog (.call 83 [] []) (.val (.agg (.a64 dd)) [])) (rt : List (BitVec 64)) (rt_len : rt.length = 4) (ri : Bool) (rt_ev : Ev Try.prog (.call 79 [.agg (.a64 (wMul (wSub (wMul y y) (put (zer64 4) 0 1#64)) (wInv (wAdd (wMul dd (wMul y y)) (put (zer64 4) 0 1#64)))))] []) (.val (.tup [.agg (.a64 rt), .c (.val (.bool ri))]) [])) (hL : (rfsub1 y rfP == 1#64) = true) (hI : ri = true) (hO : decide ((128#8).toNat ≤ (nth b 31).toNat) = true) (hZ : decide (rt = zer64 4) = true) : Ev Try.prog (.call 40 [.agg (.a8 (b))] []) (.val (.tup [.agg (.a64 (zer64 16)), .c (.val (.bool (false)))]) []) := by
  refine c_call Try.func40 rfl Try.ntmps40 rfl LEN_ ?_
  refine S_ ?_
  refine c_region ?_
  refine s_memN (m_box BX_ LEN_) APP_ rfl ?_
  refine s_memN (m_alloc al_64 LEN_) APP_ rfl ?_
  refine s_val (v_assignC rfl) rfl ?_
  refine s_nil ?_
  have hE1 : (decide ((128#8).toNat ≤ (nth b 31).toNat)) = true := hO
  refine S_ ?_
  refine c_region ?_
  refine s_val (v_idxA1 (j := 31) rfl rfl Try.underlying22 sz_5 (by omega)) rfl ?_
  refine s_val (v_load8 rfl rfl row_5 LT_) rfl ?_
  refine s_val (v_bool (v_geq8 (b := 128#8) rfl rfl) hE1) rfl ?_
  refine s_val (v_assignC rfl) rfl ?_
  refine s_nil ?_
  refine S_ ?_
  refine c_region ?_
  refine s_val (v_idxA1 (j := 31) rfl rfl Try.underlying22 sz_5 (by omega)) rfl ?_
  refine s_val (v_load8 rfl rfl row_5 LT_) rfl ?_
  refine s_val (v_and8 (b := 127#8) rfl rfl) rfl ?_
  refine s_val (v_idxA1 (j := 31) rfl rfl Try.underlying22 sz_5 (by omega)) rfl ?_
  refine s_store8 rfl rfl rfl sz_5 LT_ SET_ ?_
  refine s_nil ?_
  have hQ2 : (y).length = 4 := LQ_
  refine S_ ?_
  refine c_region ?_
  refine s_val (v_loadR rfl rfl row_22 sz_22 EQ_ (by decide)) rfl ?_
  refine s_evN (e_callR (bs := []) (y_ev) ok_55 (by kernel_rfl) (by kernel_rfl) rfl VAL_) APP_ rfl ?_
  refine s_memN (m_alloc al_42 LEN_) APP_ rfl ?_
  refine s_storeR rfl rfl rfl rfl sz_42 EQ_ EQ_ SET_ ?_
  refine s_nil ?_
  have hQ4 : (rfP).length = 4 := LQ_
  have hE3 : (!((rfsub1 y rfP) == 1#64)) = false := by rw [hL]; rfl
  refine S_ ?_
  refine c_draw 4 mixed (by kernel_rfl) rfl rfl rfl ?_
  refine h_val (v_loadR rfl rfl row_42 sz_42 EQ_ (by decide)) rfl ?_
  refine h_evN (e_callR (bs := []) (rfP_ev) ok_77 (by kernel_rfl) (by kernel_rfl) rfl VAL_) APP_ rfl ?_
  refine h_evN (e_callR (bs := []) (rfless_ev y rfP HYP_ HYP_) ok_76 (by kernel_rfl) (by kernel_rfl) rfl VAL_) APP_ rfl ?_
  refine h_val (v_bool (v_unnotB rfl) hE3) rfl ?_
  refine h_nil ?_
  refine s_nil ?_
  have hQ5 : (wMul y y).length = 4 := LQ_
  refine S_ ?_
  refine c_region ?_
  refine s_val (v_loadR rfl rfl row_42 sz_42 EQ_ (by decide)) rfl ?_
  refine s_val (v_loadR rfl rfl row_42 sz_42 EQ_ (by decide)) rfl ?_
  refine s_evN (e_callR (bs := []) (wMul_ev y y HYP_ HYP_) ok_78 (by kernel_rfl) (by kernel_rfl) rfl VAL_) APP_ rfl ?_
  refine s_memN (m_alloc al_42 LEN_) APP_ rfl ?_
  refine s_storeR rfl rfl rfl rfl sz_42 EQ_ EQ_ SET_ ?_
  refine s_nil ?_
  have hQ7 : (wSub (wMul y y) (put (zer64 4) 0 1#64)).length = 4 := LQ_
  have hQ8 : (dd).length = 4 := LQ_
  have hQ9 : (wMul dd (wMul y y)).length = 4 := LQ_
  have hQ10 : (wAdd (wMul dd (wMul y y)) (put (zer64 4) 0 1#64)).length = 4 := LQ_
  have hQ11 : (wInv (wAdd (wMul dd (wMul y y)) (put (zer64 4) 0 1#64))).length = 4 := LQ_
  have hQ12 : (wMul (wSub (wMul y y) (put (zer64 4) 0 1#64)) (wInv (wAdd (wMul dd (wMul y y)) (put (zer64 4) 0 1#64)))).length = 4 := LQ_
  have hQ13 : (rt).length = 4 := LQ_
  have hE6 : (ri) = true := hI
  refine S_ ?_
  refine c_late 15 13 mixed (by kernel_rfl) (by kernel_rfl) rfl rfl rfl ?_
  refine h_val (v_loadR rfl rfl row_42 sz_42 EQ_ (by decide)) rfl ?_
  refine h_val (v_blf64 (l := (put (zer64 4) 0 (1#64))) za_42 Try.underlying42 sz_40 rfl rfl) rfl ?_
  refine h_evN (e_callR (bs := []) (wSub_ev (wMul y y) (put (zer64 4) 0 1#64) HYP_ HYP_) ok_80 (by kernel_rfl) (by kernel_rfl) rfl VAL_) APP_ rfl ?_
  refine h_evN (e_callR (bs := []) (dd_ev) ok_83 (by kernel_rfl) (by kernel_rfl) rfl VAL_) APP_ rfl ?_
  refine h_val (v_loadR rfl rfl row_42 sz_42 EQ_ (by decide)) rfl ?_
  refine h_evN (e_callR (bs := []) (wMul_ev dd (wMul y y) HYP_ HYP_) ok_78 (by kernel_rfl) (by kernel_rfl) rfl VAL_) APP_ rfl ?_
  refine h_val (v_blf64 (l := (put (zer64 4) 0 (1#64))) za_42 Try.underlying42 sz_40 rfl rfl) rfl ?_
  refine h_evN (e_callR (bs := []) (wAdd_ev (wMul dd (wMul y y)) (put (zer64 4) 0 1#64) HYP_ HYP_) ok_82 (by kernel_rfl) (by kernel_rfl) rfl VAL_) APP_ rfl ?_
  refine h_evN (e_callR (bs := []) (wInv_ev (wAdd (wMul dd (wMul y y)) (put (zer64 4) 0 1#64)) HYP_) ok_81 (by kernel_rfl) (by kernel_rfl) rfl VAL_) APP_ rfl ?_
  refine h_evN (e_callR (bs := []) (wMul_ev (wSub (wMul y y) (put (zer64 4) 0 1#64)) (wInv (wAdd (wMul dd (wMul y y)) (put (zer64 4) 0 1#64))) HYP_ HYP_) ok_78 (by kernel_rfl) (by kernel_rfl) rfl VAL_) APP_ rfl ?_
  refine h_evN (e_callR (bs := []) (rt_ev) ok_79 (by kernel_rfl) (by kernel_rfl) rfl VAL_) APP_ rfl ?_
  refine h_val (v_moveT rfl) rfl ?_
  refine h_val (v_extract rfl rfl) rfl ?_
  refine h_val (v_bool (v_extract rfl rfl) hE6) rfl ?_
  refine h_memN (m_alloc al_42 LEN_) APP_ rfl ?_
  refine h_nil ?_
  refine s_storeR rfl rfl rfl rfl sz_42 EQ_ EQ_ SET_ ?_
  refine s_val (v_assignC rfl) rfl ?_
  refine s_nil ?_
  have hE14 : (decide (rt = zer64 4)) = true := hZ
  refine S_ ?_
  refine c_region ?_
  refine s_val (v_moveC rfl) rfl ?_
  refine s_val (v_unnotB rfl) rfl ?_
  refine s_val (v_moveC rfl) rfl ?_
  refine s_go GO_ ?_
  refine s_val (v_loadR rfl rfl row_42 sz_42 EQ_ (by decide)) rfl ?_
  refine s_go GO_ ?_
  refine s_val (v_blf64 (l := (zer64 4)) za_42 Try.underlying42 sz_40 rfl rfl) rfl ?_
  refine s_go GO_ ?_
  refine s_val (v_bool (v_eqlR64 rfl rfl Try.underlying42 Try.underlying40 sz_40 EQ_ EQ_) hE14) rfl ?_
  refine s_go GO_ ?_
  refine s_val (v_moveC rfl) rfl ?_
  refine s_go GO_ ?_
  refine s_val (v_moveC rfl) rfl ?_
  refine s_go GO_ ?_
  refine s_val (v_pickT rfl PK_ rfl) rfl ?_
  refine s_val (v_pickF rfl PK_ rfl) rfl ?_
  refine s_nil ?_
  refine S_ ?_
  refine c_region ?_
  refine s_val (v_bld0 bz_64) rfl ?_
  refine s_storeR rfl rfl rfl rfl sz_64 EQ_ EQ_ SET_ ?_
  refine s_val (v_assignC rfl) rfl ?_
  refine s_nil ?_
  refine S_ ?_
  exact k_2 (r_row rfl rfl row_64 sz_64 EQ_ (by decide)) (by first | exact r_tmpC rfl | exact r_tmpA rfl) (by first | kernel_rfl | rfl)
end Go.Proofs.Ytcgncafhonlmlaa
namespace Go.Proofs.Ytcgncafhonlmlaa
open Go.RowKit
set_option maxRecDepth 100000 in
set_option maxHeartbeats 2000000 in
theorem rfDecE_ev (b : List (BitVec 8)) (hb : b.length = 32) (wMul : List (BitVec 64) → List (BitVec 64) → List (BitVec 64)) (wMul_len : ∀ a b : List (BitVec 64), (wMul a b).length = 4) (wMul_ev : ∀ a b : List (BitVec 64), a.length = 4 → b.length = 4 → Ev Try.prog (.call 78 [.agg (.a64 a), .agg (.a64 b)] []) (.val (.agg (.a64 (wMul a b))) [])) (wSub : List (BitVec 64) → List (BitVec 64) → List (BitVec 64)) (wSub_len : ∀ a b : List (BitVec 64), (wSub a b).length = 4) (wSub_ev : ∀ a b : List (BitVec 64), a.length = 4 → b.length = 4 → Ev Try.prog (.call 80 [.agg (.a64 a), .agg (.a64 b)] []) (.val (.agg (.a64 (wSub a b))) [])) (wAdd : List (BitVec 64) → List (BitVec 64) → List (BitVec 64)) (wAdd_len : ∀ a b : List (BitVec 64), (wAdd a b).length = 4) (wAdd_ev : ∀ a b : List (BitVec 64), a.length = 4 → b.length = 4 → Ev Try.prog (.call 82 [.agg (.a64 a), .agg (.a64 b)] []) (.val (.agg (.a64 (wAdd a b))) [])) (wInv : List (BitVec 64) → List (BitVec 64)) (wInv_len : ∀ a : List (BitVec 64), (wInv a).length = 4) (wInv_ev : ∀ a : List (BitVec 64), a.length = 4 → Ev Try.prog (.call 81 [.agg (.a64 a)] []) (.val (.agg (.a64 (wInv a))) [])) (y : List (BitVec 64)) (y_len : y.length = 4) (y_ev : Ev Try.prog (.call 55 [.agg (.a8 (put b 31 ((nth b 31) &&& 127#8)))] []) (.val (.agg (.a64 y)) [])) (dd : List (BitVec 64)) (dd_len : dd.length = 4) (dd_ev : Ev Try.prog (.call 83 [] []) (.val (.agg (.a64 dd)) [])) (rt : List (BitVec 64)) (rt_len : rt.length = 4) (ri : Bool) (rt_ev : Ev Try.prog (.call 79 [.agg (.a64 (wMul (wSub (wMul y y) (put (zer64 4) 0 1#64)) (wInv (wAdd (wMul dd (wMul y y)) (put (zer64 4) 0 1#64)))))] []) (.val (.tup [.agg (.a64 rt), .c (.val (.bool ri))]) [])) (hL : (rfsub1 y rfP == 1#64) = true) (hI : ri = true) (hO : decide ((128#8).toNat ≤ (nth b 31).toNat) = false) (hZ : decide (rt = zer64 4) = false) : Ev Try.prog (.call 40 [.agg (.a8 (b))] []) (.val (.tup [.agg (.a64 (rt ++ y ++ (put (zer64 4) 0 1#64) ++ (wMul rt y))), .c (.val (.bool (true)))]) []) := by
  refine c_call Try.func40 rfl Try.ntmps40 rfl LEN_ ?_
  refine S_ ?_
  refine c_region ?_
  refine s_memN (m_box BX_ LEN_) APP_ rfl ?_
  refine s_memN (m_alloc al_64 LEN_) APP_ rfl ?_
  refine s_val (v_assignC rfl) rfl ?_
  refine s_nil ?_
  have hE1 : (decide ((128#8).toNat ≤ (nth b 31).toNat)) = false := hO
  refine S_ ?_
  refine c_region ?_
  refine s_val (v_idxA1 (j := 31) rfl rfl Try.underlying22 sz_5 (by omega)) rfl ?_
  refine s_val (v_load8 rfl rfl row_5 LT_) rfl ?_
  refine s_val (v_bool (v_geq8 (b := 128#8) rfl rfl) hE1) rfl ?_
  refine s_val (v_assignC rfl) rfl ?_
  refine s_nil ?_
  refine S_ ?_
  refine c_region ?_
  refine s_val (v_idxA1 (j := 31) rfl rfl Try.underlying22 sz_5 (by omega)) rfl ?_
  refine s_val (v_load8 rfl rfl row_5 LT_) rfl ?_
  refine s_val (v_and8 (b := 127#8) rfl rfl) rfl ?_
  refine s_val (v_idxA1 (j := 31) rfl rfl Try.underlying22 sz_5 (by omega)) rfl ?_
  refine s_store8 rfl rfl rfl sz_5 LT_ SET_ ?_
  refine s_nil ?_
  have hQ2 : (y).length = 4 := LQ_
  refine S_ ?_
  refine c_region ?_
  refine s_val (v_loadR rfl rfl row_22 sz_22 EQ_ (by decide)) rfl ?_
  refine s_evN (e_callR (bs := []) (y_ev) ok_55 (by kernel_rfl) (by kernel_rfl) rfl VAL_) APP_ rfl ?_
  refine s_memN (m_alloc al_42 LEN_) APP_ rfl ?_
  refine s_storeR rfl rfl rfl rfl sz_42 EQ_ EQ_ SET_ ?_
  refine s_nil ?_
  have hQ4 : (rfP).length = 4 := LQ_
  have hE3 : (!((rfsub1 y rfP) == 1#64)) = false := by rw [hL]; rfl
  refine S_ ?_
  refine c_draw 4 mixed (by kernel_rfl) rfl rfl rfl ?_
  refine h_val (v_loadR rfl rfl row_42 sz_42 EQ_ (by decide)) rfl ?_
  refine h_evN (e_callR (bs := []) (rfP_ev) ok_77 (by kernel_rfl) (by kernel_rfl) rfl VAL_) APP_ rfl ?_
  refine h_evN (e_callR (bs := []) (rfless_ev y rfP HYP_ HYP_) ok_76 (by kernel_rfl) (by kernel_rfl) rfl VAL_) APP_ rfl ?_
  refine h_val (v_bool (v_unnotB rfl) hE3) rfl ?_
  refine h_nil ?_
  refine s_nil ?_
  have hQ5 : (wMul y y).length = 4 := LQ_
  refine S_ ?_
  refine c_region ?_
  refine s_val (v_loadR rfl rfl row_42 sz_42 EQ_ (by decide)) rfl ?_
  refine s_val (v_loadR rfl rfl row_42 sz_42 EQ_ (by decide)) rfl ?_
  refine s_evN (e_callR (bs := []) (wMul_ev y y HYP_ HYP_) ok_78 (by kernel_rfl) (by kernel_rfl) rfl VAL_) APP_ rfl ?_
  refine s_memN (m_alloc al_42 LEN_) APP_ rfl ?_
  refine s_storeR rfl rfl rfl rfl sz_42 EQ_ EQ_ SET_ ?_
  refine s_nil ?_
  have hQ7 : (wSub (wMul y y) (put (zer64 4) 0 1#64)).length = 4 := LQ_
  have hQ8 : (dd).length = 4 := LQ_
  have hQ9 : (wMul dd (wMul y y)).length = 4 := LQ_
  have hQ10 : (wAdd (wMul dd (wMul y y)) (put (zer64 4) 0 1#64)).length = 4 := LQ_
  have hQ11 : (wInv (wAdd (wMul dd (wMul y y)) (put (zer64 4) 0 1#64))).length = 4 := LQ_
  have hQ12 : (wMul (wSub (wMul y y) (put (zer64 4) 0 1#64)) (wInv (wAdd (wMul dd (wMul y y)) (put (zer64 4) 0 1#64)))).length = 4 := LQ_
  have hQ13 : (rt).length = 4 := LQ_
  have hE6 : (ri) = true := hI
  refine S_ ?_
  refine c_late 15 13 mixed (by kernel_rfl) (by kernel_rfl) rfl rfl rfl ?_
  refine h_val (v_loadR rfl rfl row_42 sz_42 EQ_ (by decide)) rfl ?_
  refine h_val (v_blf64 (l := (put (zer64 4) 0 (1#64))) za_42 Try.underlying42 sz_40 rfl rfl) rfl ?_
  refine h_evN (e_callR (bs := []) (wSub_ev (wMul y y) (put (zer64 4) 0 1#64) HYP_ HYP_) ok_80 (by kernel_rfl) (by kernel_rfl) rfl VAL_) APP_ rfl ?_
  refine h_evN (e_callR (bs := []) (dd_ev) ok_83 (by kernel_rfl) (by kernel_rfl) rfl VAL_) APP_ rfl ?_
  refine h_val (v_loadR rfl rfl row_42 sz_42 EQ_ (by decide)) rfl ?_
  refine h_evN (e_callR (bs := []) (wMul_ev dd (wMul y y) HYP_ HYP_) ok_78 (by kernel_rfl) (by kernel_rfl) rfl VAL_) APP_ rfl ?_
  refine h_val (v_blf64 (l := (put (zer64 4) 0 (1#64))) za_42 Try.underlying42 sz_40 rfl rfl) rfl ?_
  refine h_evN (e_callR (bs := []) (wAdd_ev (wMul dd (wMul y y)) (put (zer64 4) 0 1#64) HYP_ HYP_) ok_82 (by kernel_rfl) (by kernel_rfl) rfl VAL_) APP_ rfl ?_
  refine h_evN (e_callR (bs := []) (wInv_ev (wAdd (wMul dd (wMul y y)) (put (zer64 4) 0 1#64)) HYP_) ok_81 (by kernel_rfl) (by kernel_rfl) rfl VAL_) APP_ rfl ?_
  refine h_evN (e_callR (bs := []) (wMul_ev (wSub (wMul y y) (put (zer64 4) 0 1#64)) (wInv (wAdd (wMul dd (wMul y y)) (put (zer64 4) 0 1#64))) HYP_ HYP_) ok_78 (by kernel_rfl) (by kernel_rfl) rfl VAL_) APP_ rfl ?_
  refine h_evN (e_callR (bs := []) (rt_ev) ok_79 (by kernel_rfl) (by kernel_rfl) rfl VAL_) APP_ rfl ?_
  refine h_val (v_moveT rfl) rfl ?_
  refine h_val (v_extract rfl rfl) rfl ?_
  refine h_val (v_bool (v_extract rfl rfl) hE6) rfl ?_
  refine h_memN (m_alloc al_42 LEN_) APP_ rfl ?_
  refine h_nil ?_
  refine s_storeR rfl rfl rfl rfl sz_42 EQ_ EQ_ SET_ ?_
  refine s_val (v_assignC rfl) rfl ?_
  refine s_nil ?_
  have hE14 : (decide (rt = zer64 4)) = false := hZ
  refine S_ ?_
  refine c_region ?_
  refine s_val (v_moveC rfl) rfl ?_
  refine s_val (v_unnotB rfl) rfl ?_
  refine s_val (v_moveC rfl) rfl ?_
  refine s_go GO_ ?_
  refine s_val (v_loadR rfl rfl row_42 sz_42 EQ_ (by decide)) rfl ?_
  refine s_go GO_ ?_
  refine s_val (v_blf64 (l := (zer64 4)) za_42 Try.underlying42 sz_40 rfl rfl) rfl ?_
  refine s_go GO_ ?_
  refine s_val (v_bool (v_eqlR64 rfl rfl Try.underlying42 Try.underlying40 sz_40 EQ_ EQ_) hE14) rfl ?_
  refine s_go GO_ ?_
  refine s_val (v_moveC rfl) rfl ?_
  refine s_no GO_ rfl ?_
  refine s_go GO_ ?_
  refine s_val (v_pickF rfl PK_ rfl) rfl ?_
  refine s_val (v_pickF rfl PK_ rfl) rfl ?_
  refine s_nil ?_
  refine S_ ?_
  refine c_region ?_
  refine s_val (v_moveC rfl) rfl ?_
  refine s_nil ?_
  have hQ15 : (wMul rt y).length = 4 := LQ_
  refine S_ ?_
  refine c_draw 7 mixed (by kernel_rfl) rfl rfl rfl ?_
  refine h_val (v_loadR rfl rfl row_42 sz_42 EQ_ (by decide)) rfl ?_
  refine h_val (v_loadR rfl rfl row_42 sz_42 EQ_ (by decide)) rfl ?_
  refine h_val (v_blf64 (l := (put (zer64 4) 0 (1#64))) za_42 Try.underlying42 sz_40 rfl rfl) rfl ?_
  refine h_val (v_loadR rfl rfl row_42 sz_42 EQ_ (by decide)) rfl ?_
  refine h_val (v_loadR rfl rfl row_42 sz_42 EQ_ (by decide)) rfl ?_
  refine h_evN (e_callR (bs := []) (wMul_ev rt y HYP_ HYP_) ok_78 (by kernel_rfl) (by kernel_rfl) rfl VAL_) APP_ rfl ?_
  refine h_val (v_bld4 rfl rfl rfl rfl (bs_64 EQL_ EQL_ EQL_ EQL_)) rfl ?_
  refine h_nil ?_
  refine s_storeR rfl rfl rfl rfl sz_64 EQ_ EQ_ SET_ ?_
  refine s_val (v_assignC rfl) rfl ?_
  refine s_nil ?_
  refine S_ ?_
  exact k_2 (r_row rfl rfl row_64 sz_64 EQ_ (by decide)) (by first | exact r_tmpC rfl | exact r_tmpA rfl) (by first | kernel_rfl | rfl)
end Go.Proofs.Ytcgncafhonlmlaa
namespace Go.Proofs.Ytcgncafhonlmlaa
open Go.RowKit
set_option maxRecDepth 100000 in
set_option maxHeartbeats 2000000 in
theorem rfDecH_ev (b : List (BitVec 8)) (hb : b.length = 32) (wMul : List (BitVec 64) → List (BitVec 64) → List (BitVec 64)) (wMul_len : ∀ a b : List (BitVec 64), (wMul a b).length = 4) (wMul_ev : ∀ a b : List (BitVec 64), a.length = 4 → b.length = 4 → Ev Try.prog (.call 78 [.agg (.a64 a), .agg (.a64 b)] []) (.val (.agg (.a64 (wMul a b))) [])) (wSub : List (BitVec 64) → List (BitVec 64) → List (BitVec 64)) (wSub_len : ∀ a b : List (BitVec 64), (wSub a b).length = 4) (wSub_ev : ∀ a b : List (BitVec 64), a.length = 4 → b.length = 4 → Ev Try.prog (.call 80 [.agg (.a64 a), .agg (.a64 b)] []) (.val (.agg (.a64 (wSub a b))) [])) (wAdd : List (BitVec 64) → List (BitVec 64) → List (BitVec 64)) (wAdd_len : ∀ a b : List (BitVec 64), (wAdd a b).length = 4) (wAdd_ev : ∀ a b : List (BitVec 64), a.length = 4 → b.length = 4 → Ev Try.prog (.call 82 [.agg (.a64 a), .agg (.a64 b)] []) (.val (.agg (.a64 (wAdd a b))) [])) (wInv : List (BitVec 64) → List (BitVec 64)) (wInv_len : ∀ a : List (BitVec 64), (wInv a).length = 4) (wInv_ev : ∀ a : List (BitVec 64), a.length = 4 → Ev Try.prog (.call 81 [.agg (.a64 a)] []) (.val (.agg (.a64 (wInv a))) [])) (y : List (BitVec 64)) (y_len : y.length = 4) (y_ev : Ev Try.prog (.call 55 [.agg (.a8 (put b 31 ((nth b 31) &&& 127#8)))] []) (.val (.agg (.a64 y)) [])) (dd : List (BitVec 64)) (dd_len : dd.length = 4) (dd_ev : Ev Try.prog (.call 83 [] []) (.val (.agg (.a64 dd)) [])) (rt : List (BitVec 64)) (rt_len : rt.length = 4) (ri : Bool) (rt_ev : Ev Try.prog (.call 79 [.agg (.a64 (wMul (wSub (wMul y y) (put (zer64 4) 0 1#64)) (wInv (wAdd (wMul dd (wMul y y)) (put (zer64 4) 0 1#64)))))] []) (.val (.tup [.agg (.a64 rt), .c (.val (.bool ri))]) [])) (hL : (rfsub1 y rfP == 1#64) = true) (hI : ri = true) (hO : decide ((128#8).toNat ≤ (nth b 31).toNat) = false) (hZ : decide (rt = zer64 4) = true) : Ev Try.prog (.call 40 [.agg (.a8 (b))] []) (.val (.tup [.agg (.a64 (rt ++ y ++ (put (zer64 4) 0 1#64) ++ (wMul rt y))), .c (.val (.bool (true)))]) []) := by
  refine c_call Try.func40 rfl Try.ntmps40 rfl LEN_ ?_
  refine S_ ?_
  refine c_region ?_
  refine s_memN (m_box BX_ LEN_) APP_ rfl ?_
  refine s_memN (m_alloc al_64 LEN_) APP_ rfl ?_
  refine s_val (v_assignC rfl) rfl ?_
  refine s_nil ?_
  have hE1 : (decide ((128#8).toNat ≤ (nth b 31).toNat)) = false := hO
  refine S_ ?_
  refine c_region ?_
  refine s_val (v_idxA1 (j := 31) rfl rfl Try.underlying22 sz_5 (by omega)) rfl ?_
  refine s_val (v_load8 rfl rfl row_5 LT_) rfl ?_
  refine s_val (v_bool (v_geq8 (b := 128#8) rfl rfl) hE1) rfl ?_
  refine s_val (v_assignC rfl) rfl ?_
  refine s_nil ?_
  refine S_ ?_
  refine c_region ?_
  refine s_val (v_idxA1 (j := 31) rfl rfl Try.underlying22 sz_5 (by omega)) rfl ?_
  refine s_val (v_load8 rfl rfl row_5 LT_) rfl ?_
  refine s_val (v_and8 (b := 127#8) rfl rfl) rfl ?_
  refine s_val (v_idxA1 (j := 31) rfl rfl Try.underlying22 sz_5 (by omega)) rfl ?_
  refine s_store8 rfl rfl rfl sz_5 LT_ SET_ ?_
  refine s_nil ?_
  have hQ2 : (y).length = 4 := LQ_
  refine S_ ?_
  refine c_region ?_
  refine s_val (v_loadR rfl rfl row_22 sz_22 EQ_ (by decide)) rfl ?_
  refine s_evN (e_callR (bs := []) (y_ev) ok_55 (by kernel_rfl) (by kernel_rfl) rfl VAL_) APP_ rfl ?_
  refine s_memN (m_alloc al_42 LEN_) APP_ rfl ?_
  refine s_storeR rfl rfl rfl rfl sz_42 EQ_ EQ_ SET_ ?_
  refine s_nil ?_
  have hQ4 : (rfP).length = 4 := LQ_
  have hE3 : (!((rfsub1 y rfP) == 1#64)) = false := by rw [hL]; rfl
  refine S_ ?_
  refine c_draw 4 mixed (by kernel_rfl) rfl rfl rfl ?_
  refine h_val (v_loadR rfl rfl row_42 sz_42 EQ_ (by decide)) rfl ?_
  refine h_evN (e_callR (bs := []) (rfP_ev) ok_77 (by kernel_rfl) (by kernel_rfl) rfl VAL_) APP_ rfl ?_
  refine h_evN (e_callR (bs := []) (rfless_ev y rfP HYP_ HYP_) ok_76 (by kernel_rfl) (by kernel_rfl) rfl VAL_) APP_ rfl ?_
  refine h_val (v_bool (v_unnotB rfl) hE3) rfl ?_
  refine h_nil ?_
  refine s_nil ?_
  have hQ5 : (wMul y y).length = 4 := LQ_
  refine S_ ?_
  refine c_region ?_
  refine s_val (v_loadR rfl rfl row_42 sz_42 EQ_ (by decide)) rfl ?_
  refine s_val (v_loadR rfl rfl row_42 sz_42 EQ_ (by decide)) rfl ?_
  refine s_evN (e_callR (bs := []) (wMul_ev y y HYP_ HYP_) ok_78 (by kernel_rfl) (by kernel_rfl) rfl VAL_) APP_ rfl ?_
  refine s_memN (m_alloc al_42 LEN_) APP_ rfl ?_
  refine s_storeR rfl rfl rfl rfl sz_42 EQ_ EQ_ SET_ ?_
  refine s_nil ?_
  have hQ7 : (wSub (wMul y y) (put (zer64 4) 0 1#64)).length = 4 := LQ_
  have hQ8 : (dd).length = 4 := LQ_
  have hQ9 : (wMul dd (wMul y y)).length = 4 := LQ_
  have hQ10 : (wAdd (wMul dd (wMul y y)) (put (zer64 4) 0 1#64)).length = 4 := LQ_
  have hQ11 : (wInv (wAdd (wMul dd (wMul y y)) (put (zer64 4) 0 1#64))).length = 4 := LQ_
  have hQ12 : (wMul (wSub (wMul y y) (put (zer64 4) 0 1#64)) (wInv (wAdd (wMul dd (wMul y y)) (put (zer64 4) 0 1#64)))).length = 4 := LQ_
  have hQ13 : (rt).length = 4 := LQ_
  have hE6 : (ri) = true := hI
  refine S_ ?_
  refine c_late 15 13 mixed (by kernel_rfl) (by kernel_rfl) rfl rfl rfl ?_
  refine h_val (v_loadR rfl rfl row_42 sz_42 EQ_ (by decide)) rfl ?_
  refine h_val (v_blf64 (l := (put (zer64 4) 0 (1#64))) za_42 Try.underlying42 sz_40 rfl rfl) rfl ?_
  refine h_evN (e_callR (bs := []) (wSub_ev (wMul y y) (put (zer64 4) 0 1#64) HYP_ HYP_) ok_80 (by kernel_rfl) (by kernel_rfl) rfl VAL_) APP_ rfl ?_
  refine h_evN (e_callR (bs := []) (dd_ev) ok_83 (by kernel_rfl) (by kernel_rfl) rfl VAL_) APP_ rfl ?_
  refine h_val (v_loadR rfl rfl row_42 sz_42 EQ_ (by decide)) rfl ?_
  refine h_evN (e_callR (bs := []) (wMul_ev dd (wMul y y) HYP_ HYP_) ok_78 (by kernel_rfl) (by kernel_rfl) rfl VAL_) APP_ rfl ?_
  refine h_val (v_blf64 (l := (put (zer64 4) 0 (1#64))) za_42 Try.underlying42 sz_40 rfl rfl) rfl ?_
  refine h_evN (e_callR (bs := []) (wAdd_ev (wMul dd (wMul y y)) (put (zer64 4) 0 1#64) HYP_ HYP_) ok_82 (by kernel_rfl) (by kernel_rfl) rfl VAL_) APP_ rfl ?_
  refine h_evN (e_callR (bs := []) (wInv_ev (wAdd (wMul dd (wMul y y)) (put (zer64 4) 0 1#64)) HYP_) ok_81 (by kernel_rfl) (by kernel_rfl) rfl VAL_) APP_ rfl ?_
  refine h_evN (e_callR (bs := []) (wMul_ev (wSub (wMul y y) (put (zer64 4) 0 1#64)) (wInv (wAdd (wMul dd (wMul y y)) (put (zer64 4) 0 1#64))) HYP_ HYP_) ok_78 (by kernel_rfl) (by kernel_rfl) rfl VAL_) APP_ rfl ?_
  refine h_evN (e_callR (bs := []) (rt_ev) ok_79 (by kernel_rfl) (by kernel_rfl) rfl VAL_) APP_ rfl ?_
  refine h_val (v_moveT rfl) rfl ?_
  refine h_val (v_extract rfl rfl) rfl ?_
  refine h_val (v_bool (v_extract rfl rfl) hE6) rfl ?_
  refine h_memN (m_alloc al_42 LEN_) APP_ rfl ?_
  refine h_nil ?_
  refine s_storeR rfl rfl rfl rfl sz_42 EQ_ EQ_ SET_ ?_
  refine s_val (v_assignC rfl) rfl ?_
  refine s_nil ?_
  have hE14 : (decide (rt = zer64 4)) = true := hZ
  refine S_ ?_
  refine c_region ?_
  refine s_val (v_moveC rfl) rfl ?_
  refine s_val (v_unnotB rfl) rfl ?_
  refine s_val (v_moveC rfl) rfl ?_
  refine s_go GO_ ?_
  refine s_val (v_loadR rfl rfl row_42 sz_42 EQ_ (by decide)) rfl ?_
  refine s_go GO_ ?_
  refine s_val (v_blf64 (l := (zer64 4)) za_42 Try.underlying42 sz_40 rfl rfl) rfl ?_
  refine s_go GO_ ?_
  refine s_val (v_bool (v_eqlR64 rfl rfl Try.underlying42 Try.underlying40 sz_40 EQ_ EQ_) hE14) rfl ?_
  refine s_go GO_ ?_
  refine s_val (v_moveC rfl) rfl ?_
  refine s_go GO_ ?_
  refine s_val (v_moveC rfl) rfl ?_
  refine s_go GO_ ?_
  refine s_val (v_pickT rfl PK_ rfl) rfl ?_
  refine s_val (v_pickF rfl PK_ rfl) rfl ?_
  refine s_nil ?_
  refine S_ ?_
  refine c_region ?_
  refine s_val (v_moveC rfl) rfl ?_
  refine s_nil ?_
  have hQ15 : (wMul rt y).length = 4 := LQ_
  refine S_ ?_
  refine c_draw 7 mixed (by kernel_rfl) rfl rfl rfl ?_
  refine h_val (v_loadR rfl rfl row_42 sz_42 EQ_ (by decide)) rfl ?_
  refine h_val (v_loadR rfl rfl row_42 sz_42 EQ_ (by decide)) rfl ?_
  refine h_val (v_blf64 (l := (put (zer64 4) 0 (1#64))) za_42 Try.underlying42 sz_40 rfl rfl) rfl ?_
  refine h_val (v_loadR rfl rfl row_42 sz_42 EQ_ (by decide)) rfl ?_
  refine h_val (v_loadR rfl rfl row_42 sz_42 EQ_ (by decide)) rfl ?_
  refine h_evN (e_callR (bs := []) (wMul_ev rt y HYP_ HYP_) ok_78 (by kernel_rfl) (by kernel_rfl) rfl VAL_) APP_ rfl ?_
  refine h_val (v_bld4 rfl rfl rfl rfl (bs_64 EQL_ EQL_ EQL_ EQL_)) rfl ?_
  refine h_nil ?_
  refine s_storeR rfl rfl rfl rfl sz_64 EQ_ EQ_ SET_ ?_
  refine s_val (v_assignC rfl) rfl ?_
  refine s_nil ?_
  refine S_ ?_
  exact k_2 (r_row rfl rfl row_64 sz_64 EQ_ (by decide)) (by first | exact r_tmpC rfl | exact r_tmpA rfl) (by first | kernel_rfl | rfl)
end Go.Proofs.Ytcgncafhonlmlaa
