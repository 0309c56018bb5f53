/- The texts GVfyA, GVfyB, GVfyC, GVfyD, GVfyL, GVfy, GRJoin, GRKey, SRfPad5, SRfK, SRf512, SSameG, SSame5, GRef5, FRfN, FRfMul, FRfPow, FRfLaws, FRfSame, FRfAddL, FRfAddS, RfLess, CvL, RfModL, RfModB, RfMA, RfNumL, GRSeed, RfDecA, RfDecB, RfDecD, RfDecE, RfDecH, merged into one. -/
import Derived.Test.YtcgncafhonlmlaaGT5
namespace Go.Proofs.Ytcgncafhonlmlaa
open Go.RowKit
set_option maxRecDepth 100000 in
set_option maxHeartbeats 2000000 in
theorem sgVfyA_ev (pub : List (BitVec 8)) (text : List (BitVec 8)) (tn : Nat) (tcap : Nat) (sig : List (BitVec 8)) (hpub : pub.length = 32) (htext : text.length = tn) (htn : tn ≤ 1099511627) (hsig : sig.length = 64) (hT : tn ≤ 65536) (hB : sBelow (cut sig 32 32) = false) : Ev Try.prog (.call 18 [.agg (.a8 (pub)), .c (.sl 0 0 tn tcap 1), .agg (.a8 (sig))] [.row false (.a8 (text))]) (.val (.c (.val (.bool (false)))) [.row false (.a8 (text))]) := by
  subst htext
  refine c_call Try.func18 rfl Try.ntmps18 rfl LEN_ ?_
  refine S_ ?_
  refine c_region ?_
  refine s_memN (m_box BX_ LEN_) APP_ rfl ?_
  refine s_memN (m_box BX_ LEN_) APP_ rfl ?_
  refine s_val (v_assignC rfl) rfl ?_
  refine s_nil ?_
  have hQ1 : (cut sig 0 32).length = 32 := LQ_
  have hQ2 : (cut sig 32 32).length = 32 := LQ_
  refine S_ ?_
  refine c_draw 8 mixed (by kernel_rfl) rfl rfl rfl ?_
  refine h_val (v_slA1 (l := 0) (h := 32) (len := 32) (cp := 64) rfl Try.underlying25 sz_5 rfl rfl rfl (by omega) (by omega) FIT_ rfl rfl) rfl ?_
  refine h_val (v_arrP rfl Try.underlying22 (by omega) (by decide)) rfl ?_
  refine h_val (v_loadW8 rfl rfl row_22 sz_22 LE_ (by decide)) rfl ?_
  refine h_val (v_slA1 (l := 32) (h := 64) (len := 32) (cp := 32) rfl Try.underlying25 sz_5 rfl rfl rfl (by omega) (by omega) FIT_ rfl rfl) rfl ?_
  refine h_val (v_arrP rfl Try.underlying22 (by omega) (by decide)) rfl ?_
  refine h_val (v_loadW8 rfl rfl row_22 sz_22 LE_ (by decide)) rfl ?_
  refine h_memN (m_alloc al_22 LEN_) APP_ rfl ?_
  refine h_memN (m_alloc al_22 LEN_) APP_ rfl ?_
  refine h_nil ?_
  refine s_storeR rfl rfl rfl rfl sz_22 EQ_ EQ_ SET_ ?_
  refine s_storeR rfl rfl rfl rfl sz_22 EQ_ EQ_ SET_ ?_
  refine s_nil ?_
  refine S_ ?_
  refine c_region ?_
  refine s_val (v_moveC rfl) rfl ?_
  refine s_val (v_lenS rfl Try.underlying23) rfl ?_
  refine s_val (v_gtrN (b := 65536) rfl rfl) rfl ?_
  refine s_val (v_moveC rfl) rfl ?_
  refine s_go GO_ ?_
  refine s_val (v_loadR rfl rfl row_22 sz_22 EQ_ (by decide)) rfl ?_
  refine s_go GO_ ?_
  refine s_evN (e_callR (bs := []) (sBelowV_ev (cut sig 32 32) false HYP_ hB) ok_17 (by kernel_rfl) (by kernel_rfl) rfl VAL_) APP_ rfl ?_
  refine s_go GO_ ?_
  refine s_val (v_unnotB rfl) rfl ?_
  refine s_val (v_pickF rfl PK_ rfl) rfl ?_
  refine s_nil ?_
  refine S_ ?_
  refine c_region ?_
  refine s_val (v_assignC rfl) rfl ?_
  refine s_nil ?_
  refine S_ ?_
  exact k_1 (by first | exact r_tmpC rfl | exact r_tmpA rfl) (by first | kernel_rfl | rfl)
end Go.Proofs.Ytcgncafhonlmlaa
namespace Go.Proofs.Ytcgncafhonlmlaa
open Go.RowKit
set_option maxRecDepth 100000 in
set_option maxHeartbeats 2000000 in
theorem sgVfyB_ev (pub : List (BitVec 8)) (text : List (BitVec 8)) (tn : Nat) (tcap : Nat) (sig : List (BitVec 8)) (hpub : pub.length = 32) (htext : text.length = tn) (htn : tn ≤ 1099511627) (hsig : sig.length = 64) (hT : tn ≤ 65536) (hB : sBelow (cut sig 32 32) = true) (hp : unOk pub = false) : Ev Try.prog (.call 18 [.agg (.a8 (pub)), .c (.sl 0 0 tn tcap 1), .agg (.a8 (sig))] [.row false (.a8 (text))]) (.val (.c (.val (.bool (false)))) [.row false (.a8 (text))]) := by
  subst htext
  refine c_call Try.func18 rfl Try.ntmps18 rfl LEN_ ?_
  refine S_ ?_
  refine c_region ?_
  refine s_memN (m_box BX_ LEN_) APP_ rfl ?_
  refine s_memN (m_box BX_ LEN_) APP_ rfl ?_
  refine s_val (v_assignC rfl) rfl ?_
  refine s_nil ?_
  have hQ1 : (cut sig 0 32).length = 32 := LQ_
  have hQ2 : (cut sig 32 32).length = 32 := LQ_
  refine S_ ?_
  refine c_draw 8 mixed (by kernel_rfl) rfl rfl rfl ?_
  refine h_val (v_slA1 (l := 0) (h := 32) (len := 32) (cp := 64) rfl Try.underlying25 sz_5 rfl rfl rfl (by omega) (by omega) FIT_ rfl rfl) rfl ?_
  refine h_val (v_arrP rfl Try.underlying22 (by omega) (by decide)) rfl ?_
  refine h_val (v_loadW8 rfl rfl row_22 sz_22 LE_ (by decide)) rfl ?_
  refine h_val (v_slA1 (l := 32) (h := 64) (len := 32) (cp := 32) rfl Try.underlying25 sz_5 rfl rfl rfl (by omega) (by omega) FIT_ rfl rfl) rfl ?_
  refine h_val (v_arrP rfl Try.underlying22 (by omega) (by decide)) rfl ?_
  refine h_val (v_loadW8 rfl rfl row_22 sz_22 LE_ (by decide)) rfl ?_
  refine h_memN (m_alloc al_22 LEN_) APP_ rfl ?_
  refine h_memN (m_alloc al_22 LEN_) APP_ rfl ?_
  refine h_nil ?_
  refine s_storeR rfl rfl rfl rfl sz_22 EQ_ EQ_ SET_ ?_
  refine s_storeR rfl rfl rfl rfl sz_22 EQ_ EQ_ SET_ ?_
  refine s_nil ?_
  refine S_ ?_
  refine c_region ?_
  refine s_val (v_moveC rfl) rfl ?_
  refine s_val (v_lenS rfl Try.underlying23) rfl ?_
  refine s_val (v_gtrN (b := 65536) rfl rfl) rfl ?_
  refine s_val (v_moveC rfl) rfl ?_
  refine s_go GO_ ?_
  refine s_val (v_loadR rfl rfl row_22 sz_22 EQ_ (by decide)) rfl ?_
  refine s_go GO_ ?_
  refine s_evN (e_callR (bs := []) (sBelowV_ev (cut sig 32 32) true HYP_ hB) ok_17 (by kernel_rfl) (by kernel_rfl) rfl VAL_) APP_ rfl ?_
  refine s_go GO_ ?_
  refine s_val (v_unnotB rfl) rfl ?_
  refine s_val (v_pickF rfl PK_ rfl) rfl ?_
  refine s_nil ?_
  have hQ3 : (sgAns3 (cut sig 0 32) pub text).length = 32 := LQ_
  have hQ4 : (cvTmsF0).length = 32 := LQ_
  refine S_ ?_
  refine c_late 11 9 mixed (by kernel_rfl) (by kernel_rfl) rfl rfl rfl ?_
  refine h_val (v_slA1 (l := 0) (h := 32) (len := 32) (cp := 32) rfl Try.underlying22 sz_5 rfl rfl rfl (by omega) (by omega) FIT_ rfl rfl) rfl ?_
  refine h_val (v_slA1 (l := 0) (h := 32) (len := 32) (cp := 32) rfl Try.underlying22 sz_5 rfl rfl rfl (by omega) (by omega) FIT_ rfl rfl) rfl ?_
  refine h_val (v_moveC rfl) rfl ?_
  refine h_memN (m_bsc Try.underlying75 el_23 (rep_23 _) rfl CS_ (by decide) (by decide) LEN_) APP_ rfl ?_
  refine h_evN (e_callR (bs := [5,3,1,0]) (sgAns3_ev (cut sig 0 32) 32 32 pub 32 32 text text.length tcap HYP_ HYP_ HYP_ HYP_ HYP_ HYP_) ok_25 (by kernel_rfl) (by kernel_rfl) rfl VAL_) APP_ rfl ?_
  refine h_val (v_loadR rfl rfl row_22 sz_22 EQ_ (by decide)) rfl ?_
  refine h_evN (e_callR (bs := []) (cvTmsF_ev (sgAns3 (cut sig 0 32) pub text) pub HYP_ HYP_ hp) ok_37 (by kernel_rfl) (by kernel_rfl) rfl VAL_) APP_ rfl ?_
  refine h_val (v_moveT rfl) rfl ?_
  refine h_val (v_extract rfl rfl) rfl ?_
  refine h_val (v_extract rfl rfl) rfl ?_
  refine h_memN (m_alloc al_22 LEN_) APP_ rfl ?_
  refine h_nil ?_
  refine s_storeR rfl rfl rfl rfl sz_22 EQ_ EQ_ SET_ ?_
  refine s_val (v_assignC rfl) rfl ?_
  refine s_nil ?_
  refine S_ ?_
  refine c_region ?_
  refine s_val (v_moveC rfl) rfl ?_
  refine s_val (v_neqN (a := 4) (b := 0) rfl rfl) rfl ?_
  refine s_nil ?_
  refine S_ ?_
  refine c_region ?_
  refine s_val (v_assignC rfl) rfl ?_
  refine s_nil ?_
  refine S_ ?_
  exact k_1 (by first | exact r_tmpC rfl | exact r_tmpA rfl) (by first | kernel_rfl | rfl)
end Go.Proofs.Ytcgncafhonlmlaa
namespace Go.Proofs.Ytcgncafhonlmlaa
open Go.RowKit
set_option maxRecDepth 100000 in
set_option maxHeartbeats 2000000 in
theorem sgVfyC_ev (pub : List (BitVec 8)) (text : List (BitVec 8)) (tn : Nat) (tcap : Nat) (sig : List (BitVec 8)) (hpub : pub.length = 32) (htext : text.length = tn) (htn : tn ≤ 1099511627) (hsig : sig.length = 64) (hT : tn ≤ 65536) (hB : sBelow (cut sig 32 32) = true) (hp : unOk pub = true) (hr : unOk (cut sig 0 32) = false) : Ev Try.prog (.call 18 [.agg (.a8 (pub)), .c (.sl 0 0 tn tcap 1), .agg (.a8 (sig))] [.row false (.a8 (text))]) (.val (.c (.val (.bool (false)))) [.row false (.a8 (text))]) := by
  subst htext
  refine c_call Try.func18 rfl Try.ntmps18 rfl LEN_ ?_
  refine S_ ?_
  refine c_region ?_
  refine s_memN (m_box BX_ LEN_) APP_ rfl ?_
  refine s_memN (m_box BX_ LEN_) APP_ rfl ?_
  refine s_val (v_assignC rfl) rfl ?_
  refine s_nil ?_
  have hQ1 : (cut sig 0 32).length = 32 := LQ_
  have hQ2 : (cut sig 32 32).length = 32 := LQ_
  refine S_ ?_
  refine c_draw 8 mixed (by kernel_rfl) rfl rfl rfl ?_
  refine h_val (v_slA1 (l := 0) (h := 32) (len := 32) (cp := 64) rfl Try.underlying25 sz_5 rfl rfl rfl (by omega) (by omega) FIT_ rfl rfl) rfl ?_
  refine h_val (v_arrP rfl Try.underlying22 (by omega) (by decide)) rfl ?_
  refine h_val (v_loadW8 rfl rfl row_22 sz_22 LE_ (by decide)) rfl ?_
  refine h_val (v_slA1 (l := 32) (h := 64) (len := 32) (cp := 32) rfl Try.underlying25 sz_5 rfl rfl rfl (by omega) (by omega) FIT_ rfl rfl) rfl ?_
  refine h_val (v_arrP rfl Try.underlying22 (by omega) (by decide)) rfl ?_
  refine h_val (v_loadW8 rfl rfl row_22 sz_22 LE_ (by decide)) rfl ?_
  refine h_memN (m_alloc al_22 LEN_) APP_ rfl ?_
  refine h_memN (m_alloc al_22 LEN_) APP_ rfl ?_
  refine h_nil ?_
  refine s_storeR rfl rfl rfl rfl sz_22 EQ_ EQ_ SET_ ?_
  refine s_storeR rfl rfl rfl rfl sz_22 EQ_ EQ_ SET_ ?_
  refine s_nil ?_
  refine S_ ?_
  refine c_region ?_
  refine s_val (v_moveC rfl) rfl ?_
  refine s_val (v_lenS rfl Try.underlying23) rfl ?_
  refine s_val (v_gtrN (b := 65536) rfl rfl) rfl ?_
  refine s_val (v_moveC rfl) rfl ?_
  refine s_go GO_ ?_
  refine s_val (v_loadR rfl rfl row_22 sz_22 EQ_ (by decide)) rfl ?_
  refine s_go GO_ ?_
  refine s_evN (e_callR (bs := []) (sBelowV_ev (cut sig 32 32) true HYP_ hB) ok_17 (by kernel_rfl) (by kernel_rfl) rfl VAL_) APP_ rfl ?_
  refine s_go GO_ ?_
  refine s_val (v_unnotB rfl) rfl ?_
  refine s_val (v_pickF rfl PK_ rfl) rfl ?_
  refine s_nil ?_
  have hQ3 : (sgAns3 (cut sig 0 32) pub text).length = 32 := LQ_
  have hQ4 : (cvTmsT0 (sgAns3 (cut sig 0 32) pub text) pub).length = 32 := LQ_
  refine S_ ?_
  refine c_late 11 9 mixed (by kernel_rfl) (by kernel_rfl) rfl rfl rfl ?_
  refine h_val (v_slA1 (l := 0) (h := 32) (len := 32) (cp := 32) rfl Try.underlying22 sz_5 rfl rfl rfl (by omega) (by omega) FIT_ rfl rfl) rfl ?_
  refine h_val (v_slA1 (l := 0) (h := 32) (len := 32) (cp := 32) rfl Try.underlying22 sz_5 rfl rfl rfl (by omega) (by omega) FIT_ rfl rfl) rfl ?_
  refine h_val (v_moveC rfl) rfl ?_
  refine h_memN (m_bsc Try.underlying75 el_23 (rep_23 _) rfl CS_ (by decide) (by decide) LEN_) APP_ rfl ?_
  refine h_evN (e_callR (bs := [5,3,1,0]) (sgAns3_ev (cut sig 0 32) 32 32 pub 32 32 text text.length tcap HYP_ HYP_ HYP_ HYP_ HYP_ HYP_) ok_25 (by kernel_rfl) (by kernel_rfl) rfl VAL_) APP_ rfl ?_
  refine h_val (v_loadR rfl rfl row_22 sz_22 EQ_ (by decide)) rfl ?_
  refine h_evN (e_callR (bs := []) (cvTmsT_ev (sgAns3 (cut sig 0 32) pub text) pub HYP_ HYP_ hp) ok_37 (by kernel_rfl) (by kernel_rfl) rfl VAL_) APP_ rfl ?_
  refine h_val (v_moveT rfl) rfl ?_
  refine h_val (v_extract rfl rfl) rfl ?_
  refine h_val (v_extract rfl rfl) rfl ?_
  refine h_memN (m_alloc al_22 LEN_) APP_ rfl ?_
  refine h_nil ?_
  refine s_storeR rfl rfl rfl rfl sz_22 EQ_ EQ_ SET_ ?_
  refine s_val (v_assignC rfl) rfl ?_
  refine s_nil ?_
  refine S_ ?_
  refine c_region ?_
  refine s_val (v_moveC rfl) rfl ?_
  refine s_val (v_neqN (a := 0) (b := 0) rfl rfl) rfl ?_
  refine s_nil ?_
  have hQ5 : (cvAddN0).length = 32 := LQ_
  refine S_ ?_
  refine c_region ?_
  refine s_val (v_loadR rfl rfl row_22 sz_22 EQ_ (by decide)) rfl ?_
  refine s_val (v_loadR rfl rfl row_22 sz_22 EQ_ (by decide)) rfl ?_
  refine s_evN (e_callR (bs := []) (cvAddN_ev (cut sig 0 32) (cvTmsT0 (sgAns3 (cut sig 0 32) pub text) pub) HYP_ HYP_ hr) ok_38 (by kernel_rfl) (by kernel_rfl) rfl VAL_) APP_ rfl ?_
  refine s_val (v_moveT rfl) rfl ?_
  refine s_val (v_extract rfl rfl) rfl ?_
  refine s_val (v_extract rfl rfl) rfl ?_
  refine s_memN (m_alloc al_22 LEN_) APP_ rfl ?_
  refine s_storeR rfl rfl rfl rfl sz_22 EQ_ EQ_ SET_ ?_
  refine s_val (v_assignC rfl) rfl ?_
  refine s_nil ?_
  refine S_ ?_
  refine c_draw 9 mixed (by kernel_rfl) rfl rfl rfl ?_
  refine h_val (v_moveC rfl) rfl ?_
  refine h_val (v_eqlN (a := 4) (b := 0) rfl rfl) rfl ?_
  refine h_val (v_moveC rfl) rfl ?_
  refine h_no GO_ ?_
  refine h_no GO_ ?_
  refine h_no GO_ ?_
  refine h_no GO_ ?_
  refine h_val (v_pickF rfl PK_ rfl) rfl ?_
  refine h_val (v_assignC rfl) rfl ?_
  refine h_nil ?_
  refine s_nil ?_
  refine S_ ?_
  exact k_1 (by first | exact r_tmpC rfl | exact r_tmpA rfl) (by first | kernel_rfl | rfl)
end Go.Proofs.Ytcgncafhonlmlaa
namespace Go.Proofs.Ytcgncafhonlmlaa
open Go.RowKit
set_option maxRecDepth 100000 in
set_option maxHeartbeats 2000000 in
theorem sgVfyD_ev (pub : List (BitVec 8)) (text : List (BitVec 8)) (tn : Nat) (tcap : Nat) (sig : List (BitVec 8)) (hpub : pub.length = 32) (htext : text.length = tn) (htn : tn ≤ 1099511627) (hsig : sig.length = 64) (hT : tn ≤ 65536) (hB : sBelow (cut sig 32 32) = true) (hp : unOk pub = true) (hr : unOk (cut sig 0 32) = true) : Ev Try.prog (.call 18 [.agg (.a8 (pub)), .c (.sl 0 0 tn tcap 1), .agg (.a8 (sig))] [.row false (.a8 (text))]) (.val (.c (.val (.bool (decide (cvAddT0 (cut sig 0 32) (cvTmsT0 (sgAns3 (cut sig 0 32) pub text) pub) = enc (oB (cut sig 32 32))))))) [.row false (.a8 (text))]) := by
  subst htext
  refine c_call Try.func18 rfl Try.ntmps18 rfl LEN_ ?_
  refine S_ ?_
  refine c_region ?_
  refine s_memN (m_box BX_ LEN_) APP_ rfl ?_
  refine s_memN (m_box BX_ LEN_) APP_ rfl ?_
  refine s_val (v_assignC rfl) rfl ?_
  refine s_nil ?_
  have hQ1 : (cut sig 0 32).length = 32 := LQ_
  have hQ2 : (cut sig 32 32).length = 32 := LQ_
  refine S_ ?_
  refine c_draw 8 mixed (by kernel_rfl) rfl rfl rfl ?_
  refine h_val (v_slA1 (l := 0) (h := 32) (len := 32) (cp := 64) rfl Try.underlying25 sz_5 rfl rfl rfl (by omega) (by omega) FIT_ rfl rfl) rfl ?_
  refine h_val (v_arrP rfl Try.underlying22 (by omega) (by decide)) rfl ?_
  refine h_val (v_loadW8 rfl rfl row_22 sz_22 LE_ (by decide)) rfl ?_
  refine h_val (v_slA1 (l := 32) (h := 64) (len := 32) (cp := 32) rfl Try.underlying25 sz_5 rfl rfl rfl (by omega) (by omega) FIT_ rfl rfl) rfl ?_
  refine h_val (v_arrP rfl Try.underlying22 (by omega) (by decide)) rfl ?_
  refine h_val (v_loadW8 rfl rfl row_22 sz_22 LE_ (by decide)) rfl ?_
  refine h_memN (m_alloc al_22 LEN_) APP_ rfl ?_
  refine h_memN (m_alloc al_22 LEN_) APP_ rfl ?_
  refine h_nil ?_
  refine s_storeR rfl rfl rfl rfl sz_22 EQ_ EQ_ SET_ ?_
  refine s_storeR rfl rfl rfl rfl sz_22 EQ_ EQ_ SET_ ?_
  refine s_nil ?_
  refine S_ ?_
  refine c_region ?_
  refine s_val (v_moveC rfl) rfl ?_
  refine s_val (v_lenS rfl Try.underlying23) rfl ?_
  refine s_val (v_gtrN (b := 65536) rfl rfl) rfl ?_
  refine s_val (v_moveC rfl) rfl ?_
  refine s_go GO_ ?_
  refine s_val (v_loadR rfl rfl row_22 sz_22 EQ_ (by decide)) rfl ?_
  refine s_go GO_ ?_
  refine s_evN (e_callR (bs := []) (sBelowV_ev (cut sig 32 32) true HYP_ hB) ok_17 (by kernel_rfl) (by kernel_rfl) rfl VAL_) APP_ rfl ?_
  refine s_go GO_ ?_
  refine s_val (v_unnotB rfl) rfl ?_
  refine s_val (v_pickF rfl PK_ rfl) rfl ?_
  refine s_nil ?_
  have hQ3 : (sgAns3 (cut sig 0 32) pub text).length = 32 := LQ_
  have hQ4 : (cvTmsT0 (sgAns3 (cut sig 0 32) pub text) pub).length = 32 := LQ_
  refine S_ ?_
  refine c_late 11 9 mixed (by kernel_rfl) (by kernel_rfl) rfl rfl rfl ?_
  refine h_val (v_slA1 (l := 0) (h := 32) (len := 32) (cp := 32) rfl Try.underlying22 sz_5 rfl rfl rfl (by omega) (by omega) FIT_ rfl rfl) rfl ?_
  refine h_val (v_slA1 (l := 0) (h := 32) (len := 32) (cp := 32) rfl Try.underlying22 sz_5 rfl rfl rfl (by omega) (by omega) FIT_ rfl rfl) rfl ?_
  refine h_val (v_moveC rfl) rfl ?_
  refine h_memN (m_bsc Try.underlying75 el_23 (rep_23 _) rfl CS_ (by decide) (by decide) LEN_) APP_ rfl ?_
  refine h_evN (e_callR (bs := [5,3,1,0]) (sgAns3_ev (cut sig 0 32) 32 32 pub 32 32 text text.length tcap HYP_ HYP_ HYP_ HYP_ HYP_ HYP_) ok_25 (by kernel_rfl) (by kernel_rfl) rfl VAL_) APP_ rfl ?_
  refine h_val (v_loadR rfl rfl row_22 sz_22 EQ_ (by decide)) rfl ?_
  refine h_evN (e_callR (bs := []) (cvTmsT_ev (sgAns3 (cut sig 0 32) pub text) pub HYP_ HYP_ hp) ok_37 (by kernel_rfl) (by kernel_rfl) rfl VAL_) APP_ rfl ?_
  refine h_val (v_moveT rfl) rfl ?_
  refine h_val (v_extract rfl rfl) rfl ?_
  refine h_val (v_extract rfl rfl) rfl ?_
  refine h_memN (m_alloc al_22 LEN_) APP_ rfl ?_
  refine h_nil ?_
  refine s_storeR rfl rfl rfl rfl sz_22 EQ_ EQ_ SET_ ?_
  refine s_val (v_assignC rfl) rfl ?_
  refine s_nil ?_
  refine S_ ?_
  refine c_region ?_
  refine s_val (v_moveC rfl) rfl ?_
  refine s_val (v_neqN (a := 0) (b := 0) rfl rfl) rfl ?_
  refine s_nil ?_
  have hQ5 : (cvAddT0 (cut sig 0 32) (cvTmsT0 (sgAns3 (cut sig 0 32) pub text) pub)).length = 32 := LQ_
  refine S_ ?_
  refine c_region ?_
  refine s_val (v_loadR rfl rfl row_22 sz_22 EQ_ (by decide)) rfl ?_
  refine s_val (v_loadR rfl rfl row_22 sz_22 EQ_ (by decide)) rfl ?_
  refine s_evN (e_callR (bs := []) (cvAddT_ev (cut sig 0 32) (cvTmsT0 (sgAns3 (cut sig 0 32) pub text) pub) HYP_ HYP_ hr (unOk_tms _ _ hpub hp)) ok_38 (by kernel_rfl) (by kernel_rfl) rfl VAL_) APP_ rfl ?_
  refine s_val (v_moveT rfl) rfl ?_
  refine s_val (v_extract rfl rfl) rfl ?_
  refine s_val (v_extract rfl rfl) rfl ?_
  refine s_memN (m_alloc al_22 LEN_) APP_ rfl ?_
  refine s_storeR rfl rfl rfl rfl sz_22 EQ_ EQ_ SET_ ?_
  refine s_val (v_assignC rfl) rfl ?_
  refine s_nil ?_
  have hQ6 : (enc (oB (cut sig 32 32))).length = 32 := LQ_
  refine S_ ?_
  refine c_draw 9 mixed (by kernel_rfl) rfl rfl rfl ?_
  refine h_val (v_moveC rfl) rfl ?_
  refine h_val (v_eqlN (a := 0) (b := 0) rfl rfl) rfl ?_
  refine h_val (v_moveC rfl) rfl ?_
  refine h_go GO_ ?_
  refine h_val (v_loadR rfl rfl row_22 sz_22 EQ_ (by decide)) rfl ?_
  refine h_go GO_ ?_
  refine h_val (v_loadR rfl rfl row_22 sz_22 EQ_ (by decide)) rfl ?_
  refine h_go GO_ ?_
  refine h_evN (e_callR (bs := []) (bsE_ev (cut sig 32 32) HYP_) ok_22 (by kernel_rfl) (by kernel_rfl) rfl VAL_) APP_ rfl ?_
  refine h_go GO_ ?_
  refine h_val (v_eqlR8 rfl rfl Try.underlying22 Try.underlying5 sz_5 EQ_ EQ_) rfl ?_
  refine h_val (v_pickT rfl PK_ rfl) rfl ?_
  refine h_val (v_assignC rfl) rfl ?_
  refine h_nil ?_
  refine s_nil ?_
  refine S_ ?_
  exact k_1 (by first | exact r_tmpC rfl | exact r_tmpA rfl) (by first | kernel_rfl | rfl)
end Go.Proofs.Ytcgncafhonlmlaa
namespace Go.Proofs.Ytcgncafhonlmlaa
open Go.RowKit
set_option maxRecDepth 100000 in
set_option maxHeartbeats 2000000 in
theorem sgVfyL_ev (pub : List (BitVec 8)) (text : List (BitVec 8)) (tn : Nat) (tcap : Nat) (sig : List (BitVec 8)) (hpub : pub.length = 32) (htext : text.length = tn) (htn : tn ≤ 1099511627) (hsig : sig.length = 64) (hT : 65536 < tn) : Ev Try.prog (.call 18 [.agg (.a8 (pub)), .c (.sl 0 0 tn tcap 1), .agg (.a8 (sig))] [.row false (.a8 (text))]) (.val (.c (.val (.bool (false)))) [.row false (.a8 (text))]) := by
  subst htext
  refine c_call Try.func18 rfl Try.ntmps18 rfl LEN_ ?_
  refine S_ ?_
  refine c_region ?_
  refine s_memN (m_box BX_ LEN_) APP_ rfl ?_
  refine s_memN (m_box BX_ LEN_) APP_ rfl ?_
  refine s_val (v_assignC rfl) rfl ?_
  refine s_nil ?_
  have hQ1 : (cut sig 0 32).length = 32 := LQ_
  have hQ2 : (cut sig 32 32).length = 32 := LQ_
  refine S_ ?_
  refine c_draw 8 mixed (by kernel_rfl) rfl rfl rfl ?_
  refine h_val (v_slA1 (l := 0) (h := 32) (len := 32) (cp := 64) rfl Try.underlying25 sz_5 rfl rfl rfl (by omega) (by omega) FIT_ rfl rfl) rfl ?_
  refine h_val (v_arrP rfl Try.underlying22 (by omega) (by decide)) rfl ?_
  refine h_val (v_loadW8 rfl rfl row_22 sz_22 LE_ (by decide)) rfl ?_
  refine h_val (v_slA1 (l := 32) (h := 64) (len := 32) (cp := 32) rfl Try.underlying25 sz_5 rfl rfl rfl (by omega) (by omega) FIT_ rfl rfl) rfl ?_
  refine h_val (v_arrP rfl Try.underlying22 (by omega) (by decide)) rfl ?_
  refine h_val (v_loadW8 rfl rfl row_22 sz_22 LE_ (by decide)) rfl ?_
  refine h_memN (m_alloc al_22 LEN_) APP_ rfl ?_
  refine h_memN (m_alloc al_22 LEN_) APP_ rfl ?_
  refine h_nil ?_
  refine s_storeR rfl rfl rfl rfl sz_22 EQ_ EQ_ SET_ ?_
  refine s_storeR rfl rfl rfl rfl sz_22 EQ_ EQ_ SET_ ?_
  refine s_nil ?_
  refine S_ ?_
  refine c_region ?_
  refine s_val (v_moveC rfl) rfl ?_
  refine s_val (v_lenS rfl Try.underlying23) rfl ?_
  refine s_val (v_gtrN (b := 65536) rfl rfl) rfl ?_
  refine s_val (v_moveC rfl) rfl ?_
  refine s_no GO_ rfl ?_
  refine s_no GO_ rfl ?_
  refine s_no GO_ rfl ?_
  refine s_val (v_pickT rfl PK_ rfl) rfl ?_
  refine s_nil ?_
  refine S_ ?_
  refine c_region ?_
  refine s_val (v_assignC rfl) rfl ?_
  refine s_nil ?_
  refine S_ ?_
  exact k_1 (by first | exact r_tmpC rfl | exact r_tmpA rfl) (by first | kernel_rfl | rfl)
end Go.Proofs.Ytcgncafhonlmlaa
namespace Go.Proofs.Ytcgncafhonlmlaa
open Go.RowKit
theorem vfyE_ev (pub text : List (BitVec 8)) (tn tcap : Nat) (sig : List (BitVec 8)) (hpub : pub.length = 32) (htext : text.length = tn) (hsig : sig.length = 64) (htn : tn ≤ 65536) : Ev Try.prog (.call 18 [.agg (.a8 pub), .c (.sl 0 0 tn tcap 1), .agg (.a8 sig)] [.row false (.a8 text)]) (.val (.c (.val (.bool (vfy pub text sig)))) [.row false (.a8 text)]) := by
  have hn : tn ≤ 1099511627 := by omega
  cases hB : sBelow (cut sig 32 32) with
  | false =>
    rw [show vfy pub text sig = false by unfold vfy; rw [hB, Bool.false_and]]
    exact sgVfyA_ev pub text tn tcap sig hpub htext hn hsig htn hB
  | true =>
    cases hp : unOk pub with
    | false =>
      rw [show vfy pub text sig = false by unfold vfy; rw [hB, hp, Bool.false_and, Bool.and_false]]
      exact sgVfyB_ev pub text tn tcap sig hpub htext hn hsig htn hB hp
    | true =>
      cases hr : unOk (cut sig 0 32) with
      | false =>
        rw [show vfy pub text sig = false by unfold vfy; rw [hB, hp, hr, Bool.false_and, Bool.and_false, Bool.and_false]]
        exact sgVfyC_ev pub text tn tcap sig hpub htext hn hsig htn hB hp hr
      | true =>
        rw [show vfy pub text sig = decide (cvAddT0 (cut sig 0 32) (cvTmsT0 (sgAns3 (cut sig 0 32) pub text) pub) = enc (oB (cut sig 32 32))) by unfold vfy; rw [hB, hp, hr, Bool.true_and, Bool.true_and, Bool.true_and]]
        exact sgVfyD_ev pub text tn tcap sig hpub htext hn hsig htn hB hp hr
end Go.Proofs.Ytcgncafhonlmlaa
namespace Go.Proofs.Ytcgncafhonlmlaa
open Go.RowKit
end Go.Proofs.Ytcgncafhonlmlaa
namespace Go.Proofs.Ytcgncafhonlmlaa
open Go.RowKit
def rkKey (b : List (BitVec 8)) : List (BitVec 64) := rfOf (put (put b 0 ((nth b 0) &&& 248#8)) 31 (((nth (put b 0 ((nth b 0) &&& 248#8)) 31) &&& 127#8) ||| 64#8))
@[simp] theorem rkKey_len (b : List (BitVec 8)) (hb : b.length = 32) : (rkKey b).length = 4 := by
  unfold rkKey
  first | (simp [*]; done) | (simp [*]; omega)
attribute [irreducible] rkKey
end Go.Proofs.Ytcgncafhonlmlaa
namespace Go.Proofs.Ytcgncafhonlmlaa
open Go.RowKit
def rfPad5_L3_S (X1 : List (BitVec 8)) : List (BitVec 8) := X1 ++ [0#8]
def rfPad5_L3 (tx : List (BitVec 8)) : Nat → List (BitVec 8)
  | 0 => tx ++ [128#8]
  | j3 + 1 => rfPad5_L3_S (rfPad5_L3 tx j3)
@[simp] theorem rfPad5_L3_len (tx : List (BitVec 8)) (j3 : Nat) : (rfPad5_L3 tx j3).length = (tx.length + 1) + j3 := by
  induction j3 with
  | zero => first | (simp [rfPad5_L3, *]; done) | (simp [rfPad5_L3, *]; omega)
  | succ j3 ih => rw [rfPad5_L3.eq_2, rfPad5_L3_S]; first | (simp [ih]; done) | (simp [ih]; omega) | (simp [*]; done) | (simp [*]; omega) | (split <;> first | (simp [ih]; done) | (simp [ih]; omega) | (simp [*]; done))
def rfPad5_L7_S (tx : List (BitVec 8)) (X3 : List (BitVec 8)) (j7 : Nat) : List (BitVec 8) := (if 8 ≤ 15 - j7 then X3 ++ [0#8] else X3 ++ [(((BitVec.ofNat 64 tx.length) * 8#64) >>> (8#64 * (BitVec.ofNat 64 (15 - j7))).toNat).setWidth 8])
def rfPad5_L7 (tx : List (BitVec 8)) (Y2 : List (BitVec 8)) : Nat → List (BitVec 8)
  | 0 => Y2
  | j7 + 1 => rfPad5_L7_S tx (rfPad5_L7 tx Y2 j7) j7
@[simp] theorem rfPad5_L7_len (tx : List (BitVec 8)) (Y2 : List (BitVec 8)) (j7 : Nat) : (rfPad5_L7 tx Y2 j7).length = Y2.length + j7 := by
  induction j7 with
  | zero => first | (simp [rfPad5_L7, *]; done) | (simp [rfPad5_L7, *]; omega)
  | succ j7 ih => rw [rfPad5_L7.eq_2, rfPad5_L7_S]; first | (simp [ih]; done) | (simp [ih]; omega) | (simp [rfPad5_L3_len, *]; done) | (simp [rfPad5_L3_len, *]; omega) | (split <;> first | (simp [ih]; done) | (simp [ih]; omega) | (simp [rfPad5_L3_len, *]; done))
def rfPad5 (tx : List (BitVec 8)) : List (BitVec 8) := (rfPad5_L7 tx (rfPad5_L3 tx ((240 - (tx.length + 1) % 128) % 128)) 16)
@[simp] theorem rfPad5_len (tx : List (BitVec 8)) : (rfPad5 tx).length = ((tx.length + 1) + (240 - (tx.length + 1) % 128) % 128) + 16 := by
  unfold rfPad5
  first | (simp [rfPad5_L3_len, rfPad5_L7_len, *]; done) | (simp [rfPad5_L3_len, rfPad5_L7_len, *]; omega)
attribute [irreducible] rfPad5
end Go.Proofs.Ytcgncafhonlmlaa
namespace Go.Proofs.Ytcgncafhonlmlaa
open Go.RowKit
def rfK512  : List (BitVec 64) := [4794697086780616226#64, 8158064640168781261#64, 13096744586834688815#64, 16840607885511220156#64, 4131703408338449720#64, 6480981068601479193#64, 10538285296894168987#64, 12329834152419229976#64, 15566598209576043074#64, 1334009975649890238#64, 2608012711638119052#64, 6128411473006802146#64, 8268148722764581231#64, 9286055187155687089#64, 11230858885718282805#64, 13951009754708518548#64, 16472876342353939154#64, 17275323862435702243#64, 1135362057144423861#64, 2597628984639134821#64, 3308224258029322869#64, 5365058923640841347#64, 6679025012923562964#64, 8573033837759648693#64, 10970295158949994411#64, 12119686244451234320#64, 12683024718118986047#64, 13788192230050041572#64, 14330467153632333762#64, 15395433587784984357#64, 489312712824947311#64, 1452737877330783856#64, 2861767655752347644#64, 3322285676063803686#64, 5560940570517711597#64, 5996557281743188959#64, 7280758554555802590#64, 8532644243296465576#64, 9350256976987008742#64, 10552545826968843579#64, 11727347734174303076#64, 12113106623233404929#64, 14000437183269869457#64, 14369950271660146224#64, 15101387698204529176#64, 15463397548674623760#64, 17586052441742319658#64, 1182934255886127544#64, 1847814050463011016#64, 2177327727835720531#64, 2830643537854262169#64, 3796741975233480872#64, 4115178125766777443#64, 5681478168544905931#64, 6601373596472566643#64, 7507060721942968483#64, 8399075790359081724#64, 8693463985226723168#64, 9568029438360202098#64, 10144078919501101548#64, 10430055236837252648#64, 11840083180663258601#64, 13761210420658862357#64, 14299343276471374635#64, 14566680578165727644#64, 15097957966210449927#64, 16922976911328602910#64, 17689382322260857208#64, 500013540394364858#64, 748580250866718886#64, 1242879168328830382#64, 1977374033974150939#64, 2944078676154940804#64, 3659926193048069267#64, 4368137639120453308#64, 4836135668995329356#64, 5532061633213252278#64, 6448918945643986474#64, 6902733635092675308#64, 7801388544844847127#64]
@[simp] theorem rfK512_len  : (rfK512).length = 80 := by
  unfold rfK512
  first | (simp [*]; done) | (simp [*]; omega)
attribute [irreducible] rfK512
def rfRot64 (x : BitVec 64) (n : Nat) : BitVec 64 := rotl64 x (-((n : Nat) : Int))
attribute [irreducible] rfRot64
end Go.Proofs.Ytcgncafhonlmlaa
namespace Go.Proofs.Ytcgncafhonlmlaa
open Go.RowKit
def rf512_L13_S (tx : List (BitVec 8)) (j5 : Nat) (j9 : Nat) (X6 : List (BitVec 64)) (j13 : Nat) : List (BitVec 64) := put X6 j9 (((nth X6 j9) <<< 8) ||| ((nth (rfPad5 tx) (((128 * j5) + (8 * j9)) + j13)).setWidth 64))
def rf512_L13 (tx : List (BitVec 8)) (j5 : Nat) (X4 : List (BitVec 64)) (j9 : Nat) : Nat → List (BitVec 64)
  | 0 => X4
  | j13 + 1 => rf512_L13_S tx j5 j9 (rf512_L13 tx j5 X4 j9 j13) j13
theorem rf512_L13_len (tx : List (BitVec 8)) (j5 : Nat) (X4 : List (BitVec 64)) (j9 : Nat) (hX4 : X4.length = 80) (j13 : Nat) : (rf512_L13 tx j5 X4 j9 j13).length = 80 := by
  induction j13 with
  | zero => first | (simp [rf512_L13, *]; done) | (simp [rf512_L13, *]; omega)
  | succ j13 ih => rw [rf512_L13.eq_2, rf512_L13_S]; first | (simp [ih]; done) | (simp [ih]; omega) | (simp [*]; done) | (simp [*]; omega) | (split <;> first | (simp [ih]; done) | (simp [ih]; omega) | (simp [*]; done))
def rf512_L9_S (tx : List (BitVec 8)) (j5 : Nat) (X4 : List (BitVec 64)) (j9 : Nat) : List (BitVec 64) := if j9 < 16 then (rf512_L13 tx j5 X4 j9 8) else put X4 j9 ((((nth X4 (j9 - 16)) + (nth X4 (j9 - 7))) + (((rfRot64 (nth X4 (j9 - 15)) 1) ^^^ (rfRot64 (nth X4 (j9 - 15)) 8)) ^^^ ((nth X4 (j9 - 15)) >>> 7))) + (((rfRot64 (nth X4 (j9 - 2)) 19) ^^^ (rfRot64 (nth X4 (j9 - 2)) 61)) ^^^ ((nth X4 (j9 - 2)) >>> 6)))
def rf512_L9 (tx : List (BitVec 8)) (j5 : Nat) : Nat → List (BitVec 64)
  | 0 => zer64 80
  | j9 + 1 => rf512_L9_S tx j5 (rf512_L9 tx j5 j9) j9
@[simp] theorem rf512_L9_len (tx : List (BitVec 8)) (j5 : Nat) (j9 : Nat) : (rf512_L9 tx j5 j9).length = 80 := by
  induction j9 with
  | zero => first | (simp [rf512_L9, *]; done) | (simp [rf512_L9, *]; omega)
  | succ j9 ih => rw [rf512_L9.eq_2, rf512_L9_S]; first | (simp [ih]; done) | (simp [ih]; omega) | (simp [rf512_L13_len, *]; done) | (simp [rf512_L13_len, *]; omega) | (split <;> first | (simp [ih]; done) | (simp [ih]; omega) | (simp [rf512_L13_len, *]; done))
def rf512_L20_S (Y5 : List (BitVec 64)) (X6 : List (BitVec 64)) (j20 : Nat) : List (BitVec 64) := [(((((nth X6 7) + (((rfRot64 (nth X6 4) 14) ^^^ (rfRot64 (nth X6 4) 18)) ^^^ (rfRot64 (nth X6 4) 41))) + (((nth X6 4) &&& (nth X6 5)) ^^^ ((~~~(nth X6 4)) &&& (nth X6 6)))) + (nth rfK512 j20)) + (nth Y5 j20)) + ((((rfRot64 (nth X6 0) 28) ^^^ (rfRot64 (nth X6 0) 34)) ^^^ (rfRot64 (nth X6 0) 39)) + ((((nth X6 0) &&& (nth X6 1)) ^^^ ((nth X6 0) &&& (nth X6 2))) ^^^ ((nth X6 1) &&& (nth X6 2)))), nth X6 0, nth X6 1, nth X6 2, (nth X6 3) + (((((nth X6 7) + (((rfRot64 (nth X6 4) 14) ^^^ (rfRot64 (nth X6 4) 18)) ^^^ (rfRot64 (nth X6 4) 41))) + (((nth X6 4) &&& (nth X6 5)) ^^^ ((~~~(nth X6 4)) &&& (nth X6 6)))) + (nth rfK512 j20)) + (nth Y5 j20)), nth X6 4, nth X6 5, nth X6 6]
def rf512_L20 (X3 : List (BitVec 64)) (Y5 : List (BitVec 64)) : Nat → List (BitVec 64)
  | 0 => X3
  | j20 + 1 => rf512_L20_S Y5 (rf512_L20 X3 Y5 j20) j20
theorem rf512_L20_len (X3 : List (BitVec 64)) (Y5 : List (BitVec 64)) (hX3 : X3.length = 8) (hY5 : Y5.length = 80) (j20 : Nat) : (rf512_L20 X3 Y5 j20).length = 8 := by
  induction j20 with
  | zero => first | (simp [rf512_L20, *]; done) | (simp [rf512_L20, *]; omega)
  | succ j20 ih => rw [rf512_L20.eq_2, rf512_L20_S]; first | (simp [ih]; done) | (simp [ih]; omega) | (simp [rf512_L13_len, rf512_L9_len, *]; done) | (simp [rf512_L13_len, rf512_L9_len, *]; omega) | (split <;> first | (simp [ih]; done) | (simp [ih]; omega) | (simp [rf512_L13_len, rf512_L9_len, *]; done))
def rf512_L27_S (Y7 : List (BitVec 64)) (X8 : List (BitVec 64)) (j27 : Nat) : List (BitVec 64) := put X8 j27 ((nth X8 j27) + (nth Y7 j27))
def rf512_L27 (X3 : List (BitVec 64)) (Y7 : List (BitVec 64)) : Nat → List (BitVec 64)
  | 0 => X3
  | j27 + 1 => rf512_L27_S Y7 (rf512_L27 X3 Y7 j27) j27
theorem rf512_L27_len (X3 : List (BitVec 64)) (Y7 : List (BitVec 64)) (hX3 : X3.length = 8) (j27 : Nat) : (rf512_L27 X3 Y7 j27).length = 8 := by
  induction j27 with
  | zero => first | (simp [rf512_L27, *]; done) | (simp [rf512_L27, *]; omega)
  | succ j27 ih => rw [rf512_L27.eq_2, rf512_L27_S]; first | (simp [ih]; done) | (simp [ih]; omega) | (simp [rf512_L13_len, rf512_L9_len, rf512_L20_len, *]; done) | (simp [rf512_L13_len, rf512_L9_len, rf512_L20_len, *]; omega) | (split <;> first | (simp [ih]; done) | (simp [ih]; omega) | (simp [rf512_L13_len, rf512_L9_len, rf512_L20_len, *]; done))
def rf512_L5_S (tx : List (BitVec 8)) (X3 : List (BitVec 64)) (j5 : Nat) : List (BitVec 64) := (rf512_L27 X3 (rf512_L20 X3 (rf512_L9 tx j5 80) 80) 8)
def rf512_L5 (tx : List (BitVec 8)) : Nat → List (BitVec 64)
  | 0 => [7640891576956012808#64, 13503953896175478587#64, 4354685564936845355#64, 11912009170470909681#64, 5840696475078001361#64, 11170449401992604703#64, 2270897969802886507#64, 6620516959819538809#64]
  | j5 + 1 => rf512_L5_S tx (rf512_L5 tx j5) j5
@[simp] theorem rf512_L5_len (tx : List (BitVec 8)) (j5 : Nat) : (rf512_L5 tx j5).length = 8 := by
  induction j5 with
  | zero => first | (simp [rf512_L5, *]; done) | (simp [rf512_L5, *]; omega)
  | succ j5 ih => rw [rf512_L5.eq_2, rf512_L5_S]; first | (simp [ih]; done) | (simp [ih]; omega) | (simp [rf512_L13_len, rf512_L9_len, rf512_L20_len, rf512_L27_len, *]; done) | (simp [rf512_L13_len, rf512_L9_len, rf512_L20_len, rf512_L27_len, *]; omega) | (split <;> first | (simp [ih]; done) | (simp [ih]; omega) | (simp [rf512_L13_len, rf512_L9_len, rf512_L20_len, rf512_L27_len, *]; done))
def rf512_L32_S (Y13 : List (BitVec 64)) (X14 : List (BitVec 8)) (j32 : Nat) : List (BitVec 8) := put X14 j32 (((nth Y13 (j32 / 8)) >>> (BitVec.ofNat 64 (56 - (8 * (j32 % 8)))).toNat).setWidth 8)
def rf512_L32 (Y13 : List (BitVec 64)) : Nat → List (BitVec 8)
  | 0 => zer8 64
  | j32 + 1 => rf512_L32_S Y13 (rf512_L32 Y13 j32) j32
@[simp] theorem rf512_L32_len (Y13 : List (BitVec 64)) (j32 : Nat) : (rf512_L32 Y13 j32).length = 64 := by
  induction j32 with
  | zero => first | (simp [rf512_L32, *]; done) | (simp [rf512_L32, *]; omega)
  | succ j32 ih => rw [rf512_L32.eq_2, rf512_L32_S]; first | (simp [ih]; done) | (simp [ih]; omega) | (simp [rf512_L13_len, rf512_L9_len, rf512_L20_len, rf512_L27_len, rf512_L5_len, *]; done) | (simp [rf512_L13_len, rf512_L9_len, rf512_L20_len, rf512_L27_len, rf512_L5_len, *]; omega) | (split <;> first | (simp [ih]; done) | (simp [ih]; omega) | (simp [rf512_L13_len, rf512_L9_len, rf512_L20_len, rf512_L27_len, rf512_L5_len, *]; done))
def rf512 (tx : List (BitVec 8)) : List (BitVec 8) := (rf512_L32 (rf512_L5 tx (((((tx.length + 1) + (240 - (tx.length + 1) % 128) % 128) + 16) + 127) / 128)) 64)
@[simp] theorem rf512_len (tx : List (BitVec 8)) : (rf512 tx).length = 64 := by
  unfold rf512
  first | (simp [rf512_L13_len, rf512_L9_len, rf512_L20_len, rf512_L27_len, rf512_L5_len, rf512_L32_len, *]; done) | (simp [rf512_L13_len, rf512_L9_len, rf512_L20_len, rf512_L27_len, rf512_L5_len, rf512_L32_len, *]; omega)
attribute [irreducible] rf512
end Go.Proofs.Ytcgncafhonlmlaa
namespace Go.Proofs.Ytcgncafhonlmlaa
open Go.RowKit
theorem nth_put_same {n : Nat} (l : List (BitVec n)) (i : Nat) (v : BitVec n) (h : i < l.length) : nth (put l i v) i = v := by rw [nth_put l i i v h, if_pos rfl]
end Go.Proofs.Ytcgncafhonlmlaa
namespace Go.Proofs.Ytcgncafhonlmlaa
open Go.RowKit
end Go.Proofs.Ytcgncafhonlmlaa
namespace Go.Proofs.Ytcgncafhonlmlaa
open Go.RowKit
end Go.Proofs.Ytcgncafhonlmlaa
namespace Go.Proofs.Ytcgncafhonlmlaa
open Go.RowKit
def k38 : List (BitVec 64) := put (zer64 4) 0 38#64
def mHi (lo hi : List (BitVec 64)) : BitVec 64 := (nth (rfTimes hi (put (zer64 4) 0 38#64)) 4) + (rfadd1 lo [nth (rfTimes hi (put (zer64 4) 0 38#64)) 0, nth (rfTimes hi (put (zer64 4) 0 38#64)) 1, nth (rfTimes hi (put (zer64 4) 0 38#64)) 2, nth (rfTimes hi (put (zer64 4) 0 38#64)) 3])
def mLo (lo hi : List (BitVec 64)) : List (BitVec 64) := rfadd0 lo [nth (rfTimes hi (put (zer64 4) 0 38#64)) 0, nth (rfTimes hi (put (zer64 4) 0 38#64)) 1, nth (rfTimes hi (put (zer64 4) 0 38#64)) 2, nth (rfTimes hi (put (zer64 4) 0 38#64)) 3]
def mSt (a b : List (BitVec 64)) : Nat → List (BitVec 64) × List (BitVec 64)
  | 0 => ([nth (rfTimes a b) 0, nth (rfTimes a b) 1, nth (rfTimes a b) 2, nth (rfTimes a b) 3], [nth (rfTimes a b) 4, nth (rfTimes a b) 5, nth (rfTimes a b) 6, nth (rfTimes a b) 7])
  | j + 1 => (mLo (mSt a b j).1 (mSt a b j).2, put (zer64 4) 0 (mHi (mSt a b j).1 (mSt a b j).2))
def mH (a b : List (BitVec 64)) (j : Nat) : BitVec 64 := mHi (mSt a b j).1 (mSt a b j).2
def rfN (a b : List (BitVec 64)) : Nat := if mH a b 0 = 0#64 then 1 else if mH a b 1 = 0#64 then 2 else 3
attribute [irreducible] rfN mH
end Go.Proofs.Ytcgncafhonlmlaa
namespace Go.Proofs.Ytcgncafhonlmlaa
open Go.RowKit
def rfMul_L5_S (X3 : List (BitVec 64)) (X4 : List (BitVec 64)) : Bool × List (BitVec 64) × List (BitVec 64) := (((nth (put (zer64 4) 0 ((nth (rfTimes X4 (put (zer64 4) 0 38#64)) 4) + (rfadd1 X3 [nth (rfTimes X4 (put (zer64 4) 0 38#64)) 0, nth (rfTimes X4 (put (zer64 4) 0 38#64)) 1, nth (rfTimes X4 (put (zer64 4) 0 38#64)) 2, nth (rfTimes X4 (put (zer64 4) 0 38#64)) 3]))) 0) != 0#64), rfadd0 X3 [nth (rfTimes X4 (put (zer64 4) 0 38#64)) 0, nth (rfTimes X4 (put (zer64 4) 0 38#64)) 1, nth (rfTimes X4 (put (zer64 4) 0 38#64)) 2, nth (rfTimes X4 (put (zer64 4) 0 38#64)) 3], put (zer64 4) 0 ((nth (rfTimes X4 (put (zer64 4) 0 38#64)) 4) + (rfadd1 X3 [nth (rfTimes X4 (put (zer64 4) 0 38#64)) 0, nth (rfTimes X4 (put (zer64 4) 0 38#64)) 1, nth (rfTimes X4 (put (zer64 4) 0 38#64)) 2, nth (rfTimes X4 (put (zer64 4) 0 38#64)) 3])))
def rfMul_L5 (a : List (BitVec 64)) (b : List (BitVec 64)) : Nat → Bool × List (BitVec 64) × List (BitVec 64)
  | 0 => (true, [nth (rfTimes a b) 0, nth (rfTimes a b) 1, nth (rfTimes a b) 2, nth (rfTimes a b) 3], [nth (rfTimes a b) 4, nth (rfTimes a b) 5, nth (rfTimes a b) 6, nth (rfTimes a b) 7])
  | j5 + 1 => rfMul_L5_S (rfMul_L5 a b j5).2.1 (rfMul_L5 a b j5).2.2
theorem rfMul_L5_lens (a : List (BitVec 64)) (b : List (BitVec 64)) (ha : a.length = 4) (hb : b.length = 4) (j5 : Nat) : (rfMul_L5 a b j5).2.1.length = 4 ∧ (rfMul_L5 a b j5).2.2.length = 4 := by
  induction j5 with
  | zero => refine ⟨?_, ?_⟩ <;> first | (simp (maxDischargeDepth := 9) [rfMul_L5, *]; done) | (simp (maxDischargeDepth := 9) [rfMul_L5, *]; omega)
  | succ j5 ih =>
    obtain ⟨ih1, ih2⟩ := ih
    rw [rfMul_L5.eq_2, rfMul_L5_S]
    refine ⟨?_, ?_⟩ <;> first | (simp (maxDischargeDepth := 9) [*]; done) | (simp (maxDischargeDepth := 9) [*]; omega) | (split <;> first | (simp (maxDischargeDepth := 9) [*]; done) | (simp (maxDischargeDepth := 9) [*]; omega))
theorem rfMul_L5_len1 (a : List (BitVec 64)) (b : List (BitVec 64)) (ha : a.length = 4) (hb : b.length = 4) (j5 : Nat) : (rfMul_L5 a b j5).2.1.length = 4 := (rfMul_L5_lens a b ha hb j5).1
theorem rfMul_L5_len2 (a : List (BitVec 64)) (b : List (BitVec 64)) (ha : a.length = 4) (hb : b.length = 4) (j5 : Nat) : (rfMul_L5 a b j5).2.2.length = 4 := (rfMul_L5_lens a b ha hb j5).2
def rfMul (a : List (BitVec 64)) (b : List (BitVec 64)) : List (BitVec 64) := rfMod ((rfMul_L5 a b (rfN a b)).2.1)
@[simp] theorem rfMul_len (a : List (BitVec 64)) (b : List (BitVec 64)) (ha : a.length = 4) (hb : b.length = 4) : (rfMul a b).length = 4 := by
  unfold rfMul
  first | (simp (maxDischargeDepth := 9) [rfMul_L5_len1, rfMul_L5_len2, *]; done) | (simp (maxDischargeDepth := 9) [rfMul_L5_len1, rfMul_L5_len2, *]; omega) | (split <;> (simp (maxDischargeDepth := 9) [rfMul_L5_len1, rfMul_L5_len2, *]; done))
attribute [irreducible] rfMul
end Go.Proofs.Ytcgncafhonlmlaa
namespace Go.Proofs.Ytcgncafhonlmlaa
open Go.RowKit
def rfPow_L3_S (a : List (BitVec 64)) (e : List (BitVec 64)) (X1 : List (BitVec 64)) (j3 : Nat) : List (BitVec 64) := (if ((((nth e ((255 - j3) / 64)) >>> (BitVec.ofNat 64 ((255 - j3) % 64)).toNat) &&& 1#64) == 1#64) = true then rfMul (rfMul X1 X1) a else rfMul X1 X1)
def rfPow_L3 (a : List (BitVec 64)) (e : List (BitVec 64)) : Nat → List (BitVec 64)
  | 0 => put (zer64 4) 0 1#64
  | j3 + 1 => rfPow_L3_S a e (rfPow_L3 a e j3) j3
theorem rfPow_L3_len (a : List (BitVec 64)) (e : List (BitVec 64)) (ha : a.length = 4) (he : e.length = 4) (j3 : Nat) : (rfPow_L3 a e j3).length = 4 := by
  induction j3 with
  | zero => first | (simp [rfPow_L3, *]; done) | (simp [rfPow_L3, *]; omega)
  | succ j3 ih => rw [rfPow_L3.eq_2, rfPow_L3_S]; first | (simp [ih]; done) | (simp [ih]; omega) | (simp [*]; done) | (simp [*]; omega) | (split <;> first | (simp [ih]; done) | (simp [ih]; omega) | (simp [*]; done))
def rfPow (a : List (BitVec 64)) (e : List (BitVec 64)) : List (BitVec 64) := (rfPow_L3 a e 256)
@[simp] theorem rfPow_len (a : List (BitVec 64)) (e : List (BitVec 64)) (ha : a.length = 4) (he : e.length = 4) : (rfPow a e).length = 4 := by
  unfold rfPow
  first | (simp [rfPow_L3_len, *]; done) | (simp [rfPow_L3_len, *]; omega)
attribute [irreducible] rfPow
def rfInv (a : List (BitVec 64)) : List (BitVec 64) := rfPow a (rfsub0 rfP (put (zer64 4) 0 2#64))
@[simp] theorem rfInv_len (a : List (BitVec 64)) (ha : a.length = 4) : (rfInv a).length = 4 := by
  unfold rfInv
  first | (simp [*]; done) | (simp [*]; omega)
attribute [irreducible] rfInv
def rfHalf_L3_S (a : List (BitVec 64)) (X1 : List (BitVec 64)) (j3 : Nat) : List (BitVec 64) := (if j3 < 3 then put (put X1 j3 ((nth a j3) >>> 1)) j3 ((nth (put X1 j3 ((nth a j3) >>> 1)) j3) ||| ((nth a (j3 + 1)) <<< 63)) else put X1 j3 ((nth a j3) >>> 1))
def rfHalf_L3 (a : List (BitVec 64)) : Nat → List (BitVec 64)
  | 0 => zer64 4
  | j3 + 1 => rfHalf_L3_S a (rfHalf_L3 a j3) j3
theorem rfHalf_L3_len (a : List (BitVec 64)) (ha : a.length = 4) (j3 : Nat) : (rfHalf_L3 a j3).length = 4 := by
  induction j3 with
  | zero => first | (simp [rfHalf_L3, *]; done) | (simp [rfHalf_L3, *]; omega)
  | succ j3 ih => rw [rfHalf_L3.eq_2, rfHalf_L3_S]; first | (simp [ih]; done) | (simp [ih]; omega) | (simp [*]; done) | (simp [*]; omega) | (split <;> first | (simp [ih]; done) | (simp [ih]; omega) | (simp [*]; done))
def rfHalf (a : List (BitVec 64)) : List (BitVec 64) := (rfHalf_L3 a 4)
@[simp] theorem rfHalf_len (a : List (BitVec 64)) (ha : a.length = 4) : (rfHalf a).length = 4 := by
  unfold rfHalf
  first | (simp [rfHalf_L3_len, *]; done) | (simp [rfHalf_L3_len, *]; omega)
attribute [irreducible] rfHalf
end Go.Proofs.Ytcgncafhonlmlaa
namespace Go.Proofs.Ytcgncafhonlmlaa
open Go.RowKit
def wMod (a : List (BitVec 64)) : List (BitVec 64) := WF (ZW a)
def wSub (a b : List (BitVec 64)) : List (BitVec 64) := WF (ZW a - ZW b)
def wMul (a b : List (BitVec 64)) : List (BitVec 64) := WF (ZW a * ZW b)
def wPow (a e : List (BitVec 64)) : List (BitVec 64) := WF (ZW a ^ wV e)
def wInv (a : List (BitVec 64)) : List (BitVec 64) := WF (invF (ZW a))
@[simp] theorem wMod_len (a : List (BitVec 64)) : (wMod a).length = 4 := rfl
@[simp] theorem wSub_len (a b : List (BitVec 64)) : (wSub a b).length = 4 := rfl
@[simp] theorem wMul_len (a b : List (BitVec 64)) : (wMul a b).length = 4 := rfl
@[simp] theorem wPow_len (a b : List (BitVec 64)) : (wPow a b).length = 4 := rfl
@[simp] theorem wInv_len (a : List (BitVec 64)) : (wInv a).length = 4 := rfl
def R0 (a : List (BitVec 64)) : List (BitVec 64) := wPow (wMod a) (rfHalf (rfHalf (rfHalf (rfadd0 rfP (put (zer64 4) 0 3#64)))))
def R1 (a : List (BitVec 64)) : List (BitVec 64) := wMul (wPow (wMod a) (rfHalf (rfHalf (rfHalf (rfadd0 rfP (put (zer64 4) 0 3#64)))))) (wPow (put (zer64 4) 0 2#64) (rfHalf (rfHalf (rfsub0 rfP (put (zer64 4) 0 1#64)))))
def wRootIs (a : List (BitVec 64)) : Bool := decide (rootF (ZW a) * rootF (ZW a) = ZW a)
def wRoot (a : List (BitVec 64)) : List (BitVec 64) := WF (if rootF (ZW a) * rootF (ZW a) = ZW a then evenF (rootF (ZW a)) else 0)
@[simp] theorem wRoot_len (a : List (BitVec 64)) : (wRoot a).length = 4 := rfl
attribute [irreducible] wRootIs wRoot R0 R1 wMod wSub wMul wPow wInv
end Go.Proofs.Ytcgncafhonlmlaa
namespace Go.Proofs.Ytcgncafhonlmlaa
open Go.RowKit
end Go.Proofs.Ytcgncafhonlmlaa
namespace Go.Proofs.Ytcgncafhonlmlaa
open Go.RowKit
def rfAdd (a : List (BitVec 64)) (b : List (BitVec 64)) : List (BitVec 64) := wMod (rfadd0 (wMod a) (wMod b))
@[simp] theorem rfAdd_len (a : List (BitVec 64)) (b : List (BitVec 64)) (ha : a.length = 4) (hb : b.length = 4) : (rfAdd a b).length = 4 := by
  unfold rfAdd
  first | (simp (maxDischargeDepth := 9) [*]; done) | (simp (maxDischargeDepth := 9) [*]; omega) | (split <;> (simp (maxDischargeDepth := 9) [*]; done))
attribute [irreducible] rfAdd
end Go.Proofs.Ytcgncafhonlmlaa
namespace Go.Proofs.Ytcgncafhonlmlaa
open Go.RowKit
def wAdd (a b : List (BitVec 64)) : List (BitVec 64) := WF (ZW a + ZW b)
@[simp] theorem wAdd_len (a b : List (BitVec 64)) : (wAdd a b).length = 4 := rfl
end Go.Proofs.Ytcgncafhonlmlaa
namespace Go.Proofs.Ytcgncafhonlmlaa
open Go.RowKit
def rfD  : List (BitVec 64) := wMul (wSub (zer64 4) (put (zer64 4) 0 121665#64)) (wInv (put (zer64 4) 0 121666#64))
@[simp] theorem rfD_len  : (rfD).length = 4 := by
  unfold rfD
  first | (simp (maxDischargeDepth := 9) [*]; done) | (simp (maxDischargeDepth := 9) [*]; omega) | (split <;> (simp (maxDischargeDepth := 9) [*]; done))
attribute [irreducible] rfD
def rfZero  : List (BitVec 64) := (zer64 4) ++ (put (zer64 4) 0 1#64) ++ (put (zer64 4) 0 1#64) ++ (zer64 4)
@[simp] theorem rfZero_len  : (rfZero).length = 16 := by
  unfold rfZero
  first | (simp (maxDischargeDepth := 9) [*]; done) | (simp (maxDischargeDepth := 9) [*]; omega) | (split <;> (simp (maxDischargeDepth := 9) [*]; done))
attribute [irreducible] rfZero
end Go.Proofs.Ytcgncafhonlmlaa
namespace Go.Proofs.Ytcgncafhonlmlaa
open Go.RowKit
def rfL  : List (BitVec 64) := [6346243789798364141#64, 1503914060200516822#64, 0#64, 1152921504606846976#64]
set_option maxRecDepth 100000 in
set_option maxHeartbeats 2000000 in
theorem rfL_ev   : Ev Try.prog (.call 23 [] []) (.val (.agg (.a64 (rfL))) []) := by
  have hP : Hid (rfL = [6346243789798364141#64, 1503914060200516822#64, 0#64, 1152921504606846976#64]) := ⟨rfl⟩
  refine c_call Try.func23 rfl Try.ntmps23 rfl LEN_ ?_
  refine S_ ?_
  refine c_region ?_
  refine s_memN (m_alloc al_42 LEN_) APP_ rfl ?_
  refine s_nil ?_
  refine S_ ?_
  refine c_region ?_
  refine s_val (v_bld64 (l := [6346243789798364141#64, 1503914060200516822#64, 0#64, 1152921504606846976#64]) zc_42 Try.underlying42 sz_40 rfl rfl (by decide)) rfl ?_
  refine s_storeR rfl rfl rfl rfl sz_42 EQ_ EQ_ SET_ ?_
  refine s_nil ?_
  refine S_ ?_
  rw [hP.out]
  exact k_1 (r_row rfl rfl row_42 sz_42 EQ_ (by decide)) (by first | kernel_rfl | rfl)
@[simp] theorem rfL_len  : (rfL).length = 4 := by
  unfold rfL
  first | (simp [*]; done) | (simp [*]; omega)
attribute [irreducible] rfL
theorem rfL_val : wV rfL = L25519 := by unfold rfL; decide +kernel
end Go.Proofs.Ytcgncafhonlmlaa
namespace Go.Proofs.Ytcgncafhonlmlaa
open Go.RowKit
def rfModL_L3_S (t : List (BitVec 64)) (X1 : List (BitVec 64)) (j3 : Nat) : List (BitVec 64) := (if (!((rfsub1 (put (rfadd0 X1 X1) 0 ((nth (rfadd0 X1 X1) 0) ||| (((nth t ((511 - j3) / 64)) >>> (BitVec.ofNat 64 ((511 - j3) % 64)).toNat) &&& 1#64))) rfL) == 1#64)) = true then rfsub0 (put (rfadd0 X1 X1) 0 ((nth (rfadd0 X1 X1) 0) ||| (((nth t ((511 - j3) / 64)) >>> (BitVec.ofNat 64 ((511 - j3) % 64)).toNat) &&& 1#64))) rfL else put (rfadd0 X1 X1) 0 ((nth (rfadd0 X1 X1) 0) ||| (((nth t ((511 - j3) / 64)) >>> (BitVec.ofNat 64 ((511 - j3) % 64)).toNat) &&& 1#64)))
def rfModL_L3 (t : List (BitVec 64)) : Nat → List (BitVec 64)
  | 0 => zer64 4
  | j3 + 1 => rfModL_L3_S t (rfModL_L3 t j3) j3
theorem rfModL_L3_len (t : List (BitVec 64)) (ht : t.length = 8) (j3 : Nat) : (rfModL_L3 t j3).length = 4 := by
  induction j3 with
  | zero => first | (simp (maxDischargeDepth := 9) [rfModL_L3, *]; done) | (simp (maxDischargeDepth := 9) [rfModL_L3, *]; omega)
  | succ j3 ih => rw [rfModL_L3.eq_2, rfModL_L3_S]; first | (simp (maxDischargeDepth := 9) [ih]; done) | (simp (maxDischargeDepth := 9) [ih]; omega) | (simp (maxDischargeDepth := 9) [*]; done) | (simp (maxDischargeDepth := 9) [*]; omega) | (split <;> first | (simp (maxDischargeDepth := 9) [ih]; done) | (simp (maxDischargeDepth := 9) [ih]; omega) | (simp (maxDischargeDepth := 9) [*]; done))
def rfModL (t : List (BitVec 64)) : List (BitVec 64) := (rfModL_L3 t 512)
@[simp] theorem rfModL_len (t : List (BitVec 64)) (ht : t.length = 8) : (rfModL t).length = 4 := by
  unfold rfModL
  first | (simp (maxDischargeDepth := 9) [rfModL_L3_len, *]; done) | (simp (maxDischargeDepth := 9) [rfModL_L3_len, *]; omega) | (split <;> (simp (maxDischargeDepth := 9) [rfModL_L3_len, *]; done))
attribute [irreducible] rfModL
end Go.Proofs.Ytcgncafhonlmlaa
namespace Go.Proofs.Ytcgncafhonlmlaa
open Go.RowKit
def rfModB_L3_S (b : List (BitVec 8)) (X1 : List (BitVec 64)) (j3 : Nat) : List (BitVec 64) := put X1 (j3 / 8) ((nth X1 (j3 / 8)) ||| (((nth b j3).setWidth 64) <<< (BitVec.ofNat 64 (8 * (j3 % 8))).toNat))
def rfModB_L3 (b : List (BitVec 8)) : Nat → List (BitVec 64)
  | 0 => zer64 8
  | j3 + 1 => rfModB_L3_S b (rfModB_L3 b j3) j3
@[simp] theorem rfModB_L3_len (b : List (BitVec 8)) (j3 : Nat) : (rfModB_L3 b j3).length = 8 := by
  induction j3 with
  | zero => first | (simp [rfModB_L3, *]; done) | (simp [rfModB_L3, *]; omega)
  | succ j3 ih => rw [rfModB_L3.eq_2, rfModB_L3_S]; first | (simp [ih]; done) | (simp [ih]; omega) | (simp [*]; done) | (simp [*]; omega) | (split <;> first | (simp [ih]; done) | (simp [ih]; omega) | (simp [*]; done))
def rfModB (b : List (BitVec 8)) : List (BitVec 8) := rB (rfModL (rfModB_L3 b b.length))
@[simp] theorem rfModB_len (b : List (BitVec 8)) : (rfModB b).length = 32 := by
  unfold rfModB
  first | (simp [rfModB_L3_len, *]; done) | (simp [rfModB_L3_len, *]; omega)
attribute [irreducible] rfModB
end Go.Proofs.Ytcgncafhonlmlaa
namespace Go.Proofs.Ytcgncafhonlmlaa
open Go.RowKit
def rfMA_L5_S (c : List (BitVec 8)) (X5 : BitVec 64) (X6 : List (BitVec 64)) (j5 : Nat) : BitVec 64 × List (BitVec 64) := (addC (nth X6 j5) (if j5 < 4 then nth (rfOf c) j5 else 0#64) X5, put X6 j5 ((nth X6 j5) + (if j5 < 4 then nth (rfOf c) j5 else 0#64) + X5))
def rfMA_L5 (a : List (BitVec 8)) (b : List (BitVec 8)) (c : List (BitVec 8)) : Nat → BitVec 64 × List (BitVec 64)
  | 0 => (0#64, rfTimes (rfOf a) (rfOf b))
  | j5 + 1 => rfMA_L5_S c (rfMA_L5 a b c j5).1 (rfMA_L5 a b c j5).2 j5
theorem rfMA_L5_len1 (a : List (BitVec 8)) (b : List (BitVec 8)) (c : List (BitVec 8)) (ha : a.length = 32) (hb : b.length = 32) (hc : c.length = 32) (j5 : Nat) : (rfMA_L5 a b c j5).2.length = 8 := by
  induction j5 with
  | zero => first | (simp (maxDischargeDepth := 9) [rfMA_L5, *]; done) | (simp (maxDischargeDepth := 9) [rfMA_L5, *]; omega)
  | succ j5 ih => rw [rfMA_L5.eq_2, rfMA_L5_S]; first | (simp (maxDischargeDepth := 9) [ih]; done) | (simp (maxDischargeDepth := 9) [ih]; omega) | (simp (maxDischargeDepth := 9) [*]; done) | (simp (maxDischargeDepth := 9) [*]; omega) | (split <;> first | (simp (maxDischargeDepth := 9) [ih]; done) | (simp (maxDischargeDepth := 9) [ih]; omega) | (simp (maxDischargeDepth := 9) [*]; done))
def rfMA (a : List (BitVec 8)) (b : List (BitVec 8)) (c : List (BitVec 8)) : List (BitVec 8) := rB (rfModL ((rfMA_L5 a b c 8).2))
@[simp] theorem rfMA_len (a : List (BitVec 8)) (b : List (BitVec 8)) (c : List (BitVec 8)) (ha : a.length = 32) (hb : b.length = 32) (hc : c.length = 32) : (rfMA a b c).length = 32 := by
  unfold rfMA
  first | (simp (maxDischargeDepth := 9) [rfMA_L5_len1, *]; done) | (simp (maxDischargeDepth := 9) [rfMA_L5_len1, *]; omega) | (split <;> (simp (maxDischargeDepth := 9) [rfMA_L5_len1, *]; done))
attribute [irreducible] rfMA
end Go.Proofs.Ytcgncafhonlmlaa
namespace Go.Proofs.Ytcgncafhonlmlaa
open Go.RowKit
end Go.Proofs.Ytcgncafhonlmlaa
namespace Go.Proofs.Ytcgncafhonlmlaa
open Go.RowKit
def rkSeed0 (seed : List (BitVec 8)) : List (BitVec 8) := rB (rkKey (cut (sha512 seed) 0 32))
def rkSeed1 (seed : List (BitVec 8)) : List (BitVec 8) := cut (sha512 seed) 32 32
@[simp] theorem rkSeed0_len (seed : List (BitVec 8)) (hseed : seed.length = 32) : (rkSeed0 seed).length = 32 := by
  unfold rkSeed0
  first | (simp [*]; done) | (simp [*]; omega)
attribute [irreducible] rkSeed0
@[simp] theorem rkSeed1_len (seed : List (BitVec 8)) (hseed : seed.length = 32) : (rkSeed1 seed).length = 32 := by
  unfold rkSeed1
  first | (simp [*]; done) | (simp [*]; omega)
attribute [irreducible] rkSeed1
def rkChal (r : List (BitVec 8)) (pub : List (BitVec 8)) (text : List (BitVec 8)) : List (BitVec 8) := sMod (sha512 ((r ++ pub) ++ text))
@[simp] theorem rkChal_len (r : List (BitVec 8)) (pub : List (BitVec 8)) (text : List (BitVec 8)) (hr : r.length = 32) (hpub : pub.length = 32) : (rkChal r pub text).length = 32 := by
  unfold rkChal
  first | (simp [*]; done) | (simp [*]; omega)
attribute [irreducible] rkChal
end Go.Proofs.Ytcgncafhonlmlaa
namespace Go.Proofs.Ytcgncafhonlmlaa
open Go.RowKit
end Go.Proofs.Ytcgncafhonlmlaa
namespace Go.Proofs.Ytcgncafhonlmlaa
open Go.RowKit
end Go.Proofs.Ytcgncafhonlmlaa
namespace Go.Proofs.Ytcgncafhonlmlaa
open Go.RowKit
end Go.Proofs.Ytcgncafhonlmlaa
namespace Go.Proofs.Ytcgncafhonlmlaa
open Go.RowKit
end Go.Proofs.Ytcgncafhonlmlaa
namespace Go.Proofs.Ytcgncafhonlmlaa
open Go.RowKit
end Go.Proofs.Ytcgncafhonlmlaa
