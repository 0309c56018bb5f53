/- The texts CvMult, CvL, CvOrd, CvTurnP, CvTurn, CvEqP, CvEqA, CvEqB, CvEqD, CvEqE, CvEqF, CvEq, merged into one. -/
import Derived.Test.YtcekjmejppemeaaCV5
/- trystlaw08.CurveMultiples (Drawn up by a program.) -/
namespace Go.Proofs.Ytcekjmejppemeaa
open Go.RowKit

set_option maxRecDepth 100000 in
set_option maxHeartbeats 2000000 in
theorem curveMultiples_ev (n : BitVec 64) (m : BitVec 64) (k : List (BitVec 8)) (hk : k.length = 32) : Ev Try.prog (.call 11 [.c (.val (U64 n)), .c (.val (U64 m)), .agg (.a8 (k))] []) (.val (.c (.val (.bool (true)))) []) := by
  refine c_call Try.func11 rfl Try.ntmps11 rfl LEN_ ?_
  refine S_ ?_
  refine c_region ?_
  refine s_memN (m_box BX_ LEN_) APP_ rfl ?_
  refine s_val (v_assignC rfl) rfl ?_
  refine s_nil ?_
  have hQ1 : (enc (oB k)).length = 32 := LQ_
  refine S_ ?_
  refine c_region ?_
  refine s_val (v_loadR rfl rfl row_22 sz_22 EQ_ (by decide)) rfl ?_
  refine s_evN (e_callR (bs := []) (bsE_ev k HYP_) ok_12 (by kernel_rfl) (by kernel_rfl) rfl VAL_) APP_ rfl ?_
  refine s_memN (m_alloc al_22 LEN_) APP_ rfl ?_
  refine s_storeR rfl rfl rfl rfl sz_22 EQ_ EQ_ SET_ ?_
  refine s_nil ?_
  have hQ2 : (fSmall (n >>> 1)).length = 32 := LQ_
  have hQ3 : (enc (oT (fSmall (n >>> 1)) (oB k))).length = 32 := LQ_
  refine S_ ?_
  refine c_late 9 7 mixed (by kernel_rfl) (by kernel_rfl) rfl rfl rfl ?_
  refine h_val (v_moveC rfl) rfl ?_
  refine h_val (v_shr64n (j := 1) rfl rfl) rfl ?_
  refine h_evN (e_callR (bs := []) (fSmall_ev (n >>> 1)) ok_15 (by kernel_rfl) (by kernel_rfl) rfl VAL_) APP_ rfl ?_
  refine h_val (v_loadR rfl rfl row_22 sz_22 EQ_ (by decide)) rfl ?_
  refine h_evN (e_callR (bs := []) (tmsE_ev (fSmall (n >>> 1)) (oB k) HYP_) ok_17 (by kernel_rfl) (by kernel_rfl) rfl VAL_) APP_ rfl ?_
  refine h_val (v_moveT rfl) rfl ?_
  refine h_val (v_extract rfl rfl) rfl ?_
  refine h_val (v_extract rfl rfl) rfl ?_
  refine h_memN (m_alloc al_22 LEN_) APP_ rfl ?_
  refine h_nil ?_
  refine s_storeR rfl rfl rfl rfl sz_22 EQ_ EQ_ SET_ ?_
  refine s_val (v_assignC rfl) rfl ?_
  refine s_nil ?_
  have hQ4 : (fSmall (m >>> 1)).length = 32 := LQ_
  have hQ5 : (enc (oT (fSmall (m >>> 1)) (oB k))).length = 32 := LQ_
  refine S_ ?_
  refine c_late 9 7 mixed (by kernel_rfl) (by kernel_rfl) rfl rfl rfl ?_
  refine h_val (v_moveC rfl) rfl ?_
  refine h_val (v_shr64n (j := 1) rfl rfl) rfl ?_
  refine h_evN (e_callR (bs := []) (fSmall_ev (m >>> 1)) ok_15 (by kernel_rfl) (by kernel_rfl) rfl VAL_) APP_ rfl ?_
  refine h_val (v_loadR rfl rfl row_22 sz_22 EQ_ (by decide)) rfl ?_
  refine h_evN (e_callR (bs := []) (tmsE_ev (fSmall (m >>> 1)) (oB k) HYP_) ok_17 (by kernel_rfl) (by kernel_rfl) rfl VAL_) APP_ rfl ?_
  refine h_val (v_moveT rfl) rfl ?_
  refine h_val (v_extract rfl rfl) rfl ?_
  refine h_val (v_extract rfl rfl) rfl ?_
  refine h_memN (m_alloc al_22 LEN_) APP_ rfl ?_
  refine h_nil ?_
  refine s_storeR rfl rfl rfl rfl sz_22 EQ_ EQ_ SET_ ?_
  refine s_val (v_assignC rfl) rfl ?_
  refine s_nil ?_
  have hQ6 : (enc (oadd (oT (fSmall (n >>> 1)) (oB k)) (oT (fSmall (m >>> 1)) (oB k)))).length = 32 := LQ_
  refine S_ ?_
  refine c_region ?_
  refine s_val (v_loadR rfl rfl row_22 sz_22 EQ_ (by decide)) rfl ?_
  refine s_val (v_loadR rfl rfl row_22 sz_22 EQ_ (by decide)) rfl ?_
  refine s_evN (e_callR (bs := []) (addE_ev (oT (fSmall (n >>> 1)) (oB k)) (oT (fSmall (m >>> 1)) (oB k))) ok_13 (by kernel_rfl) (by kernel_rfl) rfl VAL_) APP_ rfl ?_
  refine s_val (v_moveT rfl) rfl ?_
  refine s_val (v_extract rfl rfl) rfl ?_
  refine s_val (v_extract rfl rfl) rfl ?_
  refine s_memN (m_alloc al_22 LEN_) APP_ rfl ?_
  refine s_storeR rfl rfl rfl rfl sz_22 EQ_ EQ_ SET_ ?_
  refine s_val (v_assignC rfl) rfl ?_
  refine s_nil ?_
  have hQ7 : (fSmall ((n >>> 1) + (m >>> 1))).length = 32 := LQ_
  have hQ8 : (enc (oT (fSmall ((n >>> 1) + (m >>> 1))) (oB k))).length = 32 := LQ_
  refine S_ ?_
  refine c_late 12 10 mixed (by kernel_rfl) (by kernel_rfl) rfl rfl rfl ?_
  refine h_val (v_moveC rfl) rfl ?_
  refine h_val (v_shr64n (j := 1) rfl rfl) rfl ?_
  refine h_val (v_moveC rfl) rfl ?_
  refine h_val (v_shr64n (j := 1) rfl rfl) rfl ?_
  refine h_val (v_add64 rfl rfl) rfl ?_
  refine h_evN (e_callR (bs := []) (fSmall_ev ((n >>> 1) + (m >>> 1))) ok_15 (by kernel_rfl) (by kernel_rfl) rfl VAL_) APP_ rfl ?_
  refine h_val (v_loadR rfl rfl row_22 sz_22 EQ_ (by decide)) rfl ?_
  refine h_evN (e_callR (bs := []) (tmsE_ev (fSmall ((n >>> 1) + (m >>> 1))) (oB k) HYP_) ok_17 (by kernel_rfl) (by kernel_rfl) rfl VAL_) APP_ rfl ?_
  refine h_val (v_moveT rfl) rfl ?_
  refine h_val (v_extract rfl rfl) rfl ?_
  refine h_val (v_extract rfl rfl) rfl ?_
  refine h_memN (m_alloc al_22 LEN_) APP_ rfl ?_
  refine h_nil ?_
  refine s_storeR rfl rfl rfl rfl sz_22 EQ_ EQ_ SET_ ?_
  refine s_val (v_assignC rfl) rfl ?_
  refine s_nil ?_
  have hE9 : (!decide (enc (oadd (oT (fSmall (n >>> 1)) (oB k)) (oT (fSmall (m >>> 1)) (oB k))) = enc (oT (fSmall ((n >>> 1) + (m >>> 1))) (oB k)))) = false := by rw [mult_add, decide_eq_true rfl]; rfl
  refine S_ ?_
  refine c_region ?_
  refine s_val (v_moveC rfl) rfl ?_
  refine s_val (v_neqN (a := 0) (b := 0) rfl rfl) rfl ?_
  refine s_val (v_moveC rfl) rfl ?_
  refine s_go GO_ ?_
  refine s_val (v_moveC rfl) rfl ?_
  refine s_go GO_ ?_
  refine s_val (v_neqN (a := 0) (b := 0) rfl rfl) rfl ?_
  refine s_val (v_pickF rfl PK_ rfl) rfl ?_
  refine s_val (v_moveC rfl) rfl ?_
  refine s_go GO_ ?_
  refine s_val (v_moveC rfl) rfl ?_
  refine s_go GO_ ?_
  refine s_val (v_neqN (a := 0) (b := 0) rfl rfl) rfl ?_
  refine s_val (v_pickF rfl PK_ rfl) rfl ?_
  refine s_val (v_moveC rfl) rfl ?_
  refine s_go GO_ ?_
  refine s_val (v_moveC rfl) rfl ?_
  refine s_go GO_ ?_
  refine s_val (v_neqN (a := 0) (b := 0) rfl rfl) rfl ?_
  refine s_val (v_pickF rfl PK_ rfl) rfl ?_
  refine s_val (v_moveC rfl) rfl ?_
  refine s_go GO_ ?_
  refine s_val (v_loadR rfl rfl row_22 sz_22 EQ_ (by decide)) rfl ?_
  refine s_go GO_ ?_
  refine s_val (v_loadR rfl rfl row_22 sz_22 EQ_ (by decide)) rfl ?_
  refine s_go GO_ ?_
  refine s_val (v_bool (v_neqR8 rfl rfl Try.underlying22 Try.underlying5 sz_5 EQ_ EQ_) hE9) rfl ?_
  refine s_val (v_pickF rfl PK_ rfl) rfl ?_
  refine s_nil ?_
  have hQ10 : (fSmall n).length = 32 := LQ_
  have hQ11 : (fSmall m).length = 32 := LQ_
  have hQ12 : (sMA (fSmall n) k (fSmall m)).length = 32 := LQ_
  refine S_ ?_
  refine c_draw 7 mixed (by kernel_rfl) rfl rfl rfl ?_
  refine h_val (v_moveC rfl) rfl ?_
  refine h_evN (e_callR (bs := []) (fSmall_ev n) ok_15 (by kernel_rfl) (by kernel_rfl) rfl VAL_) APP_ rfl ?_
  refine h_val (v_loadR rfl rfl row_22 sz_22 EQ_ (by decide)) rfl ?_
  refine h_val (v_moveC rfl) rfl ?_
  refine h_evN (e_callR (bs := []) (fSmall_ev m) ok_15 (by kernel_rfl) (by kernel_rfl) rfl VAL_) APP_ rfl ?_
  refine h_evN (e_callR (bs := []) (sMA_ev (fSmall n) k (fSmall m) HYP_ HYP_ HYP_) ok_32 (by kernel_rfl) (by kernel_rfl) rfl VAL_) APP_ rfl ?_
  refine h_memN (m_alloc al_22 LEN_) APP_ rfl ?_
  refine h_nil ?_
  refine s_storeR rfl rfl rfl rfl sz_22 EQ_ EQ_ SET_ ?_
  refine s_nil ?_
  have hQ13 : (fSmall n).length = 32 := LQ_
  have hQ14 : (enc (oT (fSmall n) (oB k))).length = 32 := LQ_
  refine S_ ?_
  refine c_late 8 6 mixed (by kernel_rfl) (by kernel_rfl) rfl rfl rfl ?_
  refine h_val (v_moveC rfl) rfl ?_
  refine h_evN (e_callR (bs := []) (fSmall_ev n) ok_15 (by kernel_rfl) (by kernel_rfl) rfl VAL_) APP_ rfl ?_
  refine h_val (v_loadR rfl rfl row_22 sz_22 EQ_ (by decide)) rfl ?_
  refine h_evN (e_callR (bs := []) (tmsE_ev (fSmall n) (oB k) HYP_) ok_17 (by kernel_rfl) (by kernel_rfl) rfl VAL_) APP_ rfl ?_
  refine h_val (v_moveT rfl) rfl ?_
  refine h_val (v_extract rfl rfl) rfl ?_
  refine h_val (v_extract rfl rfl) rfl ?_
  refine h_memN (m_alloc al_22 LEN_) APP_ rfl ?_
  refine h_nil ?_
  refine s_storeR rfl rfl rfl rfl sz_22 EQ_ EQ_ SET_ ?_
  refine s_val (v_assignC rfl) rfl ?_
  refine s_nil ?_
  have hQ15 : (fSmall m).length = 32 := LQ_
  have hQ16 : (enc (oB (fSmall m))).length = 32 := LQ_
  have hQ17 : (enc (oadd (oT (fSmall n) (oB k)) (oB (fSmall m)))).length = 32 := LQ_
  refine S_ ?_
  refine c_late 9 7 mixed (by kernel_rfl) (by kernel_rfl) rfl rfl rfl ?_
  refine h_val (v_loadR rfl rfl row_22 sz_22 EQ_ (by decide)) rfl ?_
  refine h_val (v_moveC rfl) rfl ?_
  refine h_evN (e_callR (bs := []) (fSmall_ev m) ok_15 (by kernel_rfl) (by kernel_rfl) rfl VAL_) APP_ rfl ?_
  refine h_evN (e_callR (bs := []) (bsE_ev (fSmall m) HYP_) ok_12 (by kernel_rfl) (by kernel_rfl) rfl VAL_) APP_ rfl ?_
  refine h_evN (e_callR (bs := []) (addE_ev (oT (fSmall n) (oB k)) (oB (fSmall m))) ok_13 (by kernel_rfl) (by kernel_rfl) rfl VAL_) APP_ rfl ?_
  refine h_val (v_moveT rfl) rfl ?_
  refine h_val (v_extract rfl rfl) rfl ?_
  refine h_val (v_extract rfl rfl) rfl ?_
  refine h_memN (m_alloc al_22 LEN_) APP_ rfl ?_
  refine h_nil ?_
  refine s_storeR rfl rfl rfl rfl sz_22 EQ_ EQ_ SET_ ?_
  refine s_val (v_assignC rfl) rfl ?_
  refine s_nil ?_
  have hQ19 : (enc (oB (sMA (fSmall n) k (fSmall m)))).length = 32 := LQ_
  have hE18 : (decide (enc (oB (sMA (fSmall n) k (fSmall m))) = enc (oadd (oT (fSmall n) (oB k)) (oB (fSmall m))))) = true := decide_eq_true (congrArg enc (mult_mul n m k))
  refine S_ ?_
  refine c_draw 16 mixed (by kernel_rfl) rfl rfl rfl ?_
  refine h_val (v_moveC rfl) rfl ?_
  refine h_val (v_eqlN (a := 0) (b := 0) rfl rfl) rfl ?_
  refine h_val (v_moveC rfl) rfl ?_
  refine h_go GO_ ?_
  refine h_val (v_moveC rfl) rfl ?_
  refine h_go GO_ ?_
  refine h_val (v_eqlN (a := 0) (b := 0) rfl rfl) rfl ?_
  refine h_val (v_pickT rfl PK_ rfl) rfl ?_
  refine h_val (v_moveC rfl) rfl ?_
  refine h_go GO_ ?_
  refine h_val (v_loadR rfl rfl row_22 sz_22 EQ_ (by decide)) rfl ?_
  refine h_go GO_ ?_
  refine h_evN (e_callR (bs := []) (bsE_ev (sMA (fSmall n) k (fSmall m)) HYP_) ok_12 (by kernel_rfl) (by kernel_rfl) rfl VAL_) APP_ rfl ?_
  refine h_go GO_ ?_
  refine h_val (v_loadR rfl rfl row_22 sz_22 EQ_ (by decide)) rfl ?_
  refine h_go GO_ ?_
  refine h_val (v_bool (v_eqlR8 rfl rfl Try.underlying22 Try.underlying5 sz_5 EQ_ EQ_) hE18) rfl ?_
  refine h_val (v_pickT rfl PK_ rfl) rfl ?_
  refine h_val (v_moveC rfl) rfl ?_
  refine h_go GO_ ?_
  refine h_evN (e_callR (wakes_ev) ok_16 rfl rfl rfl VAL_) APP_ rfl ?_
  refine h_val (v_pickT rfl PK_ rfl) rfl ?_
  refine h_val (v_assignC rfl) rfl ?_
  refine h_nil ?_
  refine s_nil ?_
  refine S_ ?_
  exact k_1 (by first | exact r_tmpC rfl | exact r_tmpA rfl) (by first | kernel_rfl | rfl)
end Go.Proofs.Ytcekjmejppemeaa
/- trystref06.L (Drawn up by a program.) -/
namespace Go.Proofs.Ytcekjmejppemeaa
open Go.RowKit
def rfL  : List (BitVec 64) := [6346243789798364141#64, 1503914060200516822#64, 0#64, 1152921504606846976#64]
set_option maxRecDepth 100000 in
set_option maxHeartbeats 2000000 in
theorem rfL_ev   : Ev Try.prog (.call 24 [] []) (.val (.agg (.a64 (rfL))) []) := by
  have hP : Hid (rfL = [6346243789798364141#64, 1503914060200516822#64, 0#64, 1152921504606846976#64]) := ⟨rfl⟩
  refine c_call Try.func24 rfl Try.ntmps24 rfl LEN_ ?_
  refine S_ ?_
  refine c_region ?_
  refine s_memN (m_alloc al_38 LEN_) APP_ rfl ?_
  refine s_nil ?_
  refine S_ ?_
  refine c_region ?_
  refine s_val (v_bld64 (l := [6346243789798364141#64, 1503914060200516822#64, 0#64, 1152921504606846976#64]) zc_38 Try.underlying38 sz_29 rfl rfl (by decide)) rfl ?_
  refine s_storeR rfl rfl rfl rfl sz_38 EQ_ EQ_ SET_ ?_
  refine s_nil ?_
  refine S_ ?_
  rw [hP.out]
  exact k_1 (r_row rfl rfl row_38 sz_38 EQ_ (by decide)) (by first | kernel_rfl | rfl)

@[simp] theorem rfL_len  : (rfL).length = 4 := by
  unfold rfL
  first | (simp [*]; done) | (simp [*]; omega)

attribute [irreducible] rfL
theorem rfL_val : wV rfL = L25519 := by unfold rfL; decide +kernel
theorem rfL_up : wV (put rfL 0 ((nth rfL 0) + 1#64)) = L25519 + 1 := by unfold rfL; decide +kernel
theorem rfL_down : wV (put rfL 0 ((nth rfL 0) - 1#64)) = L25519 - 1 := by unfold rfL; decide +kernel
theorem oB_L : oB (rB rfL) = ozero := by
  unfold oB
  rw [leS_rB, rfL_val]
  exact obase_L
theorem oB_L1 : oB (rB (put rfL 0 ((nth rfL 0) + 1#64))) = obase := by
  unfold oB
  rw [leS_rB, rfL_up, omul_add, obase_L, omul_one]
  exact zero_oadd _
theorem below_L : sBelow (rB rfL) = false := by
  unfold sBelow
  rw [leS_rB, rfL_val]
  exact decide_eq_false (Nat.lt_irrefl _)
end Go.Proofs.Ytcekjmejppemeaa
/- trystlaw08.CurveOrder (Drawn up by a program.) -/
namespace Go.Proofs.Ytcekjmejppemeaa
open Go.RowKit

set_option maxRecDepth 100000 in
set_option maxHeartbeats 2000000 in
theorem curveOrder_ev (n : List (BitVec 8)) (hn : n.length = 32) : Ev Try.prog (.call 8 [.agg (.a8 (n))] []) (.val (.c (.val (.bool (true)))) []) := by
  refine c_call Try.func8 rfl Try.ntmps8 rfl LEN_ ?_
  refine S_ ?_
  refine c_region ?_
  refine s_memN (m_box BX_ LEN_) APP_ rfl ?_
  refine s_val (v_assignC rfl) rfl ?_
  refine s_nil ?_
  have hQ1 : (rfL).length = 4 := LQ_
  refine S_ ?_
  refine c_region ?_
  refine s_evN (e_callR (bs := []) (rfL_ev) ok_24 (by kernel_rfl) (by kernel_rfl) rfl VAL_) APP_ rfl ?_
  refine s_memN (m_alloc al_38 LEN_) APP_ rfl ?_
  refine s_storeR rfl rfl rfl rfl sz_38 EQ_ EQ_ SET_ ?_
  refine s_nil ?_
  refine S_ ?_
  refine c_region ?_
  refine s_val (v_loadR rfl rfl row_38 sz_38 EQ_ (by decide)) rfl ?_
  refine s_memN (m_alloc al_38 LEN_) APP_ rfl ?_
  refine s_storeR rfl rfl rfl rfl sz_38 EQ_ EQ_ SET_ ?_
  refine s_nil ?_
  refine S_ ?_
  refine c_region ?_
  refine s_val (v_idxA1 (j := 0) rfl rfl Try.underlying38 sz_29 (by omega)) rfl ?_
  refine s_val (v_load64 rfl rfl row_29 LT_) rfl ?_
  refine s_val (v_add64 (b := 1#64) rfl rfl) rfl ?_
  refine s_val (v_idxA1 (j := 0) rfl rfl Try.underlying38 sz_29 (by omega)) rfl ?_
  refine s_store64 rfl rfl rfl sz_29 LT_ SET_ ?_
  refine s_nil ?_
  have hQ2 : (sMod n).length = 32 := LQ_
  refine S_ ?_
  refine c_region ?_
  refine s_val (v_slA1 (l := 0) (h := 32) (len := 32) (cp := 32) rfl Try.underlying22 sz_5 rfl rfl rfl (by omega) (by omega) FIT_ rfl rfl) rfl ?_
  refine s_evN (e_callR (bs := [0]) (sMod_ev n 32 32 HYP_ HYP_) ok_30 (by kernel_rfl) (by kernel_rfl) rfl VAL_) APP_ rfl ?_
  refine s_val (v_moveT rfl) rfl ?_
  refine s_val (v_extract rfl rfl) rfl ?_
  refine s_val (v_extract rfl rfl) rfl ?_
  refine s_memN (m_alloc al_22 LEN_) APP_ rfl ?_
  refine s_storeR rfl rfl rfl rfl sz_22 EQ_ EQ_ SET_ ?_
  refine s_val (v_assignC rfl) rfl ?_
  refine s_nil ?_
  have hQ7 : (rB rfL).length = 32 := LQ_
  have hQ8 : (enc (oB (rB rfL))).length = 32 := LQ_
  have hQ9 : (fSmall 1#64).length = 32 := LQ_
  have hQ10 : (rB (put rfL 0 ((nth rfL 0) + 1#64))).length = 32 := LQ_
  have hQ11 : (enc (oB (rB (put rfL 0 ((nth rfL 0) + 1#64))))).length = 32 := LQ_
  have hQ12 : (enc (oB (fSmall 1#64))).length = 32 := LQ_
  have hQ13 : (enc (oB (sMod n))).length = 32 := LQ_
  have hQ14 : (enc (oB n)).length = 32 := LQ_
  have hE3 : (decide (enc (oB (rB rfL)) = fSmall 1#64)) = true := decide_eq_true (by rw [oB_L, enc_zero])
  have hE4 : (decide (enc (oB (rB (put rfL 0 ((nth rfL 0) + 1#64)))) = enc (oB (fSmall 1#64)))) = true := decide_eq_true (by rw [oB_L1, oB_one])
  have hE5 : (decide (enc (oB (sMod n)) = enc (oB n))) = true := decide_eq_true (congrArg enc (oB_mod n hn))
  have hE6 : (sBelow (rB rfL)) = false := below_L
  refine S_ ?_
  refine c_draw 34 mixed (by kernel_rfl) rfl rfl rfl ?_
  refine h_val (v_loadR rfl rfl row_38 sz_38 EQ_ (by decide)) rfl ?_
  refine h_evN (e_callR (bs := []) (rB_ev rfL HYP_) ok_25 (by kernel_rfl) (by kernel_rfl) rfl VAL_) APP_ rfl ?_
  refine h_evN (e_callR (bs := []) (bsE_ev (rB rfL) HYP_) ok_12 (by kernel_rfl) (by kernel_rfl) rfl VAL_) APP_ rfl ?_
  refine h_evN (e_callR (bs := []) (fSmall_ev 1#64) ok_15 (by kernel_rfl) (by kernel_rfl) rfl VAL_) APP_ rfl ?_
  refine h_val (v_bool (v_eqlR8 rfl rfl Try.underlying22 Try.underlying5 sz_5 EQ_ EQ_) hE3) rfl ?_
  refine h_val (v_moveC rfl) rfl ?_
  refine h_go GO_ ?_
  refine h_val (v_loadR rfl rfl row_38 sz_38 EQ_ (by decide)) rfl ?_
  refine h_go GO_ ?_
  refine h_evN (e_callR (bs := []) (rB_ev (put rfL 0 ((nth rfL 0) + 1#64)) HYP_) ok_25 (by kernel_rfl) (by kernel_rfl) rfl VAL_) APP_ rfl ?_
  refine h_go GO_ ?_
  refine h_evN (e_callR (bs := []) (bsE_ev (rB (put rfL 0 ((nth rfL 0) + 1#64))) HYP_) ok_12 (by kernel_rfl) (by kernel_rfl) rfl VAL_) APP_ rfl ?_
  refine h_go GO_ ?_
  refine h_evN (e_callR (bs := []) (fSmall_ev 1#64) ok_15 (by kernel_rfl) (by kernel_rfl) rfl VAL_) APP_ rfl ?_
  refine h_go GO_ ?_
  refine h_evN (e_callR (bs := []) (bsE_ev (fSmall 1#64) HYP_) ok_12 (by kernel_rfl) (by kernel_rfl) rfl VAL_) APP_ rfl ?_
  refine h_go GO_ ?_
  refine h_val (v_bool (v_eqlR8 rfl rfl Try.underlying22 Try.underlying5 sz_5 EQ_ EQ_) hE4) rfl ?_
  refine h_val (v_pickT rfl PK_ rfl) rfl ?_
  refine h_val (v_moveC rfl) rfl ?_
  refine h_go GO_ ?_
  refine h_val (v_moveC rfl) rfl ?_
  refine h_go GO_ ?_
  refine h_val (v_eqlN (a := 0) (b := 0) rfl rfl) rfl ?_
  refine h_val (v_pickT rfl PK_ rfl) rfl ?_
  refine h_val (v_moveC rfl) rfl ?_
  refine h_go GO_ ?_
  refine h_val (v_loadR rfl rfl row_22 sz_22 EQ_ (by decide)) rfl ?_
  refine h_go GO_ ?_
  refine h_evN (e_callR (bs := []) (bsE_ev (sMod n) HYP_) ok_12 (by kernel_rfl) (by kernel_rfl) rfl VAL_) APP_ rfl ?_
  refine h_go GO_ ?_
  refine h_val (v_loadR rfl rfl row_22 sz_22 EQ_ (by decide)) rfl ?_
  refine h_go GO_ ?_
  refine h_evN (e_callR (bs := []) (bsE_ev n HYP_) ok_12 (by kernel_rfl) (by kernel_rfl) rfl VAL_) APP_ rfl ?_
  refine h_go GO_ ?_
  refine h_val (v_bool (v_eqlR8 rfl rfl Try.underlying22 Try.underlying5 sz_5 EQ_ EQ_) hE5) rfl ?_
  refine h_val (v_pickT rfl PK_ rfl) rfl ?_
  refine h_val (v_moveC rfl) rfl ?_
  refine h_go GO_ ?_
  refine h_val (v_loadR rfl rfl row_38 sz_38 EQ_ (by decide)) rfl ?_
  refine h_go GO_ ?_
  refine h_evN (e_callR (bs := []) (rB_ev rfL HYP_) ok_25 (by kernel_rfl) (by kernel_rfl) rfl VAL_) APP_ rfl ?_
  refine h_go GO_ ?_
  refine h_evN (e_callR (bs := []) (sBelow_ev (rB rfL) HYP_) ok_31 (by kernel_rfl) (by kernel_rfl) rfl VAL_) APP_ rfl ?_
  refine h_go GO_ ?_
  refine h_val (v_unnotB rfl) rfl ?_
  refine h_val (v_pickT rfl PK_ rfl) rfl ?_
  refine h_val (v_moveC rfl) rfl ?_
  refine h_go GO_ ?_
  refine h_evN (e_callR (wakes_ev) ok_16 rfl rfl rfl VAL_) APP_ rfl ?_
  refine h_val (v_pickT rfl PK_ rfl) rfl ?_
  refine h_val (v_assignC rfl) rfl ?_
  refine h_nil ?_
  refine s_nil ?_
  refine S_ ?_
  exact k_1 (by first | exact r_tmpC rfl | exact r_tmpA rfl) (by first | kernel_rfl | rfl)
end Go.Proofs.Ytcekjmejppemeaa
/- A point with its sign bit turned. (Drawn up by a program.) -/
namespace Go.Proofs.Ytcekjmejppemeaa
open Go.RowKit
/-- The bytes, with the highest bit turned. -/
theorem turned_neg (P : OPt) (hx : P.p.x ≠ 0) : put (enc P) 31 ((nth (enc P) 31) ^^^ 128#8) = enc (oneg P) := by
  refine (enc_of (by rw [put_length, enc_len]) ?_).symm
  rw [top_xor (enc_len P), leS_enc]
  have hy := P.p.y.isLt
  have hn := neg_par hx
  have h2 := Nat.mod_two_eq_zero_or_one P.p.x.val
  unfold encN oneg pneg
  show P.p.y.val + (-P.p.x).val % 2 * MM = _
  rw [hn]
  change _ < 57896044618658097711785492504343953926634992332820282019728792003956564819949 at hy
  show _ + _ * 57896044618658097711785492504343953926634992332820282019728792003956564819968 = if _ + _ * 57896044618658097711785492504343953926634992332820282019728792003956564819968 < 57896044618658097711785492504343953926634992332820282019728792003956564819968 then _ + _ * 57896044618658097711785492504343953926634992332820282019728792003956564819968 + 57896044618658097711785492504343953926634992332820282019728792003956564819968 else _ + _ * 57896044618658097711785492504343953926634992332820282019728792003956564819968 - 57896044618658097711785492504343953926634992332820282019728792003956564819968
  rcases h2 with h2 | h2
  · rw [h2, if_pos (by omega)]; all_goals omega
  · rw [h2, if_neg (by omega)]; all_goals omega
theorem encN_zero : encN ozero = 1 := by unfold encN; decide +kernel
theorem xx_one : xxOf 1 = 0 := by
  unfold xxOf
  rw [show (1 : Fp) * 1 - 1 = 0 from by decide +kernel]
  exact zero_mulF _
theorem turned_zero (P : OPt) (hz : P = ozero) : unOk (put (enc P) 31 ((nth (enc P) 31) ^^^ 128#8)) = false := by
  have hl : (put (enc P) 31 ((nth (enc P) 31) ^^^ 128#8)).length = 32 := by rw [put_length, enc_len]
  cases h : unOk (put (enc P) 31 ((nth (enc P) 31) ^^^ 128#8)) with
  | false => rfl
  | true =>
    obtain ⟨Q, e, _⟩ := unP_rep hl h
    have hv : encN Q = 1 + MM := by
      rw [← leS_enc, ← e, top_xor (enc_len P), leS_enc, hz, encN_zero]
      rfl
    obtain ⟨_, y1, b1⟩ := encN_parts Q
    have hy : Q.p.y = 1 := by
      refine Fin.ext ?_
      rw [← y1, hv, Nat.add_mod_right]
      rfl
    have ho := b1.1 (by rw [hv]; exact Nat.le_add_left _ _)
    have hx : Q.p.x * Q.p.x = 0 := by rw [On_xx, hy, xx_one]
    have hx0 : Q.p.x = 0 := by rcases nozero hx with h | h <;> exact h
    rw [hx0] at ho
    change 0 % 2 = 1 at ho
    omega
theorem dbl_x0 (P : OPt) (hx : P.p.x = 0) : oadd P P = ozero := by
  have ho := P.on
  unfold On at ho
  rw [hx] at ho
  refine OPt.same ?_
  show padd P.p P.p = pzero
  unfold padd pzero
  rw [hx]
  have hy : P.p.y * P.p.y = 1 := by
    generalize P.p.y = y at ho ⊢
    generalize dF = d at ho
    grobner
  generalize P.p.y = y at hy
  generalize dF = d
  have e1 : 1 + d * 0 * 0 * y * y = 1 := by grobner
  have e2 : 1 - d * 0 * 0 * y * y = 1 := by grobner
  have e3 : 0 * y + 0 * y = 0 := by grobner
  have e4 : y * y + 0 * 0 = 1 := by grobner
  rw [e1, e2, e3, e4, inv_one]
  congr 1
theorem L_odd : L25519 = 2 * (L25519 / 2) + 1 := by decide +kernel
theorem oB_x0 (n : List (BitVec 8)) (hx : (oB n).p.x = 0) : oB n = ozero := by
  have h2 : omul (oB n) 2 = ozero := by
    rw [show (2 : Nat) = 1 + 1 from rfl, omul_add, omul_one]
    exact dbl_x0 _ hx
  have hL : omul (oB n) L25519 = ozero := by
    unfold oB
    rw [← omul_mul, Nat.mul_comm, omul_mul, obase_L]
    exact ozero_mul _
  rw [L_odd, omul_add, omul_mul, h2, omul_one, ozero_mul, zero_oadd] at hL
  exact hL
theorem turned_oB (n : List (BitVec 8)) (hz : oB n ≠ ozero) : put (enc (oB n)) 31 ((nth (enc (oB n)) 31) ^^^ 128#8) = enc (oneg (oB n)) := turned_neg _ fun h => hz (oB_x0 n h)
theorem L_pred : L25519 = (L25519 - 1) + 1 := by decide +kernel
theorem turned_mul (n : List (BitVec 8)) : oT (rB (put rfL 0 ((nth rfL 0) - 1#64))) (oB n) = oneg (oB n) := by
  unfold oT
  rw [leS_rB, rfL_down]
  have hL : omul (oB n) L25519 = ozero := by
    unfold oB
    rw [← omul_mul, Nat.mul_comm, omul_mul, obase_L]
    exact ozero_mul _
  rw [L_pred, omul_add, omul_one] at hL
  have e : oadd (oadd (omul (oB n) (L25519 - 1)) (oB n)) (oneg (oB n)) = omul (oB n) (L25519 - 1) := by rw [oadd_assoc, oadd_neg, oadd_zero]
  rw [hL, zero_oadd] at e
  exact e.symm
theorem addT_ev (n : List (BitVec 8)) (hz : oB n ≠ ozero) : Ev Try.prog (.call 13 [.agg (.a8 (enc (oB n))), .agg (.a8 (put (enc (oB n)) 31 ((nth (enc (oB n)) 31) ^^^ 128#8)))] []) (.val (.tup [.agg (.a8 (enc (oadd (oB n) (oneg (oB n))))), .c (.val (.int .i64 ((0 : Nat) : Int)))]) []) := by
  rw [turned_oB n hz]
  exact addE_ev _ _
theorem ckT_ev (n : List (BitVec 8)) (hz : oB n = ozero) : Ev Try.prog (.call 14 [.agg (.a8 (put (enc (oB n)) 31 ((nth (enc (oB n)) 31) ^^^ 128#8)))] []) (.val (.c (.val (.int .i64 ((4 : Nat) : Int)))) []) :=
  cvCheckF_ev _ (by rw [put_length, enc_len]) (turned_zero _ hz)
end Go.Proofs.Ytcekjmejppemeaa
/- trystlaw08.CurveTurned, trystlaw08.CurveTurned (Drawn up by a program.) -/
namespace Go.Proofs.Ytcekjmejppemeaa
open Go.RowKit

set_option maxRecDepth 100000 in
set_option maxHeartbeats 2000000 in
theorem curveTurnedZ_ev (n : List (BitVec 8)) (hn : n.length = 32) (hz : oB n = ozero) : Ev Try.prog (.call 6 [.agg (.a8 (n))] []) (.val (.c (.val (.bool (true)))) []) := by
  refine c_call Try.func6 rfl Try.ntmps6 rfl LEN_ ?_
  refine S_ ?_
  refine c_region ?_
  refine s_memN (m_box BX_ LEN_) APP_ rfl ?_
  refine s_val (v_assignC rfl) rfl ?_
  refine s_nil ?_
  have hQ1 : (enc (oB n)).length = 32 := LQ_
  refine S_ ?_
  refine c_region ?_
  refine s_val (v_loadR rfl rfl row_22 sz_22 EQ_ (by decide)) rfl ?_
  refine s_evN (e_callR (bs := []) (bsE_ev n HYP_) ok_12 (by kernel_rfl) (by kernel_rfl) rfl VAL_) APP_ rfl ?_
  refine s_memN (m_alloc al_22 LEN_) APP_ rfl ?_
  refine s_storeR rfl rfl rfl rfl sz_22 EQ_ EQ_ SET_ ?_
  refine s_nil ?_
  refine S_ ?_
  refine c_region ?_
  refine s_val (v_loadR rfl rfl row_22 sz_22 EQ_ (by decide)) rfl ?_
  refine s_memN (m_alloc al_22 LEN_) APP_ rfl ?_
  refine s_storeR rfl rfl rfl rfl sz_22 EQ_ EQ_ SET_ ?_
  refine s_nil ?_
  refine S_ ?_
  refine c_region ?_
  refine s_val (v_idxA1 (j := 31) rfl rfl Try.underlying22 sz_5 (by omega)) rfl ?_
  refine s_val (v_load8 rfl rfl row_5 LT_) rfl ?_
  refine s_val (v_xor8 (b := 128#8) rfl rfl) rfl ?_
  refine s_val (v_idxA1 (j := 31) rfl rfl Try.underlying22 sz_5 (by omega)) rfl ?_
  refine s_store8 rfl rfl rfl sz_5 LT_ SET_ ?_
  refine s_nil ?_
  have hQ3 : (fSmall 1#64).length = 32 := LQ_
  have hE2 : (decide (enc (oB n) = fSmall 1#64)) = true := decide_eq_true (by rw [hz, enc_zero])
  refine S_ ?_
  refine c_draw 3 mixed (by kernel_rfl) rfl rfl rfl ?_
  refine h_val (v_loadR rfl rfl row_22 sz_22 EQ_ (by decide)) rfl ?_
  refine h_evN (e_callR (bs := []) (fSmall_ev 1#64) ok_15 (by kernel_rfl) (by kernel_rfl) rfl VAL_) APP_ rfl ?_
  refine h_val (v_bool (v_eqlR8 rfl rfl Try.underlying22 Try.underlying5 sz_5 EQ_ EQ_) hE2) rfl ?_
  refine h_nil ?_
  refine s_nil ?_
  refine S_ ?_
  refine c_region ?_
  refine s_val (v_loadR rfl rfl row_22 sz_22 EQ_ (by decide)) rfl ?_
  refine s_evN (e_callR (bs := []) (ckT_ev n hz) ok_14 (by kernel_rfl) (by kernel_rfl) rfl VAL_) APP_ rfl ?_
  refine s_val (v_eqlN (a := 4) (b := 4) rfl rfl) rfl ?_
  refine s_val (v_moveC rfl) rfl ?_
  refine s_go GO_ ?_
  refine s_evN (e_callR (wakes_ev) ok_16 rfl rfl rfl VAL_) APP_ rfl ?_
  refine s_val (v_pickT rfl PK_ rfl) rfl ?_
  refine s_val (v_assignC rfl) rfl ?_
  refine s_nil ?_
  refine S_ ?_
  exact k_1 (by first | exact r_tmpC rfl | exact r_tmpA rfl) (by first | kernel_rfl | rfl)


set_option maxRecDepth 100000 in
set_option maxHeartbeats 2000000 in
theorem curveTurnedN_ev (n : List (BitVec 8)) (hn : n.length = 32) (hz : oB n ≠ ozero) : Ev Try.prog (.call 6 [.agg (.a8 (n))] []) (.val (.c (.val (.bool (true)))) []) := by
  refine c_call Try.func6 rfl Try.ntmps6 rfl LEN_ ?_
  refine S_ ?_
  refine c_region ?_
  refine s_memN (m_box BX_ LEN_) APP_ rfl ?_
  refine s_val (v_assignC rfl) rfl ?_
  refine s_nil ?_
  have hQ1 : (enc (oB n)).length = 32 := LQ_
  refine S_ ?_
  refine c_region ?_
  refine s_val (v_loadR rfl rfl row_22 sz_22 EQ_ (by decide)) rfl ?_
  refine s_evN (e_callR (bs := []) (bsE_ev n HYP_) ok_12 (by kernel_rfl) (by kernel_rfl) rfl VAL_) APP_ rfl ?_
  refine s_memN (m_alloc al_22 LEN_) APP_ rfl ?_
  refine s_storeR rfl rfl rfl rfl sz_22 EQ_ EQ_ SET_ ?_
  refine s_nil ?_
  refine S_ ?_
  refine c_region ?_
  refine s_val (v_loadR rfl rfl row_22 sz_22 EQ_ (by decide)) rfl ?_
  refine s_memN (m_alloc al_22 LEN_) APP_ rfl ?_
  refine s_storeR rfl rfl rfl rfl sz_22 EQ_ EQ_ SET_ ?_
  refine s_nil ?_
  refine S_ ?_
  refine c_region ?_
  refine s_val (v_idxA1 (j := 31) rfl rfl Try.underlying22 sz_5 (by omega)) rfl ?_
  refine s_val (v_load8 rfl rfl row_5 LT_) rfl ?_
  refine s_val (v_xor8 (b := 128#8) rfl rfl) rfl ?_
  refine s_val (v_idxA1 (j := 31) rfl rfl Try.underlying22 sz_5 (by omega)) rfl ?_
  refine s_store8 rfl rfl rfl sz_5 LT_ SET_ ?_
  refine s_nil ?_
  have hQ3 : (fSmall 1#64).length = 32 := LQ_
  have hE2 : (decide (enc (oB n) = fSmall 1#64)) = false := decide_eq_false (fun h => hz (by rw [← enc_zero] at h; exact enc_eq.1 h))
  refine S_ ?_
  refine c_draw 3 mixed (by kernel_rfl) rfl rfl rfl ?_
  refine h_val (v_loadR rfl rfl row_22 sz_22 EQ_ (by decide)) rfl ?_
  refine h_evN (e_callR (bs := []) (fSmall_ev 1#64) ok_15 (by kernel_rfl) (by kernel_rfl) rfl VAL_) APP_ rfl ?_
  refine h_val (v_bool (v_eqlR8 rfl rfl Try.underlying22 Try.underlying5 sz_5 EQ_ EQ_) hE2) rfl ?_
  refine h_nil ?_
  refine s_nil ?_
  have hQ4 : (enc (oadd (oB n) (oneg (oB n)))).length = 32 := LQ_
  refine S_ ?_
  refine c_region ?_
  refine s_val (v_loadR rfl rfl row_22 sz_22 EQ_ (by decide)) rfl ?_
  refine s_val (v_loadR rfl rfl row_22 sz_22 EQ_ (by decide)) rfl ?_
  refine s_evN (e_callR (bs := []) (addT_ev n hz) ok_13 (by kernel_rfl) (by kernel_rfl) rfl VAL_) APP_ rfl ?_
  refine s_val (v_moveT rfl) rfl ?_
  refine s_val (v_extract rfl rfl) rfl ?_
  refine s_val (v_extract rfl rfl) rfl ?_
  refine s_memN (m_alloc al_22 LEN_) APP_ rfl ?_
  refine s_storeR rfl rfl rfl rfl sz_22 EQ_ EQ_ SET_ ?_
  refine s_val (v_assignC rfl) rfl ?_
  refine s_nil ?_
  have hQ6 : (fSmall 1#64).length = 32 := LQ_
  have hE5 : (!decide (enc (oadd (oB n) (oneg (oB n))) = fSmall 1#64)) = false := by rw [oadd_neg, enc_zero, decide_eq_true rfl]; rfl
  refine S_ ?_
  refine c_draw 7 mixed (by kernel_rfl) rfl rfl rfl ?_
  refine h_val (v_moveC rfl) rfl ?_
  refine h_val (v_neqN (a := 0) (b := 0) rfl rfl) rfl ?_
  refine h_val (v_moveC rfl) rfl ?_
  refine h_go GO_ ?_
  refine h_val (v_loadR rfl rfl row_22 sz_22 EQ_ (by decide)) rfl ?_
  refine h_go GO_ ?_
  refine h_evN (e_callR (bs := []) (fSmall_ev 1#64) ok_15 (by kernel_rfl) (by kernel_rfl) rfl VAL_) APP_ rfl ?_
  refine h_go GO_ ?_
  refine h_val (v_bool (v_neqR8 rfl rfl Try.underlying22 Try.underlying5 sz_5 EQ_ EQ_) hE5) rfl ?_
  refine h_val (v_pickF rfl PK_ rfl) rfl ?_
  refine h_nil ?_
  refine s_nil ?_
  have hQ7 : (rfL).length = 4 := LQ_
  refine S_ ?_
  refine c_region ?_
  refine s_evN (e_callR (bs := []) (rfL_ev) ok_24 (by kernel_rfl) (by kernel_rfl) rfl VAL_) APP_ rfl ?_
  refine s_memN (m_alloc al_38 LEN_) APP_ rfl ?_
  refine s_storeR rfl rfl rfl rfl sz_38 EQ_ EQ_ SET_ ?_
  refine s_nil ?_
  refine S_ ?_
  refine c_region ?_
  refine s_val (v_idxA1 (j := 0) rfl rfl Try.underlying38 sz_29 (by omega)) rfl ?_
  refine s_val (v_load64 rfl rfl row_29 LT_) rfl ?_
  refine s_val (v_sub64 (b := 1#64) rfl rfl) rfl ?_
  refine s_val (v_idxA1 (j := 0) rfl rfl Try.underlying38 sz_29 (by omega)) rfl ?_
  refine s_store64 rfl rfl rfl sz_29 LT_ SET_ ?_
  refine s_nil ?_
  have hQ8 : (rB (put rfL 0 ((nth rfL 0) - 1#64))).length = 32 := LQ_
  have hQ9 : (enc (oT (rB (put rfL 0 ((nth rfL 0) - 1#64))) (oB n))).length = 32 := LQ_
  refine S_ ?_
  refine c_late 8 6 mixed (by kernel_rfl) (by kernel_rfl) rfl rfl rfl ?_
  refine h_val (v_loadR rfl rfl row_38 sz_38 EQ_ (by decide)) rfl ?_
  refine h_evN (e_callR (bs := []) (rB_ev (put rfL 0 ((nth rfL 0) - 1#64)) HYP_) ok_25 (by kernel_rfl) (by kernel_rfl) rfl VAL_) APP_ rfl ?_
  refine h_val (v_loadR rfl rfl row_22 sz_22 EQ_ (by decide)) rfl ?_
  refine h_evN (e_callR (bs := []) (tmsE_ev (rB (put rfL 0 ((nth rfL 0) - 1#64))) (oB n) HYP_) ok_17 (by kernel_rfl) (by kernel_rfl) rfl VAL_) APP_ rfl ?_
  refine h_val (v_moveT rfl) rfl ?_
  refine h_val (v_extract rfl rfl) rfl ?_
  refine h_val (v_extract rfl rfl) rfl ?_
  refine h_memN (m_alloc al_22 LEN_) APP_ rfl ?_
  refine h_nil ?_
  refine s_storeR rfl rfl rfl rfl sz_22 EQ_ EQ_ SET_ ?_
  refine s_val (v_assignC rfl) rfl ?_
  refine s_nil ?_
  have hE10 : (decide (enc (oT (rB (put rfL 0 ((nth rfL 0) - 1#64))) (oB n)) = put (enc (oB n)) 31 ((nth (enc (oB n)) 31) ^^^ 128#8))) = true := decide_eq_true (by rw [turned_mul, turned_oB n hz])
  refine S_ ?_
  refine c_region ?_
  refine s_val (v_moveC rfl) rfl ?_
  refine s_val (v_eqlN (a := 0) (b := 0) rfl rfl) rfl ?_
  refine s_val (v_moveC rfl) rfl ?_
  refine s_go GO_ ?_
  refine s_val (v_loadR rfl rfl row_22 sz_22 EQ_ (by decide)) rfl ?_
  refine s_go GO_ ?_
  refine s_val (v_loadR rfl rfl row_22 sz_22 EQ_ (by decide)) rfl ?_
  refine s_go GO_ ?_
  refine s_val (v_bool (v_eqlR8 rfl rfl Try.underlying22 Try.underlying5 sz_5 EQ_ EQ_) hE10) rfl ?_
  refine s_val (v_pickT rfl PK_ rfl) rfl ?_
  refine s_val (v_moveC rfl) rfl ?_
  refine s_go GO_ ?_
  refine s_evN (e_callR (wakes_ev) ok_16 rfl rfl rfl VAL_) APP_ rfl ?_
  refine s_val (v_pickT rfl PK_ rfl) rfl ?_
  refine s_val (v_assignC rfl) rfl ?_
  refine s_nil ?_
  refine S_ ?_
  exact k_1 (by first | exact r_tmpC rfl | exact r_tmpA rfl) (by first | kernel_rfl | rfl)
theorem curveTurned_ev (n : List (BitVec 8)) (hn : n.length = 32) : Ev Try.prog (.call 6 [.agg (.a8 (n))] []) (.val (.c (.val (.bool (true)))) []) := by
  by_cases h : oB n = ozero
  · exact curveTurnedZ_ev n hn h
  · exact curveTurnedN_ev n hn h
end Go.Proofs.Ytcekjmejppemeaa
/- Whether bytes are a point, by field's functions. (Drawn up by a program.) -/
namespace Go.Proofs.Ytcekjmejppemeaa
open Go.RowKit
/-- y, without the sign; x x. -/
def eqY (b : List (BitVec 8)) : List (BitVec 8) := put b 31 ((nth b 31) &&& 127#8)
theorem eqY_Z {b : List (BitVec 8)} (hb : b.length = 32) : Z (eqY b) = zf (lowN b) := by
  unfold Z eqY lowN
  rw [top_and hb]
theorem eqC {b : List (BitVec 8)} (hb : b.length = 32) {r : Bool} (h : unC b = r) : decide (fMod (eqY b) = eqY b) = r := by
  rw [← h, unCd hb]
  unfold fMod
  rw [eqY_Z hb]
  unfold eqY
  rw [put_low hb]
  exact decide_eq_decide.2 (F_low (lowN_lt b))
def eqX (b : List (BitVec 8)) : List (BitVec 8) := fMul (fSub (fMul (eqY b) (eqY b)) (fSmall 1#64)) (fInv (fAdd (fMul (fMul (fSub (fSmall 0#64) (fSmall 121665#64)) (fInv (fSmall 121666#64))) (fMul (eqY b) (eqY b))) (fSmall 1#64)))
theorem d_quot : ((0 : Fp) - zf (121665#64 : BitVec 64).toNat) * invF (zf (121666#64 : BitVec 64).toNat) = dF := by
  have h1 : zf (121665#64 : BitVec 64).toNat = zf 121665 := rfl
  have h2 : zf (121666#64 : BitVec 64).toNat = zf 121666 := rfl
  have h3 := inv_mulF (u := zf 121666) (by decide +kernel)
  have h4 := dF_eq
  rw [h1, h2]
  generalize zf 121665 = x at *
  generalize zf 121666 = y at *
  generalize invF y = i at *
  generalize dF = d at *
  clear h1 h2
  grobner
theorem eqX_Z {b : List (BitVec 8)} (hb : b.length = 32) : Z (eqX b) = xxOf (zf (lowN b)) := by
  unfold eqX fMul fSub fInv fAdd fSmall
  simp only [Z_F]
  rw [zs0, d_quot, eqY_Z hb, zs1]
  rfl
theorem eqR {b : List (BitVec 8)} (hb : b.length = 32) {r : Bool} (h : unIs b = r) : fRootIs (eqX b) = r := by
  rw [← h, unIs_eq hb]
  unfold fRootIs
  rw [eqX_Z hb]
theorem evenZ {u : Fp} (e : (0 : Fp) = -u) : u = 0 := by grobner
theorem eqZ {b : List (BitVec 8)} (hb : b.length = 32) (h1 : unIs b = true) {r : Bool} (h : unZ b = r) : decide (fRoot (eqX b) = fSmall 0#64) = r := by
  rw [← h, unZ_eq hb]
  rw [unIs_eq hb] at h1
  unfold fRoot fSmall
  rw [eqX_Z hb, if_pos (of_decide_eq_true h1)]
  refine decide_eq_decide.2 ?_
  rw [F_inj, zs0]
  refine ⟨fun e => ?_, fun e => ?_⟩
  · rcases evenF_or (rootF (xxOf (zf (lowN b)))) with g | g
    · rw [← g, e]
    · rw [e] at g
      exact evenZ g
  · rw [e]
    decide +kernel
theorem eqO (b : List (BitVec 8)) {r : Bool} (h : unO b = r) : decide ((128#8).toNat ≤ (nth b 31).toNat) = r := by
  rw [← h]
  unfold unO
  rw [shr7]
  rfl
end Go.Proofs.Ytcekjmejppemeaa
/- trystlaw08.CurveEquation (Drawn up by a program.) -/
namespace Go.Proofs.Ytcekjmejppemeaa
open Go.RowKit

set_option maxRecDepth 100000 in
set_option maxHeartbeats 2000000 in
theorem cvEqA_ev (b : List (BitVec 8)) (hb : b.length = 32) (hC : unC b = false) : Ev Try.prog (.call 5 [.agg (.a8 (b))] []) (.val (.c (.val (.bool (true)))) []) := by
  refine c_call Try.func5 rfl Try.ntmps5 rfl LEN_ ?_
  refine S_ ?_
  refine c_region ?_
  refine s_memN (m_box BX_ LEN_) APP_ rfl ?_
  refine s_val (v_assignC rfl) rfl ?_
  refine s_nil ?_
  refine S_ ?_
  refine c_region ?_
  refine s_val (v_idxA1 (j := 31) rfl rfl Try.underlying22 sz_5 (by omega)) rfl ?_
  refine s_val (v_load8 rfl rfl row_5 LT_) rfl ?_
  refine s_val (v_geq8 (b := 128#8) rfl rfl) rfl ?_
  refine s_val (v_assignC rfl) rfl ?_
  refine s_nil ?_
  refine S_ ?_
  refine c_region ?_
  refine s_val (v_loadR rfl rfl row_22 sz_22 EQ_ (by decide)) rfl ?_
  refine s_memN (m_alloc al_22 LEN_) APP_ rfl ?_
  refine s_storeR rfl rfl rfl rfl sz_22 EQ_ EQ_ SET_ ?_
  refine s_nil ?_
  refine S_ ?_
  refine c_region ?_
  refine s_val (v_idxA1 (j := 31) rfl rfl Try.underlying22 sz_5 (by omega)) rfl ?_
  refine s_val (v_load8 rfl rfl row_5 LT_) rfl ?_
  refine s_val (v_and8 (b := 127#8) rfl rfl) rfl ?_
  refine s_val (v_idxA1 (j := 31) rfl rfl Try.underlying22 sz_5 (by omega)) rfl ?_
  refine s_store8 rfl rfl rfl sz_5 LT_ SET_ ?_
  refine s_nil ?_
  have hQ2 : (fMod (put b 31 ((nth b 31) &&& 127#8))).length = 32 := LQ_
  have hE1 : (decide (fMod (put b 31 ((nth b 31) &&& 127#8)) = put b 31 ((nth b 31) &&& 127#8))) = false := eqC hb hC
  refine S_ ?_
  refine c_draw 5 mixed (by kernel_rfl) rfl rfl rfl ?_
  refine h_val (v_loadR rfl rfl row_22 sz_22 EQ_ (by decide)) rfl ?_
  refine h_evN (e_callR (bs := []) (fMod_ev (put b 31 ((nth b 31) &&& 127#8)) HYP_) ok_18 (by kernel_rfl) (by kernel_rfl) rfl VAL_) APP_ rfl ?_
  refine h_val (v_loadR rfl rfl row_22 sz_22 EQ_ (by decide)) rfl ?_
  refine h_val (v_bool (v_eqlR8 rfl rfl Try.underlying22 Try.underlying5 sz_5 EQ_ EQ_) hE1) rfl ?_
  refine h_val (v_assignC rfl) rfl ?_
  refine h_nil ?_
  refine s_nil ?_
  have hQ3 : (fMul (put b 31 ((nth b 31) &&& 127#8)) (put b 31 ((nth b 31) &&& 127#8))).length = 32 := LQ_
  refine S_ ?_
  refine c_region ?_
  refine s_val (v_loadR rfl rfl row_22 sz_22 EQ_ (by decide)) rfl ?_
  refine s_val (v_loadR rfl rfl row_22 sz_22 EQ_ (by decide)) rfl ?_
  refine s_evN (e_callR (bs := []) (fMul_ev (put b 31 ((nth b 31) &&& 127#8)) (put b 31 ((nth b 31) &&& 127#8)) HYP_ HYP_) ok_19 (by kernel_rfl) (by kernel_rfl) rfl VAL_) APP_ rfl ?_
  refine s_memN (m_alloc al_22 LEN_) APP_ rfl ?_
  refine s_storeR rfl rfl rfl rfl sz_22 EQ_ EQ_ SET_ ?_
  refine s_nil ?_
  have hQ4 : (fSmall 0#64).length = 32 := LQ_
  have hQ5 : (fSmall 121665#64).length = 32 := LQ_
  have hQ6 : (fSub (fSmall 0#64) (fSmall 121665#64)).length = 32 := LQ_
  have hQ7 : (fSmall 121666#64).length = 32 := LQ_
  have hQ8 : (fInv (fSmall 121666#64)).length = 32 := LQ_
  have hQ9 : (fMul (fSub (fSmall 0#64) (fSmall 121665#64)) (fInv (fSmall 121666#64))).length = 32 := LQ_
  refine S_ ?_
  refine c_region ?_
  refine s_evN (e_callR (bs := []) (fSmall_ev 0#64) ok_15 (by kernel_rfl) (by kernel_rfl) rfl VAL_) APP_ rfl ?_
  refine s_evN (e_callR (bs := []) (fSmall_ev 121665#64) ok_15 (by kernel_rfl) (by kernel_rfl) rfl VAL_) APP_ rfl ?_
  refine s_evN (e_callR (bs := []) (fSub_ev (fSmall 0#64) (fSmall 121665#64) HYP_ HYP_) ok_20 (by kernel_rfl) (by kernel_rfl) rfl VAL_) APP_ rfl ?_
  refine s_evN (e_callR (bs := []) (fSmall_ev 121666#64) ok_15 (by kernel_rfl) (by kernel_rfl) rfl VAL_) APP_ rfl ?_
  refine s_evN (e_callR (bs := []) (fInv_ev (fSmall 121666#64) HYP_) ok_21 (by kernel_rfl) (by kernel_rfl) rfl VAL_) APP_ rfl ?_
  refine s_evN (e_callR (bs := []) (fMul_ev (fSub (fSmall 0#64) (fSmall 121665#64)) (fInv (fSmall 121666#64)) HYP_ HYP_) ok_19 (by kernel_rfl) (by kernel_rfl) rfl VAL_) APP_ rfl ?_
  refine s_memN (m_alloc al_22 LEN_) APP_ rfl ?_
  refine s_storeR rfl rfl rfl rfl sz_22 EQ_ EQ_ SET_ ?_
  refine s_nil ?_
  have hQ10 : (fSmall 1#64).length = 32 := LQ_
  have hQ11 : (fSub (fMul (put b 31 ((nth b 31) &&& 127#8)) (put b 31 ((nth b 31) &&& 127#8))) (fSmall 1#64)).length = 32 := LQ_
  have hQ12 : (fMul (fMul (fSub (fSmall 0#64) (fSmall 121665#64)) (fInv (fSmall 121666#64))) (fMul (put b 31 ((nth b 31) &&& 127#8)) (put b 31 ((nth b 31) &&& 127#8)))).length = 32 := LQ_
  have hQ13 : (fAdd (fMul (fMul (fSub (fSmall 0#64) (fSmall 121665#64)) (fInv (fSmall 121666#64))) (fMul (put b 31 ((nth b 31) &&& 127#8)) (put b 31 ((nth b 31) &&& 127#8)))) (fSmall 1#64)).length = 32 := LQ_
  have hQ14 : (fInv (fAdd (fMul (fMul (fSub (fSmall 0#64) (fSmall 121665#64)) (fInv (fSmall 121666#64))) (fMul (put b 31 ((nth b 31) &&& 127#8)) (put b 31 ((nth b 31) &&& 127#8)))) (fSmall 1#64))).length = 32 := LQ_
  have hQ15 : (fMul (fSub (fMul (put b 31 ((nth b 31) &&& 127#8)) (put b 31 ((nth b 31) &&& 127#8))) (fSmall 1#64)) (fInv (fAdd (fMul (fMul (fSub (fSmall 0#64) (fSmall 121665#64)) (fInv (fSmall 121666#64))) (fMul (put b 31 ((nth b 31) &&& 127#8)) (put b 31 ((nth b 31) &&& 127#8)))) (fSmall 1#64)))).length = 32 := LQ_
  refine S_ ?_
  refine c_draw 11 mixed (by kernel_rfl) rfl rfl rfl ?_
  refine h_val (v_loadR rfl rfl row_22 sz_22 EQ_ (by decide)) rfl ?_
  refine h_evN (e_callR (bs := []) (fSmall_ev 1#64) ok_15 (by kernel_rfl) (by kernel_rfl) rfl VAL_) APP_ rfl ?_
  refine h_evN (e_callR (bs := []) (fSub_ev (fMul (put b 31 ((nth b 31) &&& 127#8)) (put b 31 ((nth b 31) &&& 127#8))) (fSmall 1#64) HYP_ HYP_) ok_20 (by kernel_rfl) (by kernel_rfl) rfl VAL_) APP_ rfl ?_
  refine h_val (v_loadR rfl rfl row_22 sz_22 EQ_ (by decide)) rfl ?_
  refine h_val (v_loadR rfl rfl row_22 sz_22 EQ_ (by decide)) rfl ?_
  refine h_evN (e_callR (bs := []) (fMul_ev (fMul (fSub (fSmall 0#64) (fSmall 121665#64)) (fInv (fSmall 121666#64))) (fMul (put b 31 ((nth b 31) &&& 127#8)) (put b 31 ((nth b 31) &&& 127#8))) HYP_ HYP_) ok_19 (by kernel_rfl) (by kernel_rfl) rfl VAL_) APP_ rfl ?_
  refine h_evN (e_callR (bs := []) (fSmall_ev 1#64) ok_15 (by kernel_rfl) (by kernel_rfl) rfl VAL_) APP_ rfl ?_
  refine h_evN (e_callR (bs := []) (fAdd_ev (fMul (fMul (fSub (fSmall 0#64) (fSmall 121665#64)) (fInv (fSmall 121666#64))) (fMul (put b 31 ((nth b 31) &&& 127#8)) (put b 31 ((nth b 31) &&& 127#8)))) (fSmall 1#64) HYP_ HYP_) ok_22 (by kernel_rfl) (by kernel_rfl) rfl VAL_) APP_ rfl ?_
  refine h_evN (e_callR (bs := []) (fInv_ev (fAdd (fMul (fMul (fSub (fSmall 0#64) (fSmall 121665#64)) (fInv (fSmall 121666#64))) (fMul (put b 31 ((nth b 31) &&& 127#8)) (put b 31 ((nth b 31) &&& 127#8)))) (fSmall 1#64)) HYP_) ok_21 (by kernel_rfl) (by kernel_rfl) rfl VAL_) APP_ rfl ?_
  refine h_evN (e_callR (bs := []) (fMul_ev (fSub (fMul (put b 31 ((nth b 31) &&& 127#8)) (put b 31 ((nth b 31) &&& 127#8))) (fSmall 1#64)) (fInv (fAdd (fMul (fMul (fSub (fSmall 0#64) (fSmall 121665#64)) (fInv (fSmall 121666#64))) (fMul (put b 31 ((nth b 31) &&& 127#8)) (put b 31 ((nth b 31) &&& 127#8)))) (fSmall 1#64))) HYP_ HYP_) ok_19 (by kernel_rfl) (by kernel_rfl) rfl VAL_) APP_ rfl ?_
  refine h_memN (m_alloc al_22 LEN_) APP_ rfl ?_
  refine h_nil ?_
  refine s_storeR rfl rfl rfl rfl sz_22 EQ_ EQ_ SET_ ?_
  refine s_nil ?_
  have hQ16 : (fRoot (fMul (fSub (fMul (put b 31 ((nth b 31) &&& 127#8)) (put b 31 ((nth b 31) &&& 127#8))) (fSmall 1#64)) (fInv (fAdd (fMul (fMul (fSub (fSmall 0#64) (fSmall 121665#64)) (fInv (fSmall 121666#64))) (fMul (put b 31 ((nth b 31) &&& 127#8)) (put b 31 ((nth b 31) &&& 127#8)))) (fSmall 1#64))))).length = 32 := LQ_
  refine S_ ?_
  refine c_region ?_
  refine s_val (v_loadR rfl rfl row_22 sz_22 EQ_ (by decide)) rfl ?_
  refine s_evN (e_callR (bs := []) (fRoot_ev (fMul (fSub (fMul (put b 31 ((nth b 31) &&& 127#8)) (put b 31 ((nth b 31) &&& 127#8))) (fSmall 1#64)) (fInv (fAdd (fMul (fMul (fSub (fSmall 0#64) (fSmall 121665#64)) (fInv (fSmall 121666#64))) (fMul (put b 31 ((nth b 31) &&& 127#8)) (put b 31 ((nth b 31) &&& 127#8)))) (fSmall 1#64)))) HYP_) ok_23 (by kernel_rfl) (by kernel_rfl) rfl VAL_) APP_ rfl ?_
  refine s_val (v_moveT rfl) rfl ?_
  refine s_val (v_extract rfl rfl) rfl ?_
  refine s_val (v_extract rfl rfl) rfl ?_
  refine s_memN (m_alloc al_22 LEN_) APP_ rfl ?_
  refine s_storeR rfl rfl rfl rfl sz_22 EQ_ EQ_ SET_ ?_
  refine s_val (v_assignC rfl) rfl ?_
  refine s_nil ?_
  refine S_ ?_
  refine c_draw 14 mixed (by kernel_rfl) rfl rfl rfl ?_
  refine h_val (v_moveC rfl) rfl ?_
  refine h_val (v_moveC rfl) rfl ?_
  refine h_no GO_ ?_
  refine h_val (v_pickF rfl PK_ rfl) rfl ?_
  refine h_val (v_moveC rfl) rfl ?_
  refine h_no GO_ ?_
  refine h_no GO_ ?_
  refine h_no GO_ ?_
  refine h_no GO_ ?_
  refine h_no GO_ ?_
  refine h_no GO_ ?_
  refine h_no GO_ ?_
  refine h_val (v_pickF rfl PK_ rfl) rfl ?_
  refine h_val (v_assignC rfl) rfl ?_
  refine h_nil ?_
  refine s_nil ?_
  refine S_ ?_
  refine c_region ?_
  refine s_val (v_loadR rfl rfl row_22 sz_22 EQ_ (by decide)) rfl ?_
  refine s_evN (e_callR (bs := []) (cvCheckF_ev b hb (by unfold unOk; rw [hC]; rfl)) ok_14 (by kernel_rfl) (by kernel_rfl) rfl VAL_) APP_ rfl ?_
  refine s_val (v_eqlN (a := 4) (b := 0) rfl rfl) rfl ?_
  refine s_val (v_moveC rfl) rfl ?_
  refine s_val (v_eqlB rfl rfl Try.underlying4) rfl ?_
  refine s_val (v_moveC rfl) rfl ?_
  refine s_go GO_ ?_
  refine s_evN (e_callR (wakes_ev) ok_16 rfl rfl rfl VAL_) APP_ rfl ?_
  refine s_val (v_pickT rfl PK_ rfl) rfl ?_
  refine s_val (v_assignC rfl) rfl ?_
  refine s_nil ?_
  refine S_ ?_
  exact k_1 (by first | exact r_tmpC rfl | exact r_tmpA rfl) (by first | kernel_rfl | rfl)
end Go.Proofs.Ytcekjmejppemeaa
/- trystlaw08.CurveEquation (Drawn up by a program.) -/
namespace Go.Proofs.Ytcekjmejppemeaa
open Go.RowKit

set_option maxRecDepth 100000 in
set_option maxHeartbeats 2000000 in
theorem cvEqB_ev (b : List (BitVec 8)) (hb : b.length = 32) (hC : unC b = true) (hR : unIs b = false) : Ev Try.prog (.call 5 [.agg (.a8 (b))] []) (.val (.c (.val (.bool (true)))) []) := by
  refine c_call Try.func5 rfl Try.ntmps5 rfl LEN_ ?_
  refine S_ ?_
  refine c_region ?_
  refine s_memN (m_box BX_ LEN_) APP_ rfl ?_
  refine s_val (v_assignC rfl) rfl ?_
  refine s_nil ?_
  refine S_ ?_
  refine c_region ?_
  refine s_val (v_idxA1 (j := 31) rfl rfl Try.underlying22 sz_5 (by omega)) rfl ?_
  refine s_val (v_load8 rfl rfl row_5 LT_) rfl ?_
  refine s_val (v_geq8 (b := 128#8) rfl rfl) rfl ?_
  refine s_val (v_assignC rfl) rfl ?_
  refine s_nil ?_
  refine S_ ?_
  refine c_region ?_
  refine s_val (v_loadR rfl rfl row_22 sz_22 EQ_ (by decide)) rfl ?_
  refine s_memN (m_alloc al_22 LEN_) APP_ rfl ?_
  refine s_storeR rfl rfl rfl rfl sz_22 EQ_ EQ_ SET_ ?_
  refine s_nil ?_
  refine S_ ?_
  refine c_region ?_
  refine s_val (v_idxA1 (j := 31) rfl rfl Try.underlying22 sz_5 (by omega)) rfl ?_
  refine s_val (v_load8 rfl rfl row_5 LT_) rfl ?_
  refine s_val (v_and8 (b := 127#8) rfl rfl) rfl ?_
  refine s_val (v_idxA1 (j := 31) rfl rfl Try.underlying22 sz_5 (by omega)) rfl ?_
  refine s_store8 rfl rfl rfl sz_5 LT_ SET_ ?_
  refine s_nil ?_
  have hQ2 : (fMod (put b 31 ((nth b 31) &&& 127#8))).length = 32 := LQ_
  have hE1 : (decide (fMod (put b 31 ((nth b 31) &&& 127#8)) = put b 31 ((nth b 31) &&& 127#8))) = true := eqC hb hC
  refine S_ ?_
  refine c_draw 5 mixed (by kernel_rfl) rfl rfl rfl ?_
  refine h_val (v_loadR rfl rfl row_22 sz_22 EQ_ (by decide)) rfl ?_
  refine h_evN (e_callR (bs := []) (fMod_ev (put b 31 ((nth b 31) &&& 127#8)) HYP_) ok_18 (by kernel_rfl) (by kernel_rfl) rfl VAL_) APP_ rfl ?_
  refine h_val (v_loadR rfl rfl row_22 sz_22 EQ_ (by decide)) rfl ?_
  refine h_val (v_bool (v_eqlR8 rfl rfl Try.underlying22 Try.underlying5 sz_5 EQ_ EQ_) hE1) rfl ?_
  refine h_val (v_assignC rfl) rfl ?_
  refine h_nil ?_
  refine s_nil ?_
  have hQ3 : (fMul (put b 31 ((nth b 31) &&& 127#8)) (put b 31 ((nth b 31) &&& 127#8))).length = 32 := LQ_
  refine S_ ?_
  refine c_region ?_
  refine s_val (v_loadR rfl rfl row_22 sz_22 EQ_ (by decide)) rfl ?_
  refine s_val (v_loadR rfl rfl row_22 sz_22 EQ_ (by decide)) rfl ?_
  refine s_evN (e_callR (bs := []) (fMul_ev (put b 31 ((nth b 31) &&& 127#8)) (put b 31 ((nth b 31) &&& 127#8)) HYP_ HYP_) ok_19 (by kernel_rfl) (by kernel_rfl) rfl VAL_) APP_ rfl ?_
  refine s_memN (m_alloc al_22 LEN_) APP_ rfl ?_
  refine s_storeR rfl rfl rfl rfl sz_22 EQ_ EQ_ SET_ ?_
  refine s_nil ?_
  have hQ4 : (fSmall 0#64).length = 32 := LQ_
  have hQ5 : (fSmall 121665#64).length = 32 := LQ_
  have hQ6 : (fSub (fSmall 0#64) (fSmall 121665#64)).length = 32 := LQ_
  have hQ7 : (fSmall 121666#64).length = 32 := LQ_
  have hQ8 : (fInv (fSmall 121666#64)).length = 32 := LQ_
  have hQ9 : (fMul (fSub (fSmall 0#64) (fSmall 121665#64)) (fInv (fSmall 121666#64))).length = 32 := LQ_
  refine S_ ?_
  refine c_region ?_
  refine s_evN (e_callR (bs := []) (fSmall_ev 0#64) ok_15 (by kernel_rfl) (by kernel_rfl) rfl VAL_) APP_ rfl ?_
  refine s_evN (e_callR (bs := []) (fSmall_ev 121665#64) ok_15 (by kernel_rfl) (by kernel_rfl) rfl VAL_) APP_ rfl ?_
  refine s_evN (e_callR (bs := []) (fSub_ev (fSmall 0#64) (fSmall 121665#64) HYP_ HYP_) ok_20 (by kernel_rfl) (by kernel_rfl) rfl VAL_) APP_ rfl ?_
  refine s_evN (e_callR (bs := []) (fSmall_ev 121666#64) ok_15 (by kernel_rfl) (by kernel_rfl) rfl VAL_) APP_ rfl ?_
  refine s_evN (e_callR (bs := []) (fInv_ev (fSmall 121666#64) HYP_) ok_21 (by kernel_rfl) (by kernel_rfl) rfl VAL_) APP_ rfl ?_
  refine s_evN (e_callR (bs := []) (fMul_ev (fSub (fSmall 0#64) (fSmall 121665#64)) (fInv (fSmall 121666#64)) HYP_ HYP_) ok_19 (by kernel_rfl) (by kernel_rfl) rfl VAL_) APP_ rfl ?_
  refine s_memN (m_alloc al_22 LEN_) APP_ rfl ?_
  refine s_storeR rfl rfl rfl rfl sz_22 EQ_ EQ_ SET_ ?_
  refine s_nil ?_
  have hQ10 : (fSmall 1#64).length = 32 := LQ_
  have hQ11 : (fSub (fMul (put b 31 ((nth b 31) &&& 127#8)) (put b 31 ((nth b 31) &&& 127#8))) (fSmall 1#64)).length = 32 := LQ_
  have hQ12 : (fMul (fMul (fSub (fSmall 0#64) (fSmall 121665#64)) (fInv (fSmall 121666#64))) (fMul (put b 31 ((nth b 31) &&& 127#8)) (put b 31 ((nth b 31) &&& 127#8)))).length = 32 := LQ_
  have hQ13 : (fAdd (fMul (fMul (fSub (fSmall 0#64) (fSmall 121665#64)) (fInv (fSmall 121666#64))) (fMul (put b 31 ((nth b 31) &&& 127#8)) (put b 31 ((nth b 31) &&& 127#8)))) (fSmall 1#64)).length = 32 := LQ_
  have hQ14 : (fInv (fAdd (fMul (fMul (fSub (fSmall 0#64) (fSmall 121665#64)) (fInv (fSmall 121666#64))) (fMul (put b 31 ((nth b 31) &&& 127#8)) (put b 31 ((nth b 31) &&& 127#8)))) (fSmall 1#64))).length = 32 := LQ_
  have hQ15 : (fMul (fSub (fMul (put b 31 ((nth b 31) &&& 127#8)) (put b 31 ((nth b 31) &&& 127#8))) (fSmall 1#64)) (fInv (fAdd (fMul (fMul (fSub (fSmall 0#64) (fSmall 121665#64)) (fInv (fSmall 121666#64))) (fMul (put b 31 ((nth b 31) &&& 127#8)) (put b 31 ((nth b 31) &&& 127#8)))) (fSmall 1#64)))).length = 32 := LQ_
  refine S_ ?_
  refine c_draw 11 mixed (by kernel_rfl) rfl rfl rfl ?_
  refine h_val (v_loadR rfl rfl row_22 sz_22 EQ_ (by decide)) rfl ?_
  refine h_evN (e_callR (bs := []) (fSmall_ev 1#64) ok_15 (by kernel_rfl) (by kernel_rfl) rfl VAL_) APP_ rfl ?_
  refine h_evN (e_callR (bs := []) (fSub_ev (fMul (put b 31 ((nth b 31) &&& 127#8)) (put b 31 ((nth b 31) &&& 127#8))) (fSmall 1#64) HYP_ HYP_) ok_20 (by kernel_rfl) (by kernel_rfl) rfl VAL_) APP_ rfl ?_
  refine h_val (v_loadR rfl rfl row_22 sz_22 EQ_ (by decide)) rfl ?_
  refine h_val (v_loadR rfl rfl row_22 sz_22 EQ_ (by decide)) rfl ?_
  refine h_evN (e_callR (bs := []) (fMul_ev (fMul (fSub (fSmall 0#64) (fSmall 121665#64)) (fInv (fSmall 121666#64))) (fMul (put b 31 ((nth b 31) &&& 127#8)) (put b 31 ((nth b 31) &&& 127#8))) HYP_ HYP_) ok_19 (by kernel_rfl) (by kernel_rfl) rfl VAL_) APP_ rfl ?_
  refine h_evN (e_callR (bs := []) (fSmall_ev 1#64) ok_15 (by kernel_rfl) (by kernel_rfl) rfl VAL_) APP_ rfl ?_
  refine h_evN (e_callR (bs := []) (fAdd_ev (fMul (fMul (fSub (fSmall 0#64) (fSmall 121665#64)) (fInv (fSmall 121666#64))) (fMul (put b 31 ((nth b 31) &&& 127#8)) (put b 31 ((nth b 31) &&& 127#8)))) (fSmall 1#64) HYP_ HYP_) ok_22 (by kernel_rfl) (by kernel_rfl) rfl VAL_) APP_ rfl ?_
  refine h_evN (e_callR (bs := []) (fInv_ev (fAdd (fMul (fMul (fSub (fSmall 0#64) (fSmall 121665#64)) (fInv (fSmall 121666#64))) (fMul (put b 31 ((nth b 31) &&& 127#8)) (put b 31 ((nth b 31) &&& 127#8)))) (fSmall 1#64)) HYP_) ok_21 (by kernel_rfl) (by kernel_rfl) rfl VAL_) APP_ rfl ?_
  refine h_evN (e_callR (bs := []) (fMul_ev (fSub (fMul (put b 31 ((nth b 31) &&& 127#8)) (put b 31 ((nth b 31) &&& 127#8))) (fSmall 1#64)) (fInv (fAdd (fMul (fMul (fSub (fSmall 0#64) (fSmall 121665#64)) (fInv (fSmall 121666#64))) (fMul (put b 31 ((nth b 31) &&& 127#8)) (put b 31 ((nth b 31) &&& 127#8)))) (fSmall 1#64))) HYP_ HYP_) ok_19 (by kernel_rfl) (by kernel_rfl) rfl VAL_) APP_ rfl ?_
  refine h_memN (m_alloc al_22 LEN_) APP_ rfl ?_
  refine h_nil ?_
  refine s_storeR rfl rfl rfl rfl sz_22 EQ_ EQ_ SET_ ?_
  refine s_nil ?_
  have hQ17 : (fRoot (fMul (fSub (fMul (put b 31 ((nth b 31) &&& 127#8)) (put b 31 ((nth b 31) &&& 127#8))) (fSmall 1#64)) (fInv (fAdd (fMul (fMul (fSub (fSmall 0#64) (fSmall 121665#64)) (fInv (fSmall 121666#64))) (fMul (put b 31 ((nth b 31) &&& 127#8)) (put b 31 ((nth b 31) &&& 127#8)))) (fSmall 1#64))))).length = 32 := LQ_
  have hE16 : (fRootIs (fMul (fSub (fMul (put b 31 ((nth b 31) &&& 127#8)) (put b 31 ((nth b 31) &&& 127#8))) (fSmall 1#64)) (fInv (fAdd (fMul (fMul (fSub (fSmall 0#64) (fSmall 121665#64)) (fInv (fSmall 121666#64))) (fMul (put b 31 ((nth b 31) &&& 127#8)) (put b 31 ((nth b 31) &&& 127#8)))) (fSmall 1#64))))) = false := eqR hb hR
  refine S_ ?_
  refine c_region ?_
  refine s_val (v_loadR rfl rfl row_22 sz_22 EQ_ (by decide)) rfl ?_
  refine s_evN (e_callR (bs := []) (fRoot_ev (fMul (fSub (fMul (put b 31 ((nth b 31) &&& 127#8)) (put b 31 ((nth b 31) &&& 127#8))) (fSmall 1#64)) (fInv (fAdd (fMul (fMul (fSub (fSmall 0#64) (fSmall 121665#64)) (fInv (fSmall 121666#64))) (fMul (put b 31 ((nth b 31) &&& 127#8)) (put b 31 ((nth b 31) &&& 127#8)))) (fSmall 1#64)))) HYP_) ok_23 (by kernel_rfl) (by kernel_rfl) rfl VAL_) APP_ rfl ?_
  refine s_val (v_moveT rfl) rfl ?_
  refine s_val (v_extract rfl rfl) rfl ?_
  refine s_val (v_bool (v_extract rfl rfl) hE16) rfl ?_
  refine s_memN (m_alloc al_22 LEN_) APP_ rfl ?_
  refine s_storeR rfl rfl rfl rfl sz_22 EQ_ EQ_ SET_ ?_
  refine s_val (v_assignC rfl) rfl ?_
  refine s_nil ?_
  refine S_ ?_
  refine c_draw 14 mixed (by kernel_rfl) rfl rfl rfl ?_
  refine h_val (v_moveC rfl) rfl ?_
  refine h_val (v_moveC rfl) rfl ?_
  refine h_go GO_ ?_
  refine h_val (v_moveC rfl) rfl ?_
  refine h_val (v_pickT rfl PK_ rfl) rfl ?_
  refine h_val (v_moveC rfl) rfl ?_
  refine h_no GO_ ?_
  refine h_no GO_ ?_
  refine h_no GO_ ?_
  refine h_no GO_ ?_
  refine h_no GO_ ?_
  refine h_no GO_ ?_
  refine h_no GO_ ?_
  refine h_val (v_pickF rfl PK_ rfl) rfl ?_
  refine h_val (v_assignC rfl) rfl ?_
  refine h_nil ?_
  refine s_nil ?_
  refine S_ ?_
  refine c_region ?_
  refine s_val (v_loadR rfl rfl row_22 sz_22 EQ_ (by decide)) rfl ?_
  refine s_evN (e_callR (bs := []) (cvCheckF_ev b hb (by unfold unOk; rw [hC, hR]; rfl)) ok_14 (by kernel_rfl) (by kernel_rfl) rfl VAL_) APP_ rfl ?_
  refine s_val (v_eqlN (a := 4) (b := 0) rfl rfl) rfl ?_
  refine s_val (v_moveC rfl) rfl ?_
  refine s_val (v_eqlB rfl rfl Try.underlying4) rfl ?_
  refine s_val (v_moveC rfl) rfl ?_
  refine s_go GO_ ?_
  refine s_evN (e_callR (wakes_ev) ok_16 rfl rfl rfl VAL_) APP_ rfl ?_
  refine s_val (v_pickT rfl PK_ rfl) rfl ?_
  refine s_val (v_assignC rfl) rfl ?_
  refine s_nil ?_
  refine S_ ?_
  exact k_1 (by first | exact r_tmpC rfl | exact r_tmpA rfl) (by first | kernel_rfl | rfl)
end Go.Proofs.Ytcekjmejppemeaa
/- trystlaw08.CurveEquation (Drawn up by a program.) -/
namespace Go.Proofs.Ytcekjmejppemeaa
open Go.RowKit

set_option maxRecDepth 100000 in
set_option maxHeartbeats 2000000 in
theorem cvEqD_ev (b : List (BitVec 8)) (hb : b.length = 32) (hC : unC b = true) (hR : unIs b = true) (hO : unO b = true) (hZ : unZ b = true) : Ev Try.prog (.call 5 [.agg (.a8 (b))] []) (.val (.c (.val (.bool (true)))) []) := by
  refine c_call Try.func5 rfl Try.ntmps5 rfl LEN_ ?_
  refine S_ ?_
  refine c_region ?_
  refine s_memN (m_box BX_ LEN_) APP_ rfl ?_
  refine s_val (v_assignC rfl) rfl ?_
  refine s_nil ?_
  have hE1 : (decide ((128#8).toNat ≤ (nth b 31).toNat)) = true := eqO b hO
  refine S_ ?_
  refine c_region ?_
  refine s_val (v_idxA1 (j := 31) rfl rfl Try.underlying22 sz_5 (by omega)) rfl ?_
  refine s_val (v_load8 rfl rfl row_5 LT_) rfl ?_
  refine s_val (v_bool (v_geq8 (b := 128#8) rfl rfl) hE1) rfl ?_
  refine s_val (v_assignC rfl) rfl ?_
  refine s_nil ?_
  refine S_ ?_
  refine c_region ?_
  refine s_val (v_loadR rfl rfl row_22 sz_22 EQ_ (by decide)) rfl ?_
  refine s_memN (m_alloc al_22 LEN_) APP_ rfl ?_
  refine s_storeR rfl rfl rfl rfl sz_22 EQ_ EQ_ SET_ ?_
  refine s_nil ?_
  refine S_ ?_
  refine c_region ?_
  refine s_val (v_idxA1 (j := 31) rfl rfl Try.underlying22 sz_5 (by omega)) rfl ?_
  refine s_val (v_load8 rfl rfl row_5 LT_) rfl ?_
  refine s_val (v_and8 (b := 127#8) rfl rfl) rfl ?_
  refine s_val (v_idxA1 (j := 31) rfl rfl Try.underlying22 sz_5 (by omega)) rfl ?_
  refine s_store8 rfl rfl rfl sz_5 LT_ SET_ ?_
  refine s_nil ?_
  have hQ3 : (fMod (put b 31 ((nth b 31) &&& 127#8))).length = 32 := LQ_
  have hE2 : (decide (fMod (put b 31 ((nth b 31) &&& 127#8)) = put b 31 ((nth b 31) &&& 127#8))) = true := eqC hb hC
  refine S_ ?_
  refine c_draw 5 mixed (by kernel_rfl) rfl rfl rfl ?_
  refine h_val (v_loadR rfl rfl row_22 sz_22 EQ_ (by decide)) rfl ?_
  refine h_evN (e_callR (bs := []) (fMod_ev (put b 31 ((nth b 31) &&& 127#8)) HYP_) ok_18 (by kernel_rfl) (by kernel_rfl) rfl VAL_) APP_ rfl ?_
  refine h_val (v_loadR rfl rfl row_22 sz_22 EQ_ (by decide)) rfl ?_
  refine h_val (v_bool (v_eqlR8 rfl rfl Try.underlying22 Try.underlying5 sz_5 EQ_ EQ_) hE2) rfl ?_
  refine h_val (v_assignC rfl) rfl ?_
  refine h_nil ?_
  refine s_nil ?_
  have hQ4 : (fMul (put b 31 ((nth b 31) &&& 127#8)) (put b 31 ((nth b 31) &&& 127#8))).length = 32 := LQ_
  refine S_ ?_
  refine c_region ?_
  refine s_val (v_loadR rfl rfl row_22 sz_22 EQ_ (by decide)) rfl ?_
  refine s_val (v_loadR rfl rfl row_22 sz_22 EQ_ (by decide)) rfl ?_
  refine s_evN (e_callR (bs := []) (fMul_ev (put b 31 ((nth b 31) &&& 127#8)) (put b 31 ((nth b 31) &&& 127#8)) HYP_ HYP_) ok_19 (by kernel_rfl) (by kernel_rfl) rfl VAL_) APP_ rfl ?_
  refine s_memN (m_alloc al_22 LEN_) APP_ rfl ?_
  refine s_storeR rfl rfl rfl rfl sz_22 EQ_ EQ_ SET_ ?_
  refine s_nil ?_
  have hQ5 : (fSmall 0#64).length = 32 := LQ_
  have hQ6 : (fSmall 121665#64).length = 32 := LQ_
  have hQ7 : (fSub (fSmall 0#64) (fSmall 121665#64)).length = 32 := LQ_
  have hQ8 : (fSmall 121666#64).length = 32 := LQ_
  have hQ9 : (fInv (fSmall 121666#64)).length = 32 := LQ_
  have hQ10 : (fMul (fSub (fSmall 0#64) (fSmall 121665#64)) (fInv (fSmall 121666#64))).length = 32 := LQ_
  refine S_ ?_
  refine c_region ?_
  refine s_evN (e_callR (bs := []) (fSmall_ev 0#64) ok_15 (by kernel_rfl) (by kernel_rfl) rfl VAL_) APP_ rfl ?_
  refine s_evN (e_callR (bs := []) (fSmall_ev 121665#64) ok_15 (by kernel_rfl) (by kernel_rfl) rfl VAL_) APP_ rfl ?_
  refine s_evN (e_callR (bs := []) (fSub_ev (fSmall 0#64) (fSmall 121665#64) HYP_ HYP_) ok_20 (by kernel_rfl) (by kernel_rfl) rfl VAL_) APP_ rfl ?_
  refine s_evN (e_callR (bs := []) (fSmall_ev 121666#64) ok_15 (by kernel_rfl) (by kernel_rfl) rfl VAL_) APP_ rfl ?_
  refine s_evN (e_callR (bs := []) (fInv_ev (fSmall 121666#64) HYP_) ok_21 (by kernel_rfl) (by kernel_rfl) rfl VAL_) APP_ rfl ?_
  refine s_evN (e_callR (bs := []) (fMul_ev (fSub (fSmall 0#64) (fSmall 121665#64)) (fInv (fSmall 121666#64)) HYP_ HYP_) ok_19 (by kernel_rfl) (by kernel_rfl) rfl VAL_) APP_ rfl ?_
  refine s_memN (m_alloc al_22 LEN_) APP_ rfl ?_
  refine s_storeR rfl rfl rfl rfl sz_22 EQ_ EQ_ SET_ ?_
  refine s_nil ?_
  have hQ11 : (fSmall 1#64).length = 32 := LQ_
  have hQ12 : (fSub (fMul (put b 31 ((nth b 31) &&& 127#8)) (put b 31 ((nth b 31) &&& 127#8))) (fSmall 1#64)).length = 32 := LQ_
  have hQ13 : (fMul (fMul (fSub (fSmall 0#64) (fSmall 121665#64)) (fInv (fSmall 121666#64))) (fMul (put b 31 ((nth b 31) &&& 127#8)) (put b 31 ((nth b 31) &&& 127#8)))).length = 32 := LQ_
  have hQ14 : (fAdd (fMul (fMul (fSub (fSmall 0#64) (fSmall 121665#64)) (fInv (fSmall 121666#64))) (fMul (put b 31 ((nth b 31) &&& 127#8)) (put b 31 ((nth b 31) &&& 127#8)))) (fSmall 1#64)).length = 32 := LQ_
  have hQ15 : (fInv (fAdd (fMul (fMul (fSub (fSmall 0#64) (fSmall 121665#64)) (fInv (fSmall 121666#64))) (fMul (put b 31 ((nth b 31) &&& 127#8)) (put b 31 ((nth b 31) &&& 127#8)))) (fSmall 1#64))).length = 32 := LQ_
  have hQ16 : (fMul (fSub (fMul (put b 31 ((nth b 31) &&& 127#8)) (put b 31 ((nth b 31) &&& 127#8))) (fSmall 1#64)) (fInv (fAdd (fMul (fMul (fSub (fSmall 0#64) (fSmall 121665#64)) (fInv (fSmall 121666#64))) (fMul (put b 31 ((nth b 31) &&& 127#8)) (put b 31 ((nth b 31) &&& 127#8)))) (fSmall 1#64)))).length = 32 := LQ_
  refine S_ ?_
  refine c_draw 11 mixed (by kernel_rfl) rfl rfl rfl ?_
  refine h_val (v_loadR rfl rfl row_22 sz_22 EQ_ (by decide)) rfl ?_
  refine h_evN (e_callR (bs := []) (fSmall_ev 1#64) ok_15 (by kernel_rfl) (by kernel_rfl) rfl VAL_) APP_ rfl ?_
  refine h_evN (e_callR (bs := []) (fSub_ev (fMul (put b 31 ((nth b 31) &&& 127#8)) (put b 31 ((nth b 31) &&& 127#8))) (fSmall 1#64) HYP_ HYP_) ok_20 (by kernel_rfl) (by kernel_rfl) rfl VAL_) APP_ rfl ?_
  refine h_val (v_loadR rfl rfl row_22 sz_22 EQ_ (by decide)) rfl ?_
  refine h_val (v_loadR rfl rfl row_22 sz_22 EQ_ (by decide)) rfl ?_
  refine h_evN (e_callR (bs := []) (fMul_ev (fMul (fSub (fSmall 0#64) (fSmall 121665#64)) (fInv (fSmall 121666#64))) (fMul (put b 31 ((nth b 31) &&& 127#8)) (put b 31 ((nth b 31) &&& 127#8))) HYP_ HYP_) ok_19 (by kernel_rfl) (by kernel_rfl) rfl VAL_) APP_ rfl ?_
  refine h_evN (e_callR (bs := []) (fSmall_ev 1#64) ok_15 (by kernel_rfl) (by kernel_rfl) rfl VAL_) APP_ rfl ?_
  refine h_evN (e_callR (bs := []) (fAdd_ev (fMul (fMul (fSub (fSmall 0#64) (fSmall 121665#64)) (fInv (fSmall 121666#64))) (fMul (put b 31 ((nth b 31) &&& 127#8)) (put b 31 ((nth b 31) &&& 127#8)))) (fSmall 1#64) HYP_ HYP_) ok_22 (by kernel_rfl) (by kernel_rfl) rfl VAL_) APP_ rfl ?_
  refine h_evN (e_callR (bs := []) (fInv_ev (fAdd (fMul (fMul (fSub (fSmall 0#64) (fSmall 121665#64)) (fInv (fSmall 121666#64))) (fMul (put b 31 ((nth b 31) &&& 127#8)) (put b 31 ((nth b 31) &&& 127#8)))) (fSmall 1#64)) HYP_) ok_21 (by kernel_rfl) (by kernel_rfl) rfl VAL_) APP_ rfl ?_
  refine h_evN (e_callR (bs := []) (fMul_ev (fSub (fMul (put b 31 ((nth b 31) &&& 127#8)) (put b 31 ((nth b 31) &&& 127#8))) (fSmall 1#64)) (fInv (fAdd (fMul (fMul (fSub (fSmall 0#64) (fSmall 121665#64)) (fInv (fSmall 121666#64))) (fMul (put b 31 ((nth b 31) &&& 127#8)) (put b 31 ((nth b 31) &&& 127#8)))) (fSmall 1#64))) HYP_ HYP_) ok_19 (by kernel_rfl) (by kernel_rfl) rfl VAL_) APP_ rfl ?_
  refine h_memN (m_alloc al_22 LEN_) APP_ rfl ?_
  refine h_nil ?_
  refine s_storeR rfl rfl rfl rfl sz_22 EQ_ EQ_ SET_ ?_
  refine s_nil ?_
  have hQ18 : (fRoot (fMul (fSub (fMul (put b 31 ((nth b 31) &&& 127#8)) (put b 31 ((nth b 31) &&& 127#8))) (fSmall 1#64)) (fInv (fAdd (fMul (fMul (fSub (fSmall 0#64) (fSmall 121665#64)) (fInv (fSmall 121666#64))) (fMul (put b 31 ((nth b 31) &&& 127#8)) (put b 31 ((nth b 31) &&& 127#8)))) (fSmall 1#64))))).length = 32 := LQ_
  have hE17 : (fRootIs (fMul (fSub (fMul (put b 31 ((nth b 31) &&& 127#8)) (put b 31 ((nth b 31) &&& 127#8))) (fSmall 1#64)) (fInv (fAdd (fMul (fMul (fSub (fSmall 0#64) (fSmall 121665#64)) (fInv (fSmall 121666#64))) (fMul (put b 31 ((nth b 31) &&& 127#8)) (put b 31 ((nth b 31) &&& 127#8)))) (fSmall 1#64))))) = true := eqR hb hR
  refine S_ ?_
  refine c_region ?_
  refine s_val (v_loadR rfl rfl row_22 sz_22 EQ_ (by decide)) rfl ?_
  refine s_evN (e_callR (bs := []) (fRoot_ev (fMul (fSub (fMul (put b 31 ((nth b 31) &&& 127#8)) (put b 31 ((nth b 31) &&& 127#8))) (fSmall 1#64)) (fInv (fAdd (fMul (fMul (fSub (fSmall 0#64) (fSmall 121665#64)) (fInv (fSmall 121666#64))) (fMul (put b 31 ((nth b 31) &&& 127#8)) (put b 31 ((nth b 31) &&& 127#8)))) (fSmall 1#64)))) HYP_) ok_23 (by kernel_rfl) (by kernel_rfl) rfl VAL_) APP_ rfl ?_
  refine s_val (v_moveT rfl) rfl ?_
  refine s_val (v_extract rfl rfl) rfl ?_
  refine s_val (v_bool (v_extract rfl rfl) hE17) rfl ?_
  refine s_memN (m_alloc al_22 LEN_) APP_ rfl ?_
  refine s_storeR rfl rfl rfl rfl sz_22 EQ_ EQ_ SET_ ?_
  refine s_val (v_assignC rfl) rfl ?_
  refine s_nil ?_
  have hQ20 : (fSmall 0#64).length = 32 := LQ_
  have hE19 : (decide (fRoot (fMul (fSub (fMul (put b 31 ((nth b 31) &&& 127#8)) (put b 31 ((nth b 31) &&& 127#8))) (fSmall 1#64)) (fInv (fAdd (fMul (fMul (fSub (fSmall 0#64) (fSmall 121665#64)) (fInv (fSmall 121666#64))) (fMul (put b 31 ((nth b 31) &&& 127#8)) (put b 31 ((nth b 31) &&& 127#8)))) (fSmall 1#64)))) = fSmall 0#64)) = true := eqZ hb hR hZ
  refine S_ ?_
  refine c_draw 14 mixed (by kernel_rfl) rfl rfl rfl ?_
  refine h_val (v_moveC rfl) rfl ?_
  refine h_val (v_moveC rfl) rfl ?_
  refine h_go GO_ ?_
  refine h_val (v_moveC rfl) rfl ?_
  refine h_val (v_pickT rfl PK_ rfl) rfl ?_
  refine h_val (v_moveC rfl) rfl ?_
  refine h_go GO_ ?_
  refine h_val (v_moveC rfl) rfl ?_
  refine h_go GO_ ?_
  refine h_val (v_moveC rfl) rfl ?_
  refine h_go GO_ ?_
  refine h_val (v_loadR rfl rfl row_22 sz_22 EQ_ (by decide)) rfl ?_
  refine h_go GO_ ?_
  refine h_evN (e_callR (bs := []) (fSmall_ev 0#64) ok_15 (by kernel_rfl) (by kernel_rfl) rfl VAL_) APP_ rfl ?_
  refine h_go GO_ ?_
  refine h_val (v_bool (v_eqlR8 rfl rfl Try.underlying22 Try.underlying5 sz_5 EQ_ EQ_) hE19) rfl ?_
  refine h_go GO_ ?_
  refine h_val (v_pickT rfl PK_ rfl) rfl ?_
  refine h_go GO_ ?_
  refine h_val (v_unnotB rfl) rfl ?_
  refine h_val (v_pickT rfl PK_ rfl) rfl ?_
  refine h_val (v_assignC rfl) rfl ?_
  refine h_nil ?_
  refine s_nil ?_
  refine S_ ?_
  refine c_region ?_
  refine s_val (v_loadR rfl rfl row_22 sz_22 EQ_ (by decide)) rfl ?_
  refine s_evN (e_callR (bs := []) (cvCheckF_ev b hb (by unfold unOk; rw [hC, hR, hO, hZ]; rfl)) ok_14 (by kernel_rfl) (by kernel_rfl) rfl VAL_) APP_ rfl ?_
  refine s_val (v_eqlN (a := 4) (b := 0) rfl rfl) rfl ?_
  refine s_val (v_moveC rfl) rfl ?_
  refine s_val (v_eqlB rfl rfl Try.underlying4) rfl ?_
  refine s_val (v_moveC rfl) rfl ?_
  refine s_go GO_ ?_
  refine s_evN (e_callR (wakes_ev) ok_16 rfl rfl rfl VAL_) APP_ rfl ?_
  refine s_val (v_pickT rfl PK_ rfl) rfl ?_
  refine s_val (v_assignC rfl) rfl ?_
  refine s_nil ?_
  refine S_ ?_
  exact k_1 (by first | exact r_tmpC rfl | exact r_tmpA rfl) (by first | kernel_rfl | rfl)
end Go.Proofs.Ytcekjmejppemeaa
/- trystlaw08.CurveEquation (Drawn up by a program.) -/
namespace Go.Proofs.Ytcekjmejppemeaa
open Go.RowKit

set_option maxRecDepth 100000 in
set_option maxHeartbeats 2000000 in
theorem cvEqE_ev (b : List (BitVec 8)) (hb : b.length = 32) (hC : unC b = true) (hR : unIs b = true) (hO : unO b = false) : Ev Try.prog (.call 5 [.agg (.a8 (b))] []) (.val (.c (.val (.bool (true)))) []) := by
  refine c_call Try.func5 rfl Try.ntmps5 rfl LEN_ ?_
  refine S_ ?_
  refine c_region ?_
  refine s_memN (m_box BX_ LEN_) APP_ rfl ?_
  refine s_val (v_assignC rfl) rfl ?_
  refine s_nil ?_
  have hE1 : (decide ((128#8).toNat ≤ (nth b 31).toNat)) = false := eqO b hO
  refine S_ ?_
  refine c_region ?_
  refine s_val (v_idxA1 (j := 31) rfl rfl Try.underlying22 sz_5 (by omega)) rfl ?_
  refine s_val (v_load8 rfl rfl row_5 LT_) rfl ?_
  refine s_val (v_bool (v_geq8 (b := 128#8) rfl rfl) hE1) rfl ?_
  refine s_val (v_assignC rfl) rfl ?_
  refine s_nil ?_
  refine S_ ?_
  refine c_region ?_
  refine s_val (v_loadR rfl rfl row_22 sz_22 EQ_ (by decide)) rfl ?_
  refine s_memN (m_alloc al_22 LEN_) APP_ rfl ?_
  refine s_storeR rfl rfl rfl rfl sz_22 EQ_ EQ_ SET_ ?_
  refine s_nil ?_
  refine S_ ?_
  refine c_region ?_
  refine s_val (v_idxA1 (j := 31) rfl rfl Try.underlying22 sz_5 (by omega)) rfl ?_
  refine s_val (v_load8 rfl rfl row_5 LT_) rfl ?_
  refine s_val (v_and8 (b := 127#8) rfl rfl) rfl ?_
  refine s_val (v_idxA1 (j := 31) rfl rfl Try.underlying22 sz_5 (by omega)) rfl ?_
  refine s_store8 rfl rfl rfl sz_5 LT_ SET_ ?_
  refine s_nil ?_
  have hQ3 : (fMod (put b 31 ((nth b 31) &&& 127#8))).length = 32 := LQ_
  have hE2 : (decide (fMod (put b 31 ((nth b 31) &&& 127#8)) = put b 31 ((nth b 31) &&& 127#8))) = true := eqC hb hC
  refine S_ ?_
  refine c_draw 5 mixed (by kernel_rfl) rfl rfl rfl ?_
  refine h_val (v_loadR rfl rfl row_22 sz_22 EQ_ (by decide)) rfl ?_
  refine h_evN (e_callR (bs := []) (fMod_ev (put b 31 ((nth b 31) &&& 127#8)) HYP_) ok_18 (by kernel_rfl) (by kernel_rfl) rfl VAL_) APP_ rfl ?_
  refine h_val (v_loadR rfl rfl row_22 sz_22 EQ_ (by decide)) rfl ?_
  refine h_val (v_bool (v_eqlR8 rfl rfl Try.underlying22 Try.underlying5 sz_5 EQ_ EQ_) hE2) rfl ?_
  refine h_val (v_assignC rfl) rfl ?_
  refine h_nil ?_
  refine s_nil ?_
  have hQ4 : (fMul (put b 31 ((nth b 31) &&& 127#8)) (put b 31 ((nth b 31) &&& 127#8))).length = 32 := LQ_
  refine S_ ?_
  refine c_region ?_
  refine s_val (v_loadR rfl rfl row_22 sz_22 EQ_ (by decide)) rfl ?_
  refine s_val (v_loadR rfl rfl row_22 sz_22 EQ_ (by decide)) rfl ?_
  refine s_evN (e_callR (bs := []) (fMul_ev (put b 31 ((nth b 31) &&& 127#8)) (put b 31 ((nth b 31) &&& 127#8)) HYP_ HYP_) ok_19 (by kernel_rfl) (by kernel_rfl) rfl VAL_) APP_ rfl ?_
  refine s_memN (m_alloc al_22 LEN_) APP_ rfl ?_
  refine s_storeR rfl rfl rfl rfl sz_22 EQ_ EQ_ SET_ ?_
  refine s_nil ?_
  have hQ5 : (fSmall 0#64).length = 32 := LQ_
  have hQ6 : (fSmall 121665#64).length = 32 := LQ_
  have hQ7 : (fSub (fSmall 0#64) (fSmall 121665#64)).length = 32 := LQ_
  have hQ8 : (fSmall 121666#64).length = 32 := LQ_
  have hQ9 : (fInv (fSmall 121666#64)).length = 32 := LQ_
  have hQ10 : (fMul (fSub (fSmall 0#64) (fSmall 121665#64)) (fInv (fSmall 121666#64))).length = 32 := LQ_
  refine S_ ?_
  refine c_region ?_
  refine s_evN (e_callR (bs := []) (fSmall_ev 0#64) ok_15 (by kernel_rfl) (by kernel_rfl) rfl VAL_) APP_ rfl ?_
  refine s_evN (e_callR (bs := []) (fSmall_ev 121665#64) ok_15 (by kernel_rfl) (by kernel_rfl) rfl VAL_) APP_ rfl ?_
  refine s_evN (e_callR (bs := []) (fSub_ev (fSmall 0#64) (fSmall 121665#64) HYP_ HYP_) ok_20 (by kernel_rfl) (by kernel_rfl) rfl VAL_) APP_ rfl ?_
  refine s_evN (e_callR (bs := []) (fSmall_ev 121666#64) ok_15 (by kernel_rfl) (by kernel_rfl) rfl VAL_) APP_ rfl ?_
  refine s_evN (e_callR (bs := []) (fInv_ev (fSmall 121666#64) HYP_) ok_21 (by kernel_rfl) (by kernel_rfl) rfl VAL_) APP_ rfl ?_
  refine s_evN (e_callR (bs := []) (fMul_ev (fSub (fSmall 0#64) (fSmall 121665#64)) (fInv (fSmall 121666#64)) HYP_ HYP_) ok_19 (by kernel_rfl) (by kernel_rfl) rfl VAL_) APP_ rfl ?_
  refine s_memN (m_alloc al_22 LEN_) APP_ rfl ?_
  refine s_storeR rfl rfl rfl rfl sz_22 EQ_ EQ_ SET_ ?_
  refine s_nil ?_
  have hQ11 : (fSmall 1#64).length = 32 := LQ_
  have hQ12 : (fSub (fMul (put b 31 ((nth b 31) &&& 127#8)) (put b 31 ((nth b 31) &&& 127#8))) (fSmall 1#64)).length = 32 := LQ_
  have hQ13 : (fMul (fMul (fSub (fSmall 0#64) (fSmall 121665#64)) (fInv (fSmall 121666#64))) (fMul (put b 31 ((nth b 31) &&& 127#8)) (put b 31 ((nth b 31) &&& 127#8)))).length = 32 := LQ_
  have hQ14 : (fAdd (fMul (fMul (fSub (fSmall 0#64) (fSmall 121665#64)) (fInv (fSmall 121666#64))) (fMul (put b 31 ((nth b 31) &&& 127#8)) (put b 31 ((nth b 31) &&& 127#8)))) (fSmall 1#64)).length = 32 := LQ_
  have hQ15 : (fInv (fAdd (fMul (fMul (fSub (fSmall 0#64) (fSmall 121665#64)) (fInv (fSmall 121666#64))) (fMul (put b 31 ((nth b 31) &&& 127#8)) (put b 31 ((nth b 31) &&& 127#8)))) (fSmall 1#64))).length = 32 := LQ_
  have hQ16 : (fMul (fSub (fMul (put b 31 ((nth b 31) &&& 127#8)) (put b 31 ((nth b 31) &&& 127#8))) (fSmall 1#64)) (fInv (fAdd (fMul (fMul (fSub (fSmall 0#64) (fSmall 121665#64)) (fInv (fSmall 121666#64))) (fMul (put b 31 ((nth b 31) &&& 127#8)) (put b 31 ((nth b 31) &&& 127#8)))) (fSmall 1#64)))).length = 32 := LQ_
  refine S_ ?_
  refine c_draw 11 mixed (by kernel_rfl) rfl rfl rfl ?_
  refine h_val (v_loadR rfl rfl row_22 sz_22 EQ_ (by decide)) rfl ?_
  refine h_evN (e_callR (bs := []) (fSmall_ev 1#64) ok_15 (by kernel_rfl) (by kernel_rfl) rfl VAL_) APP_ rfl ?_
  refine h_evN (e_callR (bs := []) (fSub_ev (fMul (put b 31 ((nth b 31) &&& 127#8)) (put b 31 ((nth b 31) &&& 127#8))) (fSmall 1#64) HYP_ HYP_) ok_20 (by kernel_rfl) (by kernel_rfl) rfl VAL_) APP_ rfl ?_
  refine h_val (v_loadR rfl rfl row_22 sz_22 EQ_ (by decide)) rfl ?_
  refine h_val (v_loadR rfl rfl row_22 sz_22 EQ_ (by decide)) rfl ?_
  refine h_evN (e_callR (bs := []) (fMul_ev (fMul (fSub (fSmall 0#64) (fSmall 121665#64)) (fInv (fSmall 121666#64))) (fMul (put b 31 ((nth b 31) &&& 127#8)) (put b 31 ((nth b 31) &&& 127#8))) HYP_ HYP_) ok_19 (by kernel_rfl) (by kernel_rfl) rfl VAL_) APP_ rfl ?_
  refine h_evN (e_callR (bs := []) (fSmall_ev 1#64) ok_15 (by kernel_rfl) (by kernel_rfl) rfl VAL_) APP_ rfl ?_
  refine h_evN (e_callR (bs := []) (fAdd_ev (fMul (fMul (fSub (fSmall 0#64) (fSmall 121665#64)) (fInv (fSmall 121666#64))) (fMul (put b 31 ((nth b 31) &&& 127#8)) (put b 31 ((nth b 31) &&& 127#8)))) (fSmall 1#64) HYP_ HYP_) ok_22 (by kernel_rfl) (by kernel_rfl) rfl VAL_) APP_ rfl ?_
  refine h_evN (e_callR (bs := []) (fInv_ev (fAdd (fMul (fMul (fSub (fSmall 0#64) (fSmall 121665#64)) (fInv (fSmall 121666#64))) (fMul (put b 31 ((nth b 31) &&& 127#8)) (put b 31 ((nth b 31) &&& 127#8)))) (fSmall 1#64)) HYP_) ok_21 (by kernel_rfl) (by kernel_rfl) rfl VAL_) APP_ rfl ?_
  refine h_evN (e_callR (bs := []) (fMul_ev (fSub (fMul (put b 31 ((nth b 31) &&& 127#8)) (put b 31 ((nth b 31) &&& 127#8))) (fSmall 1#64)) (fInv (fAdd (fMul (fMul (fSub (fSmall 0#64) (fSmall 121665#64)) (fInv (fSmall 121666#64))) (fMul (put b 31 ((nth b 31) &&& 127#8)) (put b 31 ((nth b 31) &&& 127#8)))) (fSmall 1#64))) HYP_ HYP_) ok_19 (by kernel_rfl) (by kernel_rfl) rfl VAL_) APP_ rfl ?_
  refine h_memN (m_alloc al_22 LEN_) APP_ rfl ?_
  refine h_nil ?_
  refine s_storeR rfl rfl rfl rfl sz_22 EQ_ EQ_ SET_ ?_
  refine s_nil ?_
  have hQ18 : (fRoot (fMul (fSub (fMul (put b 31 ((nth b 31) &&& 127#8)) (put b 31 ((nth b 31) &&& 127#8))) (fSmall 1#64)) (fInv (fAdd (fMul (fMul (fSub (fSmall 0#64) (fSmall 121665#64)) (fInv (fSmall 121666#64))) (fMul (put b 31 ((nth b 31) &&& 127#8)) (put b 31 ((nth b 31) &&& 127#8)))) (fSmall 1#64))))).length = 32 := LQ_
  have hE17 : (fRootIs (fMul (fSub (fMul (put b 31 ((nth b 31) &&& 127#8)) (put b 31 ((nth b 31) &&& 127#8))) (fSmall 1#64)) (fInv (fAdd (fMul (fMul (fSub (fSmall 0#64) (fSmall 121665#64)) (fInv (fSmall 121666#64))) (fMul (put b 31 ((nth b 31) &&& 127#8)) (put b 31 ((nth b 31) &&& 127#8)))) (fSmall 1#64))))) = true := eqR hb hR
  refine S_ ?_
  refine c_region ?_
  refine s_val (v_loadR rfl rfl row_22 sz_22 EQ_ (by decide)) rfl ?_
  refine s_evN (e_callR (bs := []) (fRoot_ev (fMul (fSub (fMul (put b 31 ((nth b 31) &&& 127#8)) (put b 31 ((nth b 31) &&& 127#8))) (fSmall 1#64)) (fInv (fAdd (fMul (fMul (fSub (fSmall 0#64) (fSmall 121665#64)) (fInv (fSmall 121666#64))) (fMul (put b 31 ((nth b 31) &&& 127#8)) (put b 31 ((nth b 31) &&& 127#8)))) (fSmall 1#64)))) HYP_) ok_23 (by kernel_rfl) (by kernel_rfl) rfl VAL_) APP_ rfl ?_
  refine s_val (v_moveT rfl) rfl ?_
  refine s_val (v_extract rfl rfl) rfl ?_
  refine s_val (v_bool (v_extract rfl rfl) hE17) rfl ?_
  refine s_memN (m_alloc al_22 LEN_) APP_ rfl ?_
  refine s_storeR rfl rfl rfl rfl sz_22 EQ_ EQ_ SET_ ?_
  refine s_val (v_assignC rfl) rfl ?_
  refine s_nil ?_
  refine S_ ?_
  refine c_draw 14 mixed (by kernel_rfl) rfl rfl rfl ?_
  refine h_val (v_moveC rfl) rfl ?_
  refine h_val (v_moveC rfl) rfl ?_
  refine h_go GO_ ?_
  refine h_val (v_moveC rfl) rfl ?_
  refine h_val (v_pickT rfl PK_ rfl) rfl ?_
  refine h_val (v_moveC rfl) rfl ?_
  refine h_go GO_ ?_
  refine h_val (v_moveC rfl) rfl ?_
  refine h_go GO_ ?_
  refine h_val (v_moveC rfl) rfl ?_
  refine h_no GO_ ?_
  refine h_no GO_ ?_
  refine h_no GO_ ?_
  refine h_go GO_ ?_
  refine h_val (v_pickF rfl PK_ rfl) rfl ?_
  refine h_go GO_ ?_
  refine h_val (v_unnotB rfl) rfl ?_
  refine h_val (v_pickT rfl PK_ rfl) rfl ?_
  refine h_val (v_assignC rfl) rfl ?_
  refine h_nil ?_
  refine s_nil ?_
  refine S_ ?_
  refine c_region ?_
  refine s_val (v_loadR rfl rfl row_22 sz_22 EQ_ (by decide)) rfl ?_
  refine s_evN (e_callR (bs := []) (cvCheckT_ev b hb (by unfold unOk; rw [hC, hR, hO]; rfl)) ok_14 (by kernel_rfl) (by kernel_rfl) rfl VAL_) APP_ rfl ?_
  refine s_val (v_eqlN (a := 0) (b := 0) rfl rfl) rfl ?_
  refine s_val (v_moveC rfl) rfl ?_
  refine s_val (v_eqlB rfl rfl Try.underlying4) rfl ?_
  refine s_val (v_moveC rfl) rfl ?_
  refine s_go GO_ ?_
  refine s_evN (e_callR (wakes_ev) ok_16 rfl rfl rfl VAL_) APP_ rfl ?_
  refine s_val (v_pickT rfl PK_ rfl) rfl ?_
  refine s_val (v_assignC rfl) rfl ?_
  refine s_nil ?_
  refine S_ ?_
  exact k_1 (by first | exact r_tmpC rfl | exact r_tmpA rfl) (by first | kernel_rfl | rfl)
end Go.Proofs.Ytcekjmejppemeaa
/- trystlaw08.CurveEquation (Drawn up by a program.) -/
namespace Go.Proofs.Ytcekjmejppemeaa
open Go.RowKit

set_option maxRecDepth 100000 in
set_option maxHeartbeats 2000000 in
theorem cvEqF_ev (b : List (BitVec 8)) (hb : b.length = 32) (hC : unC b = true) (hR : unIs b = true) (hO : unO b = true) (hZ : unZ b = false) : Ev Try.prog (.call 5 [.agg (.a8 (b))] []) (.val (.c (.val (.bool (true)))) []) := by
  refine c_call Try.func5 rfl Try.ntmps5 rfl LEN_ ?_
  refine S_ ?_
  refine c_region ?_
  refine s_memN (m_box BX_ LEN_) APP_ rfl ?_
  refine s_val (v_assignC rfl) rfl ?_
  refine s_nil ?_
  have hE1 : (decide ((128#8).toNat ≤ (nth b 31).toNat)) = true := eqO b hO
  refine S_ ?_
  refine c_region ?_
  refine s_val (v_idxA1 (j := 31) rfl rfl Try.underlying22 sz_5 (by omega)) rfl ?_
  refine s_val (v_load8 rfl rfl row_5 LT_) rfl ?_
  refine s_val (v_bool (v_geq8 (b := 128#8) rfl rfl) hE1) rfl ?_
  refine s_val (v_assignC rfl) rfl ?_
  refine s_nil ?_
  refine S_ ?_
  refine c_region ?_
  refine s_val (v_loadR rfl rfl row_22 sz_22 EQ_ (by decide)) rfl ?_
  refine s_memN (m_alloc al_22 LEN_) APP_ rfl ?_
  refine s_storeR rfl rfl rfl rfl sz_22 EQ_ EQ_ SET_ ?_
  refine s_nil ?_
  refine S_ ?_
  refine c_region ?_
  refine s_val (v_idxA1 (j := 31) rfl rfl Try.underlying22 sz_5 (by omega)) rfl ?_
  refine s_val (v_load8 rfl rfl row_5 LT_) rfl ?_
  refine s_val (v_and8 (b := 127#8) rfl rfl) rfl ?_
  refine s_val (v_idxA1 (j := 31) rfl rfl Try.underlying22 sz_5 (by omega)) rfl ?_
  refine s_store8 rfl rfl rfl sz_5 LT_ SET_ ?_
  refine s_nil ?_
  have hQ3 : (fMod (put b 31 ((nth b 31) &&& 127#8))).length = 32 := LQ_
  have hE2 : (decide (fMod (put b 31 ((nth b 31) &&& 127#8)) = put b 31 ((nth b 31) &&& 127#8))) = true := eqC hb hC
  refine S_ ?_
  refine c_draw 5 mixed (by kernel_rfl) rfl rfl rfl ?_
  refine h_val (v_loadR rfl rfl row_22 sz_22 EQ_ (by decide)) rfl ?_
  refine h_evN (e_callR (bs := []) (fMod_ev (put b 31 ((nth b 31) &&& 127#8)) HYP_) ok_18 (by kernel_rfl) (by kernel_rfl) rfl VAL_) APP_ rfl ?_
  refine h_val (v_loadR rfl rfl row_22 sz_22 EQ_ (by decide)) rfl ?_
  refine h_val (v_bool (v_eqlR8 rfl rfl Try.underlying22 Try.underlying5 sz_5 EQ_ EQ_) hE2) rfl ?_
  refine h_val (v_assignC rfl) rfl ?_
  refine h_nil ?_
  refine s_nil ?_
  have hQ4 : (fMul (put b 31 ((nth b 31) &&& 127#8)) (put b 31 ((nth b 31) &&& 127#8))).length = 32 := LQ_
  refine S_ ?_
  refine c_region ?_
  refine s_val (v_loadR rfl rfl row_22 sz_22 EQ_ (by decide)) rfl ?_
  refine s_val (v_loadR rfl rfl row_22 sz_22 EQ_ (by decide)) rfl ?_
  refine s_evN (e_callR (bs := []) (fMul_ev (put b 31 ((nth b 31) &&& 127#8)) (put b 31 ((nth b 31) &&& 127#8)) HYP_ HYP_) ok_19 (by kernel_rfl) (by kernel_rfl) rfl VAL_) APP_ rfl ?_
  refine s_memN (m_alloc al_22 LEN_) APP_ rfl ?_
  refine s_storeR rfl rfl rfl rfl sz_22 EQ_ EQ_ SET_ ?_
  refine s_nil ?_
  have hQ5 : (fSmall 0#64).length = 32 := LQ_
  have hQ6 : (fSmall 121665#64).length = 32 := LQ_
  have hQ7 : (fSub (fSmall 0#64) (fSmall 121665#64)).length = 32 := LQ_
  have hQ8 : (fSmall 121666#64).length = 32 := LQ_
  have hQ9 : (fInv (fSmall 121666#64)).length = 32 := LQ_
  have hQ10 : (fMul (fSub (fSmall 0#64) (fSmall 121665#64)) (fInv (fSmall 121666#64))).length = 32 := LQ_
  refine S_ ?_
  refine c_region ?_
  refine s_evN (e_callR (bs := []) (fSmall_ev 0#64) ok_15 (by kernel_rfl) (by kernel_rfl) rfl VAL_) APP_ rfl ?_
  refine s_evN (e_callR (bs := []) (fSmall_ev 121665#64) ok_15 (by kernel_rfl) (by kernel_rfl) rfl VAL_) APP_ rfl ?_
  refine s_evN (e_callR (bs := []) (fSub_ev (fSmall 0#64) (fSmall 121665#64) HYP_ HYP_) ok_20 (by kernel_rfl) (by kernel_rfl) rfl VAL_) APP_ rfl ?_
  refine s_evN (e_callR (bs := []) (fSmall_ev 121666#64) ok_15 (by kernel_rfl) (by kernel_rfl) rfl VAL_) APP_ rfl ?_
  refine s_evN (e_callR (bs := []) (fInv_ev (fSmall 121666#64) HYP_) ok_21 (by kernel_rfl) (by kernel_rfl) rfl VAL_) APP_ rfl ?_
  refine s_evN (e_callR (bs := []) (fMul_ev (fSub (fSmall 0#64) (fSmall 121665#64)) (fInv (fSmall 121666#64)) HYP_ HYP_) ok_19 (by kernel_rfl) (by kernel_rfl) rfl VAL_) APP_ rfl ?_
  refine s_memN (m_alloc al_22 LEN_) APP_ rfl ?_
  refine s_storeR rfl rfl rfl rfl sz_22 EQ_ EQ_ SET_ ?_
  refine s_nil ?_
  have hQ11 : (fSmall 1#64).length = 32 := LQ_
  have hQ12 : (fSub (fMul (put b 31 ((nth b 31) &&& 127#8)) (put b 31 ((nth b 31) &&& 127#8))) (fSmall 1#64)).length = 32 := LQ_
  have hQ13 : (fMul (fMul (fSub (fSmall 0#64) (fSmall 121665#64)) (fInv (fSmall 121666#64))) (fMul (put b 31 ((nth b 31) &&& 127#8)) (put b 31 ((nth b 31) &&& 127#8)))).length = 32 := LQ_
  have hQ14 : (fAdd (fMul (fMul (fSub (fSmall 0#64) (fSmall 121665#64)) (fInv (fSmall 121666#64))) (fMul (put b 31 ((nth b 31) &&& 127#8)) (put b 31 ((nth b 31) &&& 127#8)))) (fSmall 1#64)).length = 32 := LQ_
  have hQ15 : (fInv (fAdd (fMul (fMul (fSub (fSmall 0#64) (fSmall 121665#64)) (fInv (fSmall 121666#64))) (fMul (put b 31 ((nth b 31) &&& 127#8)) (put b 31 ((nth b 31) &&& 127#8)))) (fSmall 1#64))).length = 32 := LQ_
  have hQ16 : (fMul (fSub (fMul (put b 31 ((nth b 31) &&& 127#8)) (put b 31 ((nth b 31) &&& 127#8))) (fSmall 1#64)) (fInv (fAdd (fMul (fMul (fSub (fSmall 0#64) (fSmall 121665#64)) (fInv (fSmall 121666#64))) (fMul (put b 31 ((nth b 31) &&& 127#8)) (put b 31 ((nth b 31) &&& 127#8)))) (fSmall 1#64)))).length = 32 := LQ_
  refine S_ ?_
  refine c_draw 11 mixed (by kernel_rfl) rfl rfl rfl ?_
  refine h_val (v_loadR rfl rfl row_22 sz_22 EQ_ (by decide)) rfl ?_
  refine h_evN (e_callR (bs := []) (fSmall_ev 1#64) ok_15 (by kernel_rfl) (by kernel_rfl) rfl VAL_) APP_ rfl ?_
  refine h_evN (e_callR (bs := []) (fSub_ev (fMul (put b 31 ((nth b 31) &&& 127#8)) (put b 31 ((nth b 31) &&& 127#8))) (fSmall 1#64) HYP_ HYP_) ok_20 (by kernel_rfl) (by kernel_rfl) rfl VAL_) APP_ rfl ?_
  refine h_val (v_loadR rfl rfl row_22 sz_22 EQ_ (by decide)) rfl ?_
  refine h_val (v_loadR rfl rfl row_22 sz_22 EQ_ (by decide)) rfl ?_
  refine h_evN (e_callR (bs := []) (fMul_ev (fMul (fSub (fSmall 0#64) (fSmall 121665#64)) (fInv (fSmall 121666#64))) (fMul (put b 31 ((nth b 31) &&& 127#8)) (put b 31 ((nth b 31) &&& 127#8))) HYP_ HYP_) ok_19 (by kernel_rfl) (by kernel_rfl) rfl VAL_) APP_ rfl ?_
  refine h_evN (e_callR (bs := []) (fSmall_ev 1#64) ok_15 (by kernel_rfl) (by kernel_rfl) rfl VAL_) APP_ rfl ?_
  refine h_evN (e_callR (bs := []) (fAdd_ev (fMul (fMul (fSub (fSmall 0#64) (fSmall 121665#64)) (fInv (fSmall 121666#64))) (fMul (put b 31 ((nth b 31) &&& 127#8)) (put b 31 ((nth b 31) &&& 127#8)))) (fSmall 1#64) HYP_ HYP_) ok_22 (by kernel_rfl) (by kernel_rfl) rfl VAL_) APP_ rfl ?_
  refine h_evN (e_callR (bs := []) (fInv_ev (fAdd (fMul (fMul (fSub (fSmall 0#64) (fSmall 121665#64)) (fInv (fSmall 121666#64))) (fMul (put b 31 ((nth b 31) &&& 127#8)) (put b 31 ((nth b 31) &&& 127#8)))) (fSmall 1#64)) HYP_) ok_21 (by kernel_rfl) (by kernel_rfl) rfl VAL_) APP_ rfl ?_
  refine h_evN (e_callR (bs := []) (fMul_ev (fSub (fMul (put b 31 ((nth b 31) &&& 127#8)) (put b 31 ((nth b 31) &&& 127#8))) (fSmall 1#64)) (fInv (fAdd (fMul (fMul (fSub (fSmall 0#64) (fSmall 121665#64)) (fInv (fSmall 121666#64))) (fMul (put b 31 ((nth b 31) &&& 127#8)) (put b 31 ((nth b 31) &&& 127#8)))) (fSmall 1#64))) HYP_ HYP_) ok_19 (by kernel_rfl) (by kernel_rfl) rfl VAL_) APP_ rfl ?_
  refine h_memN (m_alloc al_22 LEN_) APP_ rfl ?_
  refine h_nil ?_
  refine s_storeR rfl rfl rfl rfl sz_22 EQ_ EQ_ SET_ ?_
  refine s_nil ?_
  have hQ18 : (fRoot (fMul (fSub (fMul (put b 31 ((nth b 31) &&& 127#8)) (put b 31 ((nth b 31) &&& 127#8))) (fSmall 1#64)) (fInv (fAdd (fMul (fMul (fSub (fSmall 0#64) (fSmall 121665#64)) (fInv (fSmall 121666#64))) (fMul (put b 31 ((nth b 31) &&& 127#8)) (put b 31 ((nth b 31) &&& 127#8)))) (fSmall 1#64))))).length = 32 := LQ_
  have hE17 : (fRootIs (fMul (fSub (fMul (put b 31 ((nth b 31) &&& 127#8)) (put b 31 ((nth b 31) &&& 127#8))) (fSmall 1#64)) (fInv (fAdd (fMul (fMul (fSub (fSmall 0#64) (fSmall 121665#64)) (fInv (fSmall 121666#64))) (fMul (put b 31 ((nth b 31) &&& 127#8)) (put b 31 ((nth b 31) &&& 127#8)))) (fSmall 1#64))))) = true := eqR hb hR
  refine S_ ?_
  refine c_region ?_
  refine s_val (v_loadR rfl rfl row_22 sz_22 EQ_ (by decide)) rfl ?_
  refine s_evN (e_callR (bs := []) (fRoot_ev (fMul (fSub (fMul (put b 31 ((nth b 31) &&& 127#8)) (put b 31 ((nth b 31) &&& 127#8))) (fSmall 1#64)) (fInv (fAdd (fMul (fMul (fSub (fSmall 0#64) (fSmall 121665#64)) (fInv (fSmall 121666#64))) (fMul (put b 31 ((nth b 31) &&& 127#8)) (put b 31 ((nth b 31) &&& 127#8)))) (fSmall 1#64)))) HYP_) ok_23 (by kernel_rfl) (by kernel_rfl) rfl VAL_) APP_ rfl ?_
  refine s_val (v_moveT rfl) rfl ?_
  refine s_val (v_extract rfl rfl) rfl ?_
  refine s_val (v_bool (v_extract rfl rfl) hE17) rfl ?_
  refine s_memN (m_alloc al_22 LEN_) APP_ rfl ?_
  refine s_storeR rfl rfl rfl rfl sz_22 EQ_ EQ_ SET_ ?_
  refine s_val (v_assignC rfl) rfl ?_
  refine s_nil ?_
  have hQ20 : (fSmall 0#64).length = 32 := LQ_
  have hE19 : (decide (fRoot (fMul (fSub (fMul (put b 31 ((nth b 31) &&& 127#8)) (put b 31 ((nth b 31) &&& 127#8))) (fSmall 1#64)) (fInv (fAdd (fMul (fMul (fSub (fSmall 0#64) (fSmall 121665#64)) (fInv (fSmall 121666#64))) (fMul (put b 31 ((nth b 31) &&& 127#8)) (put b 31 ((nth b 31) &&& 127#8)))) (fSmall 1#64)))) = fSmall 0#64)) = false := eqZ hb hR hZ
  refine S_ ?_
  refine c_draw 14 mixed (by kernel_rfl) rfl rfl rfl ?_
  refine h_val (v_moveC rfl) rfl ?_
  refine h_val (v_moveC rfl) rfl ?_
  refine h_go GO_ ?_
  refine h_val (v_moveC rfl) rfl ?_
  refine h_val (v_pickT rfl PK_ rfl) rfl ?_
  refine h_val (v_moveC rfl) rfl ?_
  refine h_go GO_ ?_
  refine h_val (v_moveC rfl) rfl ?_
  refine h_go GO_ ?_
  refine h_val (v_moveC rfl) rfl ?_
  refine h_go GO_ ?_
  refine h_val (v_loadR rfl rfl row_22 sz_22 EQ_ (by decide)) rfl ?_
  refine h_go GO_ ?_
  refine h_evN (e_callR (bs := []) (fSmall_ev 0#64) ok_15 (by kernel_rfl) (by kernel_rfl) rfl VAL_) APP_ rfl ?_
  refine h_go GO_ ?_
  refine h_val (v_bool (v_eqlR8 rfl rfl Try.underlying22 Try.underlying5 sz_5 EQ_ EQ_) hE19) rfl ?_
  refine h_go GO_ ?_
  refine h_val (v_pickT rfl PK_ rfl) rfl ?_
  refine h_go GO_ ?_
  refine h_val (v_unnotB rfl) rfl ?_
  refine h_val (v_pickT rfl PK_ rfl) rfl ?_
  refine h_val (v_assignC rfl) rfl ?_
  refine h_nil ?_
  refine s_nil ?_
  refine S_ ?_
  refine c_region ?_
  refine s_val (v_loadR rfl rfl row_22 sz_22 EQ_ (by decide)) rfl ?_
  refine s_evN (e_callR (bs := []) (cvCheckT_ev b hb (by unfold unOk; rw [hC, hR, hO, hZ]; rfl)) ok_14 (by kernel_rfl) (by kernel_rfl) rfl VAL_) APP_ rfl ?_
  refine s_val (v_eqlN (a := 0) (b := 0) rfl rfl) rfl ?_
  refine s_val (v_moveC rfl) rfl ?_
  refine s_val (v_eqlB rfl rfl Try.underlying4) rfl ?_
  refine s_val (v_moveC rfl) rfl ?_
  refine s_go GO_ ?_
  refine s_evN (e_callR (wakes_ev) ok_16 rfl rfl rfl VAL_) APP_ rfl ?_
  refine s_val (v_pickT rfl PK_ rfl) rfl ?_
  refine s_val (v_assignC rfl) rfl ?_
  refine s_nil ?_
  refine S_ ?_
  exact k_1 (by first | exact r_tmpC rfl | exact r_tmpA rfl) (by first | kernel_rfl | rfl)
end Go.Proofs.Ytcekjmejppemeaa
/- The equation tells whether bytes are a point: all cases. -/
namespace Go.Proofs.Ytcekjmejppemeaa
open Go.RowKit
theorem curveEquation_ev (b : List (BitVec 8)) (hb : b.length = 32) : Ev Try.prog (.call 5 [.agg (.a8 (b))] []) (.val (.c (.val (.bool (true)))) []) := by
  cases hC : unC b with
  | false => exact cvEqA_ev b hb hC
  | true =>
    cases hR : unIs b with
    | false => exact cvEqB_ev b hb hC hR
    | true =>
      cases hO : unO b with
      | false => exact cvEqE_ev b hb hC hR hO
      | true =>
        cases hZ : unZ b with
        | true => exact cvEqD_ev b hb hC hR hO hZ
        | false => exact cvEqF_ev b hb hC hR hO hZ
end Go.Proofs.Ytcekjmejppemeaa
