/- The texts CvUnPre, CvUnA, CvUnB, CvUnD, CvUnE, CvUnF, CvUn, CvPlus, CvTimes, CvPacked, CvApi, PlainL, FBytes, FPrime, FNum, FLimb, FLMul, FField, FFRoot, FLaws, FRfNum, FSame, FEq, merged into one. -/
import Derived.Test.YtcekjmejppemeaaCV3
import Derived.Lib.Mul64
/- The parts of a point told from bytes. -/
namespace Go.Proofs.Ytcekjmejppemeaa
open Go.RowKit
def unY (b : List (BitVec 8)) : List (BitVec 64) := lmOf (put b 31 ((nth b 31) &&& 127#8))
def unYY (b : List (BitVec 8)) : List (BitVec 64) := lmMul (unY b) (unY b)
def unXX (b : List (BitVec 8)) : List (BitVec 64) := lmMul (lmSub (unYY b) (lmSmall 1#64)) (lmInv (lmAdd (lmMul cvBend (unYY b)) (lmSmall 1#64)))
def unR (b : List (BitVec 8)) : List (BitVec 64) := lmRoot0 (unXX b)
def unIs (b : List (BitVec 8)) : Bool := lmRoot1 (unXX b)
def unC (b : List (BitVec 8)) : Bool := decide (lmBytes (unY b) = put b 31 ((nth b 31) &&& 127#8))
def unZ (b : List (BitVec 8)) : Bool := decide (lmBytes (unR b) = lmBytes (lmSmall 0#64))
def unO (b : List (BitVec 8)) : Bool := ((nth b 31) >>> 7) == 1#8
@[simp] theorem unY_len (b : List (BitVec 8)) (hb : b.length = 32) : (unY b).length = 5 := by unfold unY; simp (maxDischargeDepth := 9) [hb]
@[simp] theorem unYY_len (b : List (BitVec 8)) (hb : b.length = 32) : (unYY b).length = 5 := by unfold unYY; simp (maxDischargeDepth := 9) [hb]
@[simp] theorem unXX_len (b : List (BitVec 8)) (hb : b.length = 32) : (unXX b).length = 5 := by unfold unXX; simp (maxDischargeDepth := 9) [hb]
@[simp] theorem unR_len (b : List (BitVec 8)) (hb : b.length = 32) : (unR b).length = 5 := by unfold unR; simp (maxDischargeDepth := 9) [hb]
theorem unY_ev (b : List (BitVec 8)) (hb : b.length = 32) : Ev Try.prog (.call 41 [.agg (.a8 (put b 31 ((nth b 31) &&& 127#8)))] []) (.val (.agg (.a64 (unY b))) []) := lmOf_ev _ (by simp (maxDischargeDepth := 9) [hb])
theorem unYY_ev (b : List (BitVec 8)) (hb : b.length = 32) : Ev Try.prog (.call 43 [.agg (.a64 (unY b)), .agg (.a64 (unY b))] []) (.val (.agg (.a64 (unYY b))) []) := lmMul_ev _ _ (by simp (maxDischargeDepth := 9) [hb]) (by simp (maxDischargeDepth := 9) [hb])
theorem unXX_ev (b : List (BitVec 8)) (hb : b.length = 32) : Ev Try.prog (.call 43 [.agg (.a64 (lmSub (unYY b) (lmSmall 1#64))), .agg (.a64 (lmInv (lmAdd (lmMul cvBend (unYY b)) (lmSmall 1#64))))] []) (.val (.agg (.a64 (unXX b))) []) := lmMul_ev _ _ (by simp (maxDischargeDepth := 9) [hb]) (by simp (maxDischargeDepth := 9) [hb])
theorem unRoot_ev (b : List (BitVec 8)) (r : Bool) (hr : unIs b = r) (hb : b.length = 32) : Ev Try.prog (.call 47 [.agg (.a64 (unXX b))] []) (.val (.tup [.agg (.a64 (unR b)), .c (.val (.bool r))]) []) := by
  rw [← hr]
  exact lmRoot_ev _ (by simp (maxDischargeDepth := 9) [hb])
theorem unSame_ev (b : List (BitVec 8)) (r : Bool) (hr : unZ b = r) (hb : b.length = 32) : Ev Try.prog (.call 75 [.agg (.a64 (unR b)), .agg (.a64 (lmSmall 0#64))] []) (.val (.c (.val (.bool r))) []) := by
  rw [← hr]
  exact lmSame_ev _ _ (by simp (maxDischargeDepth := 9) [hb]) (by simp)
theorem unC_eq {b : List (BitVec 8)} {r : Bool} (h : unC b = r) : (!decide (lmBytes (unY b) = put b 31 ((nth b 31) &&& 127#8))) = !r := by rw [← h]; rfl
theorem unO_eq {b : List (BitVec 8)} {r : Bool} (h : unO b = r) : (((nth b 31) >>> 7) == 1#8) = r := h
attribute [irreducible] unY unYY unXX unR unIs unC unZ unO
end Go.Proofs.Ytcekjmejppemeaa
/- curve.unpacked (Drawn up by a program.) -/
namespace Go.Proofs.Ytcekjmejppemeaa
open Go.RowKit
def cvUnA0  : List (BitVec 64) := zer64 20
set_option maxRecDepth 100000 in
set_option maxHeartbeats 2000000 in
theorem cvUnA_ev (b : List (BitVec 8)) (hb : b.length = 32) (hC : unC b = false) : Ev Try.prog (.call 39 [.agg (.a8 (b))] []) (.val (.tup [.agg (.a64 (cvUnA0)), .c (.val (.bool (false)))]) []) := by
  have hP_cvUnA0 : Hid (cvUnA0 = zer64 20) := ⟨rfl⟩
  refine c_call Try.func39 rfl Try.ntmps39 rfl LEN_ ?_
  refine S_ ?_
  refine c_region ?_
  refine s_memN (m_box BX_ LEN_) APP_ rfl ?_
  refine s_memN (m_alloc al_56 LEN_) APP_ rfl ?_
  refine s_val (v_assignC rfl) rfl ?_
  refine s_nil ?_
  refine S_ ?_
  refine c_region ?_
  refine s_val (v_idxA1 (j := 31) rfl rfl Try.underlying22 sz_5 (by omega)) rfl ?_
  refine s_val (v_load8 rfl rfl row_5 LT_) rfl ?_
  refine s_val (v_shr8n (j := 7) rfl rfl) rfl ?_
  refine s_val (v_eql8 (b := 1#8) rfl rfl) rfl ?_
  refine s_val (v_assignC rfl) rfl ?_
  refine s_nil ?_
  refine S_ ?_
  refine c_region ?_
  refine s_val (v_idxA1 (j := 31) rfl rfl Try.underlying22 sz_5 (by omega)) rfl ?_
  refine s_val (v_load8 rfl rfl row_5 LT_) rfl ?_
  refine s_val (v_and8 (b := 127#8) rfl rfl) rfl ?_
  refine s_val (v_idxA1 (j := 31) rfl rfl Try.underlying22 sz_5 (by omega)) rfl ?_
  refine s_store8 rfl rfl rfl sz_5 LT_ SET_ ?_
  refine s_nil ?_
  have hQ1 : (unY b).length = 5 := LQ_
  refine S_ ?_
  refine c_region ?_
  refine s_val (v_loadR rfl rfl row_22 sz_22 EQ_ (by decide)) rfl ?_
  refine s_evN (e_callR (bs := []) (unY_ev b hb) ok_41 (by kernel_rfl) (by kernel_rfl) rfl VAL_) APP_ rfl ?_
  refine s_memN (m_alloc al_54 LEN_) APP_ rfl ?_
  refine s_storeR rfl rfl rfl rfl sz_54 EQ_ EQ_ SET_ ?_
  refine s_nil ?_
  have hQ2 : (lmBytes (unY b)).length = 32 := LQ_
  refine S_ ?_
  refine c_draw 4 mixed (by kernel_rfl) rfl rfl rfl ?_
  refine h_val (v_loadR rfl rfl row_54 sz_54 EQ_ (by decide)) rfl ?_
  refine h_evN (e_callR (bs := []) (lmBytes_ev (unY b) HYP_) ok_42 (by kernel_rfl) (by kernel_rfl) rfl VAL_) APP_ rfl ?_
  refine h_val (v_loadR rfl rfl row_22 sz_22 EQ_ (by decide)) rfl ?_
  refine h_val (v_neqR8 rfl rfl Try.underlying22 Try.underlying5 sz_5 EQ_ EQ_) rfl ?_
  refine h_nil ?_
  refine s_nil ?_
  refine Q_ ?_
  refine c_condT rfl (unC_eq hC) ?_
  refine S_ ?_
  refine c_region ?_
  refine s_val (v_bld0 bz_56) rfl ?_
  refine s_storeR rfl rfl rfl rfl sz_56 EQ_ EQ_ SET_ ?_
  refine s_val (v_assignC rfl) rfl ?_
  refine s_nil ?_
  refine S_ ?_
  rw [hP_cvUnA0.out]
  exact k_2 (r_row rfl rfl row_56 sz_56 EQ_ (by decide)) (by first | exact r_tmpC rfl | exact r_tmpA rfl) (by first | kernel_rfl | rfl)

@[simp] theorem cvUnA0_len  : (cvUnA0).length = 20 := by
  unfold cvUnA0
  first | (simp (maxDischargeDepth := 9) [*]; done) | (simp (maxDischargeDepth := 9) [*]; omega) | (split <;> (simp (maxDischargeDepth := 9) [*]; done))

attribute [irreducible] cvUnA0
end Go.Proofs.Ytcekjmejppemeaa
/- curve.unpacked (Drawn up by a program.) -/
namespace Go.Proofs.Ytcekjmejppemeaa
open Go.RowKit
def cvUnB0  : List (BitVec 64) := zer64 20
set_option maxRecDepth 100000 in
set_option maxHeartbeats 2000000 in
theorem cvUnB_ev (b : List (BitVec 8)) (hb : b.length = 32) (hC : unC b = true) (hR : unIs b = false) : Ev Try.prog (.call 39 [.agg (.a8 (b))] []) (.val (.tup [.agg (.a64 (cvUnB0)), .c (.val (.bool (false)))]) []) := by
  have hP_cvUnB0 : Hid (cvUnB0 = zer64 20) := ⟨rfl⟩
  refine c_call Try.func39 rfl Try.ntmps39 rfl LEN_ ?_
  refine S_ ?_
  refine c_region ?_
  refine s_memN (m_box BX_ LEN_) APP_ rfl ?_
  refine s_memN (m_alloc al_56 LEN_) APP_ rfl ?_
  refine s_val (v_assignC rfl) rfl ?_
  refine s_nil ?_
  refine S_ ?_
  refine c_region ?_
  refine s_val (v_idxA1 (j := 31) rfl rfl Try.underlying22 sz_5 (by omega)) rfl ?_
  refine s_val (v_load8 rfl rfl row_5 LT_) rfl ?_
  refine s_val (v_shr8n (j := 7) rfl rfl) rfl ?_
  refine s_val (v_eql8 (b := 1#8) rfl rfl) rfl ?_
  refine s_val (v_assignC rfl) rfl ?_
  refine s_nil ?_
  refine S_ ?_
  refine c_region ?_
  refine s_val (v_idxA1 (j := 31) rfl rfl Try.underlying22 sz_5 (by omega)) rfl ?_
  refine s_val (v_load8 rfl rfl row_5 LT_) rfl ?_
  refine s_val (v_and8 (b := 127#8) rfl rfl) rfl ?_
  refine s_val (v_idxA1 (j := 31) rfl rfl Try.underlying22 sz_5 (by omega)) rfl ?_
  refine s_store8 rfl rfl rfl sz_5 LT_ SET_ ?_
  refine s_nil ?_
  have hQ1 : (unY b).length = 5 := LQ_
  refine S_ ?_
  refine c_region ?_
  refine s_val (v_loadR rfl rfl row_22 sz_22 EQ_ (by decide)) rfl ?_
  refine s_evN (e_callR (bs := []) (unY_ev b hb) ok_41 (by kernel_rfl) (by kernel_rfl) rfl VAL_) APP_ rfl ?_
  refine s_memN (m_alloc al_54 LEN_) APP_ rfl ?_
  refine s_storeR rfl rfl rfl rfl sz_54 EQ_ EQ_ SET_ ?_
  refine s_nil ?_
  have hQ2 : (lmBytes (unY b)).length = 32 := LQ_
  refine S_ ?_
  refine c_draw 4 mixed (by kernel_rfl) rfl rfl rfl ?_
  refine h_val (v_loadR rfl rfl row_54 sz_54 EQ_ (by decide)) rfl ?_
  refine h_evN (e_callR (bs := []) (lmBytes_ev (unY b) HYP_) ok_42 (by kernel_rfl) (by kernel_rfl) rfl VAL_) APP_ rfl ?_
  refine h_val (v_loadR rfl rfl row_22 sz_22 EQ_ (by decide)) rfl ?_
  refine h_val (v_neqR8 rfl rfl Try.underlying22 Try.underlying5 sz_5 EQ_ EQ_) rfl ?_
  refine h_nil ?_
  refine s_nil ?_
  refine Q_ ?_
  refine c_condF rfl (unC_eq hC) ?_
  have hQ3 : (unYY b).length = 5 := LQ_
  refine S_ ?_
  refine c_region ?_
  refine s_val (v_loadR rfl rfl row_54 sz_54 EQ_ (by decide)) rfl ?_
  refine s_val (v_loadR rfl rfl row_54 sz_54 EQ_ (by decide)) rfl ?_
  refine s_evN (e_callR (bs := []) (unYY_ev b hb) ok_43 (by kernel_rfl) (by kernel_rfl) rfl VAL_) APP_ rfl ?_
  refine s_memN (m_alloc al_54 LEN_) APP_ rfl ?_
  refine s_storeR rfl rfl rfl rfl sz_54 EQ_ EQ_ SET_ ?_
  refine s_nil ?_
  have hQ4 : (lmSmall 1#64).length = 5 := LQ_
  have hQ5 : (lmSub (unYY b) (lmSmall 1#64)).length = 5 := LQ_
  have hQ6 : (cvBend).length = 5 := LQ_
  have hQ7 : (lmMul cvBend (unYY b)).length = 5 := LQ_
  have hQ8 : (lmAdd (lmMul cvBend (unYY b)) (lmSmall 1#64)).length = 5 := LQ_
  have hQ9 : (lmInv (lmAdd (lmMul cvBend (unYY b)) (lmSmall 1#64))).length = 5 := LQ_
  have hQ10 : (unXX b).length = 5 := LQ_
  have hQ11 : (unR b).length = 5 := LQ_
  refine S_ ?_
  refine c_late 15 13 mixed (by kernel_rfl) (by kernel_rfl) rfl rfl rfl ?_
  refine h_val (v_loadR rfl rfl row_54 sz_54 EQ_ (by decide)) rfl ?_
  refine h_evN (e_callR (bs := []) (lmSmall_ev 1#64) ok_49 (by kernel_rfl) (by kernel_rfl) rfl VAL_) APP_ rfl ?_
  refine h_evN (e_callR (bs := []) (lmSub_ev (unYY b) (lmSmall 1#64) HYP_ HYP_) ok_44 (by kernel_rfl) (by kernel_rfl) rfl VAL_) APP_ rfl ?_
  refine h_evN (e_callR (bs := []) (cvBend_ev) ok_73 (by kernel_rfl) (by kernel_rfl) rfl VAL_) APP_ rfl ?_
  refine h_val (v_loadR rfl rfl row_54 sz_54 EQ_ (by decide)) rfl ?_
  refine h_evN (e_callR (bs := []) (lmMul_ev cvBend (unYY b) HYP_ HYP_) ok_43 (by kernel_rfl) (by kernel_rfl) rfl VAL_) APP_ rfl ?_
  refine h_evN (e_callR (bs := []) (lmSmall_ev 1#64) ok_49 (by kernel_rfl) (by kernel_rfl) rfl VAL_) APP_ rfl ?_
  refine h_evN (e_callR (bs := []) (lmAdd_ev (lmMul cvBend (unYY b)) (lmSmall 1#64) HYP_ HYP_) ok_46 (by kernel_rfl) (by kernel_rfl) rfl VAL_) APP_ rfl ?_
  refine h_evN (e_callR (bs := []) (lmInv_ev (lmAdd (lmMul cvBend (unYY b)) (lmSmall 1#64)) HYP_) ok_45 (by kernel_rfl) (by kernel_rfl) rfl VAL_) APP_ rfl ?_
  refine h_evN (e_callR (bs := []) (unXX_ev b hb) ok_43 (by kernel_rfl) (by kernel_rfl) rfl VAL_) APP_ rfl ?_
  refine h_evN (e_callR (bs := []) (unRoot_ev b false hR hb) ok_47 (by kernel_rfl) (by kernel_rfl) rfl VAL_) APP_ rfl ?_
  refine h_val (v_moveT rfl) rfl ?_
  refine h_val (v_extract rfl rfl) rfl ?_
  refine h_val (v_extract rfl rfl) rfl ?_
  refine h_memN (m_alloc al_54 LEN_) APP_ rfl ?_
  refine h_nil ?_
  refine s_storeR rfl rfl rfl rfl sz_54 EQ_ EQ_ SET_ ?_
  refine s_val (v_assignC rfl) rfl ?_
  refine s_nil ?_
  refine S_ ?_
  refine c_draw 10 mixed (by kernel_rfl) rfl rfl rfl ?_
  refine h_val (v_moveC rfl) rfl ?_
  refine h_val (v_unnotB rfl) rfl ?_
  refine h_val (v_moveC rfl) rfl ?_
  refine h_no GO_ ?_
  refine h_no GO_ ?_
  refine h_no GO_ ?_
  refine h_no GO_ ?_
  refine h_no GO_ ?_
  refine h_no GO_ ?_
  refine h_val (v_pickT rfl PK_ rfl) rfl ?_
  refine h_nil ?_
  refine s_nil ?_
  refine S_ ?_
  refine c_region ?_
  refine s_val (v_bld0 bz_56) rfl ?_
  refine s_storeR rfl rfl rfl rfl sz_56 EQ_ EQ_ SET_ ?_
  refine s_val (v_assignC rfl) rfl ?_
  refine s_nil ?_
  refine S_ ?_
  rw [hP_cvUnB0.out]
  exact k_2 (r_row rfl rfl row_56 sz_56 EQ_ (by decide)) (by first | exact r_tmpC rfl | exact r_tmpA rfl) (by first | kernel_rfl | rfl)

@[simp] theorem cvUnB0_len  : (cvUnB0).length = 20 := by
  unfold cvUnB0
  first | (simp (maxDischargeDepth := 9) [*]; done) | (simp (maxDischargeDepth := 9) [*]; omega) | (split <;> (simp (maxDischargeDepth := 9) [*]; done))

attribute [irreducible] cvUnB0
end Go.Proofs.Ytcekjmejppemeaa
/- curve.unpacked (Drawn up by a program.) -/
namespace Go.Proofs.Ytcekjmejppemeaa
open Go.RowKit
def cvUnD0  : List (BitVec 64) := zer64 20
set_option maxRecDepth 100000 in
set_option maxHeartbeats 2000000 in
theorem cvUnD_ev (b : List (BitVec 8)) (hb : b.length = 32) (hC : unC b = true) (hR : unIs b = true) (hO : unO b = true) (hZ : unZ b = true) : Ev Try.prog (.call 39 [.agg (.a8 (b))] []) (.val (.tup [.agg (.a64 (cvUnD0)), .c (.val (.bool (false)))]) []) := by
  have hP_cvUnD0 : Hid (cvUnD0 = zer64 20) := ⟨rfl⟩
  refine c_call Try.func39 rfl Try.ntmps39 rfl LEN_ ?_
  refine S_ ?_
  refine c_region ?_
  refine s_memN (m_box BX_ LEN_) APP_ rfl ?_
  refine s_memN (m_alloc al_56 LEN_) APP_ rfl ?_
  refine s_val (v_assignC rfl) rfl ?_
  refine s_nil ?_
  have hE1 : ((((nth b 31) >>> 7) == 1#8)) = true := unO_eq hO
  refine S_ ?_
  refine c_region ?_
  refine s_val (v_idxA1 (j := 31) rfl rfl Try.underlying22 sz_5 (by omega)) rfl ?_
  refine s_val (v_load8 rfl rfl row_5 LT_) rfl ?_
  refine s_val (v_shr8n (j := 7) rfl rfl) rfl ?_
  refine s_val (v_bool (v_eql8 (b := 1#8) rfl rfl) hE1) rfl ?_
  refine s_val (v_assignC rfl) rfl ?_
  refine s_nil ?_
  refine S_ ?_
  refine c_region ?_
  refine s_val (v_idxA1 (j := 31) rfl rfl Try.underlying22 sz_5 (by omega)) rfl ?_
  refine s_val (v_load8 rfl rfl row_5 LT_) rfl ?_
  refine s_val (v_and8 (b := 127#8) rfl rfl) rfl ?_
  refine s_val (v_idxA1 (j := 31) rfl rfl Try.underlying22 sz_5 (by omega)) rfl ?_
  refine s_store8 rfl rfl rfl sz_5 LT_ SET_ ?_
  refine s_nil ?_
  have hQ2 : (unY b).length = 5 := LQ_
  refine S_ ?_
  refine c_region ?_
  refine s_val (v_loadR rfl rfl row_22 sz_22 EQ_ (by decide)) rfl ?_
  refine s_evN (e_callR (bs := []) (unY_ev b hb) ok_41 (by kernel_rfl) (by kernel_rfl) rfl VAL_) APP_ rfl ?_
  refine s_memN (m_alloc al_54 LEN_) APP_ rfl ?_
  refine s_storeR rfl rfl rfl rfl sz_54 EQ_ EQ_ SET_ ?_
  refine s_nil ?_
  have hQ3 : (lmBytes (unY b)).length = 32 := LQ_
  refine S_ ?_
  refine c_draw 4 mixed (by kernel_rfl) rfl rfl rfl ?_
  refine h_val (v_loadR rfl rfl row_54 sz_54 EQ_ (by decide)) rfl ?_
  refine h_evN (e_callR (bs := []) (lmBytes_ev (unY b) HYP_) ok_42 (by kernel_rfl) (by kernel_rfl) rfl VAL_) APP_ rfl ?_
  refine h_val (v_loadR rfl rfl row_22 sz_22 EQ_ (by decide)) rfl ?_
  refine h_val (v_neqR8 rfl rfl Try.underlying22 Try.underlying5 sz_5 EQ_ EQ_) rfl ?_
  refine h_nil ?_
  refine s_nil ?_
  refine Q_ ?_
  refine c_condF rfl (unC_eq hC) ?_
  have hQ4 : (unYY b).length = 5 := LQ_
  refine S_ ?_
  refine c_region ?_
  refine s_val (v_loadR rfl rfl row_54 sz_54 EQ_ (by decide)) rfl ?_
  refine s_val (v_loadR rfl rfl row_54 sz_54 EQ_ (by decide)) rfl ?_
  refine s_evN (e_callR (bs := []) (unYY_ev b hb) ok_43 (by kernel_rfl) (by kernel_rfl) rfl VAL_) APP_ rfl ?_
  refine s_memN (m_alloc al_54 LEN_) APP_ rfl ?_
  refine s_storeR rfl rfl rfl rfl sz_54 EQ_ EQ_ SET_ ?_
  refine s_nil ?_
  have hQ5 : (lmSmall 1#64).length = 5 := LQ_
  have hQ6 : (lmSub (unYY b) (lmSmall 1#64)).length = 5 := LQ_
  have hQ7 : (cvBend).length = 5 := LQ_
  have hQ8 : (lmMul cvBend (unYY b)).length = 5 := LQ_
  have hQ9 : (lmAdd (lmMul cvBend (unYY b)) (lmSmall 1#64)).length = 5 := LQ_
  have hQ10 : (lmInv (lmAdd (lmMul cvBend (unYY b)) (lmSmall 1#64))).length = 5 := LQ_
  have hQ11 : (unXX b).length = 5 := LQ_
  have hQ12 : (unR b).length = 5 := LQ_
  refine S_ ?_
  refine c_late 15 13 mixed (by kernel_rfl) (by kernel_rfl) rfl rfl rfl ?_
  refine h_val (v_loadR rfl rfl row_54 sz_54 EQ_ (by decide)) rfl ?_
  refine h_evN (e_callR (bs := []) (lmSmall_ev 1#64) ok_49 (by kernel_rfl) (by kernel_rfl) rfl VAL_) APP_ rfl ?_
  refine h_evN (e_callR (bs := []) (lmSub_ev (unYY b) (lmSmall 1#64) HYP_ HYP_) ok_44 (by kernel_rfl) (by kernel_rfl) rfl VAL_) APP_ rfl ?_
  refine h_evN (e_callR (bs := []) (cvBend_ev) ok_73 (by kernel_rfl) (by kernel_rfl) rfl VAL_) APP_ rfl ?_
  refine h_val (v_loadR rfl rfl row_54 sz_54 EQ_ (by decide)) rfl ?_
  refine h_evN (e_callR (bs := []) (lmMul_ev cvBend (unYY b) HYP_ HYP_) ok_43 (by kernel_rfl) (by kernel_rfl) rfl VAL_) APP_ rfl ?_
  refine h_evN (e_callR (bs := []) (lmSmall_ev 1#64) ok_49 (by kernel_rfl) (by kernel_rfl) rfl VAL_) APP_ rfl ?_
  refine h_evN (e_callR (bs := []) (lmAdd_ev (lmMul cvBend (unYY b)) (lmSmall 1#64) HYP_ HYP_) ok_46 (by kernel_rfl) (by kernel_rfl) rfl VAL_) APP_ rfl ?_
  refine h_evN (e_callR (bs := []) (lmInv_ev (lmAdd (lmMul cvBend (unYY b)) (lmSmall 1#64)) HYP_) ok_45 (by kernel_rfl) (by kernel_rfl) rfl VAL_) APP_ rfl ?_
  refine h_evN (e_callR (bs := []) (unXX_ev b hb) ok_43 (by kernel_rfl) (by kernel_rfl) rfl VAL_) APP_ rfl ?_
  refine h_evN (e_callR (bs := []) (unRoot_ev b true hR hb) ok_47 (by kernel_rfl) (by kernel_rfl) rfl VAL_) APP_ rfl ?_
  refine h_val (v_moveT rfl) rfl ?_
  refine h_val (v_extract rfl rfl) rfl ?_
  refine h_val (v_extract rfl rfl) rfl ?_
  refine h_memN (m_alloc al_54 LEN_) APP_ rfl ?_
  refine h_nil ?_
  refine s_storeR rfl rfl rfl rfl sz_54 EQ_ EQ_ SET_ ?_
  refine s_val (v_assignC rfl) rfl ?_
  refine s_nil ?_
  have hQ13 : (lmSmall 0#64).length = 5 := LQ_
  refine S_ ?_
  refine c_draw 10 mixed (by kernel_rfl) rfl rfl rfl ?_
  refine h_val (v_moveC rfl) rfl ?_
  refine h_val (v_unnotB rfl) rfl ?_
  refine h_val (v_moveC rfl) rfl ?_
  refine h_go GO_ ?_
  refine h_val (v_moveC rfl) rfl ?_
  refine h_go GO_ ?_
  refine h_val (v_moveC rfl) rfl ?_
  refine h_go GO_ ?_
  refine h_val (v_loadR rfl rfl row_54 sz_54 EQ_ (by decide)) rfl ?_
  refine h_go GO_ ?_
  refine h_evN (e_callR (bs := []) (lmSmall_ev 0#64) ok_49 (by kernel_rfl) (by kernel_rfl) rfl VAL_) APP_ rfl ?_
  refine h_go GO_ ?_
  refine h_evN (e_callR (bs := []) (unSame_ev b true hZ hb) ok_75 (by kernel_rfl) (by kernel_rfl) rfl VAL_) APP_ rfl ?_
  refine h_go GO_ ?_
  refine h_val (v_pickT rfl PK_ rfl) rfl ?_
  refine h_val (v_pickF rfl PK_ rfl) rfl ?_
  refine h_nil ?_
  refine s_nil ?_
  refine S_ ?_
  refine c_region ?_
  refine s_val (v_bld0 bz_56) rfl ?_
  refine s_storeR rfl rfl rfl rfl sz_56 EQ_ EQ_ SET_ ?_
  refine s_val (v_assignC rfl) rfl ?_
  refine s_nil ?_
  refine S_ ?_
  rw [hP_cvUnD0.out]
  exact k_2 (r_row rfl rfl row_56 sz_56 EQ_ (by decide)) (by first | exact r_tmpC rfl | exact r_tmpA rfl) (by first | kernel_rfl | rfl)

@[simp] theorem cvUnD0_len  : (cvUnD0).length = 20 := by
  unfold cvUnD0
  first | (simp (maxDischargeDepth := 9) [*]; done) | (simp (maxDischargeDepth := 9) [*]; omega) | (split <;> (simp (maxDischargeDepth := 9) [*]; done))

attribute [irreducible] cvUnD0
end Go.Proofs.Ytcekjmejppemeaa
/- curve.unpacked (Drawn up by a program.) -/
namespace Go.Proofs.Ytcekjmejppemeaa
open Go.RowKit
def cvUnE0 (b : List (BitVec 8)) : List (BitVec 64) := (if (!((((nth (lmBytes (unR b)) 0) &&& 1#8) == 1#8) == false)) = true then lmSub (lmSmall 0#64) (unR b) else unR b) ++ (unY b) ++ (lmSmall 1#64) ++ (lmMul (if (!((((nth (lmBytes (unR b)) 0) &&& 1#8) == 1#8) == false)) = true then lmSub (lmSmall 0#64) (unR b) else unR b) (unY b))
set_option maxRecDepth 100000 in
set_option maxHeartbeats 2000000 in
theorem cvUnE_ev (b : List (BitVec 8)) (hb : b.length = 32) (hC : unC b = true) (hR : unIs b = true) (hO : unO b = false) : Ev Try.prog (.call 39 [.agg (.a8 (b))] []) (.val (.tup [.agg (.a64 (cvUnE0 b)), .c (.val (.bool (true)))]) []) := by
  have hP_cvUnE0 : Hid (cvUnE0 b = (if (!((((nth (lmBytes (unR b)) 0) &&& 1#8) == 1#8) == false)) = true then lmSub (lmSmall 0#64) (unR b) else unR b) ++ (unY b) ++ (lmSmall 1#64) ++ (lmMul (if (!((((nth (lmBytes (unR b)) 0) &&& 1#8) == 1#8) == false)) = true then lmSub (lmSmall 0#64) (unR b) else unR b) (unY b))) := ⟨rfl⟩
  refine c_call Try.func39 rfl Try.ntmps39 rfl LEN_ ?_
  refine S_ ?_
  refine c_region ?_
  refine s_memN (m_box BX_ LEN_) APP_ rfl ?_
  refine s_memN (m_alloc al_56 LEN_) APP_ rfl ?_
  refine s_val (v_assignC rfl) rfl ?_
  refine s_nil ?_
  have hE1 : ((((nth b 31) >>> 7) == 1#8)) = false := unO_eq hO
  refine S_ ?_
  refine c_region ?_
  refine s_val (v_idxA1 (j := 31) rfl rfl Try.underlying22 sz_5 (by omega)) rfl ?_
  refine s_val (v_load8 rfl rfl row_5 LT_) rfl ?_
  refine s_val (v_shr8n (j := 7) rfl rfl) rfl ?_
  refine s_val (v_bool (v_eql8 (b := 1#8) rfl rfl) hE1) rfl ?_
  refine s_val (v_assignC rfl) rfl ?_
  refine s_nil ?_
  refine S_ ?_
  refine c_region ?_
  refine s_val (v_idxA1 (j := 31) rfl rfl Try.underlying22 sz_5 (by omega)) rfl ?_
  refine s_val (v_load8 rfl rfl row_5 LT_) rfl ?_
  refine s_val (v_and8 (b := 127#8) rfl rfl) rfl ?_
  refine s_val (v_idxA1 (j := 31) rfl rfl Try.underlying22 sz_5 (by omega)) rfl ?_
  refine s_store8 rfl rfl rfl sz_5 LT_ SET_ ?_
  refine s_nil ?_
  have hQ2 : (unY b).length = 5 := LQ_
  refine S_ ?_
  refine c_region ?_
  refine s_val (v_loadR rfl rfl row_22 sz_22 EQ_ (by decide)) rfl ?_
  refine s_evN (e_callR (bs := []) (unY_ev b hb) ok_41 (by kernel_rfl) (by kernel_rfl) rfl VAL_) APP_ rfl ?_
  refine s_memN (m_alloc al_54 LEN_) APP_ rfl ?_
  refine s_storeR rfl rfl rfl rfl sz_54 EQ_ EQ_ SET_ ?_
  refine s_nil ?_
  have hQ3 : (lmBytes (unY b)).length = 32 := LQ_
  refine S_ ?_
  refine c_draw 4 mixed (by kernel_rfl) rfl rfl rfl ?_
  refine h_val (v_loadR rfl rfl row_54 sz_54 EQ_ (by decide)) rfl ?_
  refine h_evN (e_callR (bs := []) (lmBytes_ev (unY b) HYP_) ok_42 (by kernel_rfl) (by kernel_rfl) rfl VAL_) APP_ rfl ?_
  refine h_val (v_loadR rfl rfl row_22 sz_22 EQ_ (by decide)) rfl ?_
  refine h_val (v_neqR8 rfl rfl Try.underlying22 Try.underlying5 sz_5 EQ_ EQ_) rfl ?_
  refine h_nil ?_
  refine s_nil ?_
  refine Q_ ?_
  refine c_condF rfl (unC_eq hC) ?_
  have hQ4 : (unYY b).length = 5 := LQ_
  refine S_ ?_
  refine c_region ?_
  refine s_val (v_loadR rfl rfl row_54 sz_54 EQ_ (by decide)) rfl ?_
  refine s_val (v_loadR rfl rfl row_54 sz_54 EQ_ (by decide)) rfl ?_
  refine s_evN (e_callR (bs := []) (unYY_ev b hb) ok_43 (by kernel_rfl) (by kernel_rfl) rfl VAL_) APP_ rfl ?_
  refine s_memN (m_alloc al_54 LEN_) APP_ rfl ?_
  refine s_storeR rfl rfl rfl rfl sz_54 EQ_ EQ_ SET_ ?_
  refine s_nil ?_
  have hQ5 : (lmSmall 1#64).length = 5 := LQ_
  have hQ6 : (lmSub (unYY b) (lmSmall 1#64)).length = 5 := LQ_
  have hQ7 : (cvBend).length = 5 := LQ_
  have hQ8 : (lmMul cvBend (unYY b)).length = 5 := LQ_
  have hQ9 : (lmAdd (lmMul cvBend (unYY b)) (lmSmall 1#64)).length = 5 := LQ_
  have hQ10 : (lmInv (lmAdd (lmMul cvBend (unYY b)) (lmSmall 1#64))).length = 5 := LQ_
  have hQ11 : (unXX b).length = 5 := LQ_
  have hQ12 : (unR b).length = 5 := LQ_
  refine S_ ?_
  refine c_late 15 13 mixed (by kernel_rfl) (by kernel_rfl) rfl rfl rfl ?_
  refine h_val (v_loadR rfl rfl row_54 sz_54 EQ_ (by decide)) rfl ?_
  refine h_evN (e_callR (bs := []) (lmSmall_ev 1#64) ok_49 (by kernel_rfl) (by kernel_rfl) rfl VAL_) APP_ rfl ?_
  refine h_evN (e_callR (bs := []) (lmSub_ev (unYY b) (lmSmall 1#64) HYP_ HYP_) ok_44 (by kernel_rfl) (by kernel_rfl) rfl VAL_) APP_ rfl ?_
  refine h_evN (e_callR (bs := []) (cvBend_ev) ok_73 (by kernel_rfl) (by kernel_rfl) rfl VAL_) APP_ rfl ?_
  refine h_val (v_loadR rfl rfl row_54 sz_54 EQ_ (by decide)) rfl ?_
  refine h_evN (e_callR (bs := []) (lmMul_ev cvBend (unYY b) HYP_ HYP_) ok_43 (by kernel_rfl) (by kernel_rfl) rfl VAL_) APP_ rfl ?_
  refine h_evN (e_callR (bs := []) (lmSmall_ev 1#64) ok_49 (by kernel_rfl) (by kernel_rfl) rfl VAL_) APP_ rfl ?_
  refine h_evN (e_callR (bs := []) (lmAdd_ev (lmMul cvBend (unYY b)) (lmSmall 1#64) HYP_ HYP_) ok_46 (by kernel_rfl) (by kernel_rfl) rfl VAL_) APP_ rfl ?_
  refine h_evN (e_callR (bs := []) (lmInv_ev (lmAdd (lmMul cvBend (unYY b)) (lmSmall 1#64)) HYP_) ok_45 (by kernel_rfl) (by kernel_rfl) rfl VAL_) APP_ rfl ?_
  refine h_evN (e_callR (bs := []) (unXX_ev b hb) ok_43 (by kernel_rfl) (by kernel_rfl) rfl VAL_) APP_ rfl ?_
  refine h_evN (e_callR (bs := []) (unRoot_ev b true hR hb) ok_47 (by kernel_rfl) (by kernel_rfl) rfl VAL_) APP_ rfl ?_
  refine h_val (v_moveT rfl) rfl ?_
  refine h_val (v_extract rfl rfl) rfl ?_
  refine h_val (v_extract rfl rfl) rfl ?_
  refine h_memN (m_alloc al_54 LEN_) APP_ rfl ?_
  refine h_nil ?_
  refine s_storeR rfl rfl rfl rfl sz_54 EQ_ EQ_ SET_ ?_
  refine s_val (v_assignC rfl) rfl ?_
  refine s_nil ?_
  refine S_ ?_
  refine c_draw 10 mixed (by kernel_rfl) rfl rfl rfl ?_
  refine h_val (v_moveC rfl) rfl ?_
  refine h_val (v_unnotB rfl) rfl ?_
  refine h_val (v_moveC rfl) rfl ?_
  refine h_go GO_ ?_
  refine h_val (v_moveC rfl) rfl ?_
  refine h_go GO_ ?_
  refine h_val (v_moveC rfl) rfl ?_
  refine h_no GO_ ?_
  refine h_no GO_ ?_
  refine h_no GO_ ?_
  refine h_go GO_ ?_
  refine h_val (v_pickF rfl PK_ rfl) rfl ?_
  refine h_val (v_pickF rfl PK_ rfl) rfl ?_
  refine h_nil ?_
  refine s_nil ?_
  refine S_ ?_
  refine c_region ?_
  refine s_val (v_loadR rfl rfl row_54 sz_54 EQ_ (by decide)) rfl ?_
  refine s_evN (e_callR (bs := []) (lmOdd_ev (unR b) HYP_) ok_48 (by kernel_rfl) (by kernel_rfl) rfl VAL_) APP_ rfl ?_
  refine s_val (v_moveC rfl) rfl ?_
  refine s_val (v_neqB rfl rfl Try.underlying4) rfl ?_
  refine s_nil ?_
  refine Q_ ?_
  refine c_join [2, 5, 7] (fun (zz : List (BitVec 64)) => ⟨66, keepT [2, 5, 7] [.c (.ptr 0 0), .c (.ptr 1 0), .c (.ptr 2 0)], [.row true (.a64 (zer64 20)), .row true (.a64 (unY b)), .row true (.a64 (zz))]⟩) (if (!((((nth (lmBytes (unR b)) 0) &&& 1#8) == 1#8) == false)) = true then lmSub (lmSmall 0#64) (unR b) else unR b) rfl (fun hb => ?_) (fun hb => ?_) ?_
  · -- the test is True
    have hQ14 : (lmSmall 0#64).length = 5 := LQ_
    have hQ15 : (lmSub (lmSmall 0#64) (unR b)).length = 5 := LQ_
    refine S_ ?_
    refine c_draw 3 mixed (by kernel_rfl) rfl rfl rfl ?_
    refine h_evN (e_callR (bs := []) (lmSmall_ev 0#64) ok_49 (by kernel_rfl) (by kernel_rfl) rfl VAL_) APP_ rfl ?_
    refine h_val (v_loadR rfl rfl row_54 sz_54 EQ_ (by decide)) rfl ?_
    refine h_evN (e_callR (bs := []) (lmSub_ev (lmSmall 0#64) (unR b) HYP_ HYP_) ok_44 (by kernel_rfl) (by kernel_rfl) rfl VAL_) APP_ rfl ?_
    refine h_nil ?_
    refine s_storeR rfl rfl rfl rfl sz_54 EQ_ EQ_ SET_ ?_
    refine s_nil ?_
    refine S_ ?_
    refine ⟨(lmSub (lmSmall 0#64) (unR b)), by kernel_rfl, ?_⟩
    rw [if_pos (hb)]
  · -- the test is False
    refine S_ ?_
    refine ⟨(unR b), by kernel_rfl, ?_⟩
    rw [if_neg (by first | (rw [hb]; decide) | simp [hb])]
  have hJ13 : (if (!((((nth (lmBytes (unR b)) 0) &&& 1#8) == 1#8) == false)) = true then lmSub (lmSmall 0#64) (unR b) else unR b).length = 5 := by split <;> simp [*]
  generalize (if (!((((nth (lmBytes (unR b)) 0) &&& 1#8) == 1#8) == false)) = true then lmSub (lmSmall 0#64) (unR b) else unR b) = J13 at *
  have hQ16 : (lmSmall 1#64).length = 5 := LQ_
  have hQ17 : (lmMul J13 (unY b)).length = 5 := LQ_
  refine S_ ?_
  refine c_draw 7 mixed (by kernel_rfl) rfl rfl rfl ?_
  refine h_val (v_loadR rfl rfl row_54 sz_54 EQ_ (by decide)) rfl ?_
  refine h_val (v_loadR rfl rfl row_54 sz_54 EQ_ (by decide)) rfl ?_
  refine h_evN (e_callR (bs := []) (lmSmall_ev 1#64) ok_49 (by kernel_rfl) (by kernel_rfl) rfl VAL_) APP_ rfl ?_
  refine h_val (v_loadR rfl rfl row_54 sz_54 EQ_ (by decide)) rfl ?_
  refine h_val (v_loadR rfl rfl row_54 sz_54 EQ_ (by decide)) rfl ?_
  refine h_evN (e_callR (bs := []) (lmMul_ev J13 (unY b) HYP_ HYP_) ok_43 (by kernel_rfl) (by kernel_rfl) rfl VAL_) APP_ rfl ?_
  refine h_val (v_bld4 rfl rfl rfl rfl (bs_56 EQL_ EQL_ EQL_ EQL_)) rfl ?_
  refine h_nil ?_
  refine s_storeR rfl rfl rfl rfl sz_56 EQ_ EQ_ SET_ ?_
  refine s_val (v_assignC rfl) rfl ?_
  refine s_nil ?_
  refine S_ ?_
  rw [hP_cvUnE0.out]
  exact k_2 (r_row rfl rfl row_56 sz_56 EQ_ (by decide)) (by first | exact r_tmpC rfl | exact r_tmpA rfl) (by first | kernel_rfl | rfl)

@[simp] theorem cvUnE0_len (b : List (BitVec 8)) (hb : b.length = 32) : (cvUnE0 b).length = 20 := by
  unfold cvUnE0
  first | (simp (maxDischargeDepth := 9) [*]; done) | (simp (maxDischargeDepth := 9) [*]; omega) | (split <;> (simp (maxDischargeDepth := 9) [*]; done))

attribute [irreducible] cvUnE0
end Go.Proofs.Ytcekjmejppemeaa
/- curve.unpacked (Drawn up by a program.) -/
namespace Go.Proofs.Ytcekjmejppemeaa
open Go.RowKit
def cvUnF0 (b : List (BitVec 8)) : List (BitVec 64) := (if (!((((nth (lmBytes (unR b)) 0) &&& 1#8) == 1#8) == true)) = true then lmSub (lmSmall 0#64) (unR b) else unR b) ++ (unY b) ++ (lmSmall 1#64) ++ (lmMul (if (!((((nth (lmBytes (unR b)) 0) &&& 1#8) == 1#8) == true)) = true then lmSub (lmSmall 0#64) (unR b) else unR b) (unY b))
set_option maxRecDepth 100000 in
set_option maxHeartbeats 2000000 in
theorem cvUnF_ev (b : List (BitVec 8)) (hb : b.length = 32) (hC : unC b = true) (hR : unIs b = true) (hO : unO b = true) (hZ : unZ b = false) : Ev Try.prog (.call 39 [.agg (.a8 (b))] []) (.val (.tup [.agg (.a64 (cvUnF0 b)), .c (.val (.bool (true)))]) []) := by
  have hP_cvUnF0 : Hid (cvUnF0 b = (if (!((((nth (lmBytes (unR b)) 0) &&& 1#8) == 1#8) == true)) = true then lmSub (lmSmall 0#64) (unR b) else unR b) ++ (unY b) ++ (lmSmall 1#64) ++ (lmMul (if (!((((nth (lmBytes (unR b)) 0) &&& 1#8) == 1#8) == true)) = true then lmSub (lmSmall 0#64) (unR b) else unR b) (unY b))) := ⟨rfl⟩
  refine c_call Try.func39 rfl Try.ntmps39 rfl LEN_ ?_
  refine S_ ?_
  refine c_region ?_
  refine s_memN (m_box BX_ LEN_) APP_ rfl ?_
  refine s_memN (m_alloc al_56 LEN_) APP_ rfl ?_
  refine s_val (v_assignC rfl) rfl ?_
  refine s_nil ?_
  have hE1 : ((((nth b 31) >>> 7) == 1#8)) = true := unO_eq hO
  refine S_ ?_
  refine c_region ?_
  refine s_val (v_idxA1 (j := 31) rfl rfl Try.underlying22 sz_5 (by omega)) rfl ?_
  refine s_val (v_load8 rfl rfl row_5 LT_) rfl ?_
  refine s_val (v_shr8n (j := 7) rfl rfl) rfl ?_
  refine s_val (v_bool (v_eql8 (b := 1#8) rfl rfl) hE1) rfl ?_
  refine s_val (v_assignC rfl) rfl ?_
  refine s_nil ?_
  refine S_ ?_
  refine c_region ?_
  refine s_val (v_idxA1 (j := 31) rfl rfl Try.underlying22 sz_5 (by omega)) rfl ?_
  refine s_val (v_load8 rfl rfl row_5 LT_) rfl ?_
  refine s_val (v_and8 (b := 127#8) rfl rfl) rfl ?_
  refine s_val (v_idxA1 (j := 31) rfl rfl Try.underlying22 sz_5 (by omega)) rfl ?_
  refine s_store8 rfl rfl rfl sz_5 LT_ SET_ ?_
  refine s_nil ?_
  have hQ2 : (unY b).length = 5 := LQ_
  refine S_ ?_
  refine c_region ?_
  refine s_val (v_loadR rfl rfl row_22 sz_22 EQ_ (by decide)) rfl ?_
  refine s_evN (e_callR (bs := []) (unY_ev b hb) ok_41 (by kernel_rfl) (by kernel_rfl) rfl VAL_) APP_ rfl ?_
  refine s_memN (m_alloc al_54 LEN_) APP_ rfl ?_
  refine s_storeR rfl rfl rfl rfl sz_54 EQ_ EQ_ SET_ ?_
  refine s_nil ?_
  have hQ3 : (lmBytes (unY b)).length = 32 := LQ_
  refine S_ ?_
  refine c_draw 4 mixed (by kernel_rfl) rfl rfl rfl ?_
  refine h_val (v_loadR rfl rfl row_54 sz_54 EQ_ (by decide)) rfl ?_
  refine h_evN (e_callR (bs := []) (lmBytes_ev (unY b) HYP_) ok_42 (by kernel_rfl) (by kernel_rfl) rfl VAL_) APP_ rfl ?_
  refine h_val (v_loadR rfl rfl row_22 sz_22 EQ_ (by decide)) rfl ?_
  refine h_val (v_neqR8 rfl rfl Try.underlying22 Try.underlying5 sz_5 EQ_ EQ_) rfl ?_
  refine h_nil ?_
  refine s_nil ?_
  refine Q_ ?_
  refine c_condF rfl (unC_eq hC) ?_
  have hQ4 : (unYY b).length = 5 := LQ_
  refine S_ ?_
  refine c_region ?_
  refine s_val (v_loadR rfl rfl row_54 sz_54 EQ_ (by decide)) rfl ?_
  refine s_val (v_loadR rfl rfl row_54 sz_54 EQ_ (by decide)) rfl ?_
  refine s_evN (e_callR (bs := []) (unYY_ev b hb) ok_43 (by kernel_rfl) (by kernel_rfl) rfl VAL_) APP_ rfl ?_
  refine s_memN (m_alloc al_54 LEN_) APP_ rfl ?_
  refine s_storeR rfl rfl rfl rfl sz_54 EQ_ EQ_ SET_ ?_
  refine s_nil ?_
  have hQ5 : (lmSmall 1#64).length = 5 := LQ_
  have hQ6 : (lmSub (unYY b) (lmSmall 1#64)).length = 5 := LQ_
  have hQ7 : (cvBend).length = 5 := LQ_
  have hQ8 : (lmMul cvBend (unYY b)).length = 5 := LQ_
  have hQ9 : (lmAdd (lmMul cvBend (unYY b)) (lmSmall 1#64)).length = 5 := LQ_
  have hQ10 : (lmInv (lmAdd (lmMul cvBend (unYY b)) (lmSmall 1#64))).length = 5 := LQ_
  have hQ11 : (unXX b).length = 5 := LQ_
  have hQ12 : (unR b).length = 5 := LQ_
  refine S_ ?_
  refine c_late 15 13 mixed (by kernel_rfl) (by kernel_rfl) rfl rfl rfl ?_
  refine h_val (v_loadR rfl rfl row_54 sz_54 EQ_ (by decide)) rfl ?_
  refine h_evN (e_callR (bs := []) (lmSmall_ev 1#64) ok_49 (by kernel_rfl) (by kernel_rfl) rfl VAL_) APP_ rfl ?_
  refine h_evN (e_callR (bs := []) (lmSub_ev (unYY b) (lmSmall 1#64) HYP_ HYP_) ok_44 (by kernel_rfl) (by kernel_rfl) rfl VAL_) APP_ rfl ?_
  refine h_evN (e_callR (bs := []) (cvBend_ev) ok_73 (by kernel_rfl) (by kernel_rfl) rfl VAL_) APP_ rfl ?_
  refine h_val (v_loadR rfl rfl row_54 sz_54 EQ_ (by decide)) rfl ?_
  refine h_evN (e_callR (bs := []) (lmMul_ev cvBend (unYY b) HYP_ HYP_) ok_43 (by kernel_rfl) (by kernel_rfl) rfl VAL_) APP_ rfl ?_
  refine h_evN (e_callR (bs := []) (lmSmall_ev 1#64) ok_49 (by kernel_rfl) (by kernel_rfl) rfl VAL_) APP_ rfl ?_
  refine h_evN (e_callR (bs := []) (lmAdd_ev (lmMul cvBend (unYY b)) (lmSmall 1#64) HYP_ HYP_) ok_46 (by kernel_rfl) (by kernel_rfl) rfl VAL_) APP_ rfl ?_
  refine h_evN (e_callR (bs := []) (lmInv_ev (lmAdd (lmMul cvBend (unYY b)) (lmSmall 1#64)) HYP_) ok_45 (by kernel_rfl) (by kernel_rfl) rfl VAL_) APP_ rfl ?_
  refine h_evN (e_callR (bs := []) (unXX_ev b hb) ok_43 (by kernel_rfl) (by kernel_rfl) rfl VAL_) APP_ rfl ?_
  refine h_evN (e_callR (bs := []) (unRoot_ev b true hR hb) ok_47 (by kernel_rfl) (by kernel_rfl) rfl VAL_) APP_ rfl ?_
  refine h_val (v_moveT rfl) rfl ?_
  refine h_val (v_extract rfl rfl) rfl ?_
  refine h_val (v_extract rfl rfl) rfl ?_
  refine h_memN (m_alloc al_54 LEN_) APP_ rfl ?_
  refine h_nil ?_
  refine s_storeR rfl rfl rfl rfl sz_54 EQ_ EQ_ SET_ ?_
  refine s_val (v_assignC rfl) rfl ?_
  refine s_nil ?_
  have hQ13 : (lmSmall 0#64).length = 5 := LQ_
  refine S_ ?_
  refine c_draw 10 mixed (by kernel_rfl) rfl rfl rfl ?_
  refine h_val (v_moveC rfl) rfl ?_
  refine h_val (v_unnotB rfl) rfl ?_
  refine h_val (v_moveC rfl) rfl ?_
  refine h_go GO_ ?_
  refine h_val (v_moveC rfl) rfl ?_
  refine h_go GO_ ?_
  refine h_val (v_moveC rfl) rfl ?_
  refine h_go GO_ ?_
  refine h_val (v_loadR rfl rfl row_54 sz_54 EQ_ (by decide)) rfl ?_
  refine h_go GO_ ?_
  refine h_evN (e_callR (bs := []) (lmSmall_ev 0#64) ok_49 (by kernel_rfl) (by kernel_rfl) rfl VAL_) APP_ rfl ?_
  refine h_go GO_ ?_
  refine h_evN (e_callR (bs := []) (unSame_ev b false hZ hb) ok_75 (by kernel_rfl) (by kernel_rfl) rfl VAL_) APP_ rfl ?_
  refine h_go GO_ ?_
  refine h_val (v_pickT rfl PK_ rfl) rfl ?_
  refine h_val (v_pickF rfl PK_ rfl) rfl ?_
  refine h_nil ?_
  refine s_nil ?_
  refine S_ ?_
  refine c_region ?_
  refine s_val (v_loadR rfl rfl row_54 sz_54 EQ_ (by decide)) rfl ?_
  refine s_evN (e_callR (bs := []) (lmOdd_ev (unR b) HYP_) ok_48 (by kernel_rfl) (by kernel_rfl) rfl VAL_) APP_ rfl ?_
  refine s_val (v_moveC rfl) rfl ?_
  refine s_val (v_neqB rfl rfl Try.underlying4) rfl ?_
  refine s_nil ?_
  refine Q_ ?_
  refine c_join [2, 5, 7] (fun (zz : List (BitVec 64)) => ⟨66, keepT [2, 5, 7] [.c (.ptr 0 0), .c (.ptr 1 0), .c (.ptr 2 0)], [.row true (.a64 (zer64 20)), .row true (.a64 (unY b)), .row true (.a64 (zz))]⟩) (if (!((((nth (lmBytes (unR b)) 0) &&& 1#8) == 1#8) == true)) = true then lmSub (lmSmall 0#64) (unR b) else unR b) rfl (fun hb => ?_) (fun hb => ?_) ?_
  · -- the test is True
    have hQ15 : (lmSmall 0#64).length = 5 := LQ_
    have hQ16 : (lmSub (lmSmall 0#64) (unR b)).length = 5 := LQ_
    refine S_ ?_
    refine c_draw 3 mixed (by kernel_rfl) rfl rfl rfl ?_
    refine h_evN (e_callR (bs := []) (lmSmall_ev 0#64) ok_49 (by kernel_rfl) (by kernel_rfl) rfl VAL_) APP_ rfl ?_
    refine h_val (v_loadR rfl rfl row_54 sz_54 EQ_ (by decide)) rfl ?_
    refine h_evN (e_callR (bs := []) (lmSub_ev (lmSmall 0#64) (unR b) HYP_ HYP_) ok_44 (by kernel_rfl) (by kernel_rfl) rfl VAL_) APP_ rfl ?_
    refine h_nil ?_
    refine s_storeR rfl rfl rfl rfl sz_54 EQ_ EQ_ SET_ ?_
    refine s_nil ?_
    refine S_ ?_
    refine ⟨(lmSub (lmSmall 0#64) (unR b)), by kernel_rfl, ?_⟩
    rw [if_pos (hb)]
  · -- the test is False
    refine S_ ?_
    refine ⟨(unR b), by kernel_rfl, ?_⟩
    rw [if_neg (by first | (rw [hb]; decide) | simp [hb])]
  have hJ14 : (if (!((((nth (lmBytes (unR b)) 0) &&& 1#8) == 1#8) == true)) = true then lmSub (lmSmall 0#64) (unR b) else unR b).length = 5 := by split <;> simp [*]
  generalize (if (!((((nth (lmBytes (unR b)) 0) &&& 1#8) == 1#8) == true)) = true then lmSub (lmSmall 0#64) (unR b) else unR b) = J14 at *
  have hQ17 : (lmSmall 1#64).length = 5 := LQ_
  have hQ18 : (lmMul J14 (unY b)).length = 5 := LQ_
  refine S_ ?_
  refine c_draw 7 mixed (by kernel_rfl) rfl rfl rfl ?_
  refine h_val (v_loadR rfl rfl row_54 sz_54 EQ_ (by decide)) rfl ?_
  refine h_val (v_loadR rfl rfl row_54 sz_54 EQ_ (by decide)) rfl ?_
  refine h_evN (e_callR (bs := []) (lmSmall_ev 1#64) ok_49 (by kernel_rfl) (by kernel_rfl) rfl VAL_) APP_ rfl ?_
  refine h_val (v_loadR rfl rfl row_54 sz_54 EQ_ (by decide)) rfl ?_
  refine h_val (v_loadR rfl rfl row_54 sz_54 EQ_ (by decide)) rfl ?_
  refine h_evN (e_callR (bs := []) (lmMul_ev J14 (unY b) HYP_ HYP_) ok_43 (by kernel_rfl) (by kernel_rfl) rfl VAL_) APP_ rfl ?_
  refine h_val (v_bld4 rfl rfl rfl rfl (bs_56 EQL_ EQL_ EQL_ EQL_)) rfl ?_
  refine h_nil ?_
  refine s_storeR rfl rfl rfl rfl sz_56 EQ_ EQ_ SET_ ?_
  refine s_val (v_assignC rfl) rfl ?_
  refine s_nil ?_
  refine S_ ?_
  rw [hP_cvUnF0.out]
  exact k_2 (r_row rfl rfl row_56 sz_56 EQ_ (by decide)) (by first | exact r_tmpC rfl | exact r_tmpA rfl) (by first | kernel_rfl | rfl)

@[simp] theorem cvUnF0_len (b : List (BitVec 8)) (hb : b.length = 32) : (cvUnF0 b).length = 20 := by
  unfold cvUnF0
  first | (simp (maxDischargeDepth := 9) [*]; done) | (simp (maxDischargeDepth := 9) [*]; omega) | (split <;> (simp (maxDischargeDepth := 9) [*]; done))

attribute [irreducible] cvUnF0
end Go.Proofs.Ytcekjmejppemeaa
/- curve.unpacked, told at once. (Drawn up by a program.) -/
namespace Go.Proofs.Ytcekjmejppemeaa
open Go.RowKit
def unOk (b : List (BitVec 8)) : Bool := unC b && (unIs b && !(unO b && unZ b))
def unP (b : List (BitVec 8)) : List (BitVec 64) := if unOk b = true then (if unO b = true then cvUnF0 b else cvUnE0 b) else zer64 20
@[simp] theorem unP_len (b : List (BitVec 8)) (hb : b.length = 32) : (unP b).length = 20 := by
  unfold unP
  split
  · split
    · exact cvUnF0_len b hb
    · exact cvUnE0_len b hb
  · exact List.length_replicate ..
theorem un_ev (b : List (BitVec 8)) (hb : b.length = 32) : Ev Try.prog (.call 39 [.agg (.a8 (b))] []) (.val (.tup [.agg (.a64 (unP b)), .c (.val (.bool (unOk b)))]) []) := by
  cases hC : unC b with
  | false =>
    have e : unOk b = false := by unfold unOk; rw [hC]; rfl
    have e2 : unP b = zer64 20 := by unfold unP; rw [e]; rfl
    have h := cvUnA_ev b hb hC
    unfold cvUnA0 at h
    rw [e, e2]; exact h
  | true =>
    cases hR : unIs b with
    | false =>
      have e : unOk b = false := by unfold unOk; rw [hC, hR]; rfl
      have e2 : unP b = zer64 20 := by unfold unP; rw [e]; rfl
      have h := cvUnB_ev b hb hC hR
      unfold cvUnB0 at h
      rw [e, e2]; exact h
    | true =>
      cases hO : unO b with
      | false =>
        have e : unOk b = true := by unfold unOk; rw [hC, hR, hO]; rfl
        have e2 : unP b = cvUnE0 b := by unfold unP; rw [e, hO]; rfl
        rw [e, e2]; exact cvUnE_ev b hb hC hR hO
      | true =>
        cases hZ : unZ b with
        | true =>
          have e : unOk b = false := by unfold unOk; rw [hC, hR, hO, hZ]; rfl
          have e2 : unP b = zer64 20 := by unfold unP; rw [e]; rfl
          have h := cvUnD_ev b hb hC hR hO hZ
          unfold cvUnD0 at h
          rw [e, e2]; exact h
        | false =>
          have e : unOk b = true := by unfold unOk; rw [hC, hR, hO, hZ]; rfl
          have e2 : unP b = cvUnF0 b := by unfold unP; rw [e, hO]; rfl
          rw [e, e2]; exact cvUnF_ev b hb hC hR hO hZ
end Go.Proofs.Ytcekjmejppemeaa
/- curve.plus (Drawn up by a program.) -/
namespace Go.Proofs.Ytcekjmejppemeaa
open Go.RowKit
def cvPlus (p : List (BitVec 64)) (q : List (BitVec 64)) (k : List (BitVec 64)) : List (BitVec 64) := (lmMul (lmSub (lmMul (lmAdd (cut p 5 5) (cut p 0 5)) (lmAdd (cut q 5 5) (cut q 0 5))) (lmMul (lmSub (cut p 5 5) (cut p 0 5)) (lmSub (cut q 5 5) (cut q 0 5)))) (lmSub (lmMul (lmAdd (cut p 10 5) (cut p 10 5)) (cut q 10 5)) (lmMul (lmMul k (cut p 15 5)) (cut q 15 5)))) ++ (lmMul (lmAdd (lmMul (lmAdd (cut p 10 5) (cut p 10 5)) (cut q 10 5)) (lmMul (lmMul k (cut p 15 5)) (cut q 15 5))) (lmAdd (lmMul (lmAdd (cut p 5 5) (cut p 0 5)) (lmAdd (cut q 5 5) (cut q 0 5))) (lmMul (lmSub (cut p 5 5) (cut p 0 5)) (lmSub (cut q 5 5) (cut q 0 5))))) ++ (lmMul (lmSub (lmMul (lmAdd (cut p 10 5) (cut p 10 5)) (cut q 10 5)) (lmMul (lmMul k (cut p 15 5)) (cut q 15 5))) (lmAdd (lmMul (lmAdd (cut p 10 5) (cut p 10 5)) (cut q 10 5)) (lmMul (lmMul k (cut p 15 5)) (cut q 15 5)))) ++ (lmMul (lmSub (lmMul (lmAdd (cut p 5 5) (cut p 0 5)) (lmAdd (cut q 5 5) (cut q 0 5))) (lmMul (lmSub (cut p 5 5) (cut p 0 5)) (lmSub (cut q 5 5) (cut q 0 5)))) (lmAdd (lmMul (lmAdd (cut p 5 5) (cut p 0 5)) (lmAdd (cut q 5 5) (cut q 0 5))) (lmMul (lmSub (cut p 5 5) (cut p 0 5)) (lmSub (cut q 5 5) (cut q 0 5)))))
set_option maxRecDepth 100000 in
set_option maxHeartbeats 2000000 in
theorem cvPlus_ev (p : List (BitVec 64)) (q : List (BitVec 64)) (k : List (BitVec 64)) (hp : p.length = 20) (hq : q.length = 20) (hk : k.length = 5) : Ev Try.prog (.call 74 [.agg (.a64 (p)), .agg (.a64 (q)), .agg (.a64 (k))] []) (.val (.agg (.a64 (cvPlus p q k))) []) := by
  have hP : Hid (cvPlus p q k = (lmMul (lmSub (lmMul (lmAdd (cut p 5 5) (cut p 0 5)) (lmAdd (cut q 5 5) (cut q 0 5))) (lmMul (lmSub (cut p 5 5) (cut p 0 5)) (lmSub (cut q 5 5) (cut q 0 5)))) (lmSub (lmMul (lmAdd (cut p 10 5) (cut p 10 5)) (cut q 10 5)) (lmMul (lmMul k (cut p 15 5)) (cut q 15 5)))) ++ (lmMul (lmAdd (lmMul (lmAdd (cut p 10 5) (cut p 10 5)) (cut q 10 5)) (lmMul (lmMul k (cut p 15 5)) (cut q 15 5))) (lmAdd (lmMul (lmAdd (cut p 5 5) (cut p 0 5)) (lmAdd (cut q 5 5) (cut q 0 5))) (lmMul (lmSub (cut p 5 5) (cut p 0 5)) (lmSub (cut q 5 5) (cut q 0 5))))) ++ (lmMul (lmSub (lmMul (lmAdd (cut p 10 5) (cut p 10 5)) (cut q 10 5)) (lmMul (lmMul k (cut p 15 5)) (cut q 15 5))) (lmAdd (lmMul (lmAdd (cut p 10 5) (cut p 10 5)) (cut q 10 5)) (lmMul (lmMul k (cut p 15 5)) (cut q 15 5)))) ++ (lmMul (lmSub (lmMul (lmAdd (cut p 5 5) (cut p 0 5)) (lmAdd (cut q 5 5) (cut q 0 5))) (lmMul (lmSub (cut p 5 5) (cut p 0 5)) (lmSub (cut q 5 5) (cut q 0 5)))) (lmAdd (lmMul (lmAdd (cut p 5 5) (cut p 0 5)) (lmAdd (cut q 5 5) (cut q 0 5))) (lmMul (lmSub (cut p 5 5) (cut p 0 5)) (lmSub (cut q 5 5) (cut q 0 5)))))) := ⟨rfl⟩
  refine c_call Try.func74 rfl Try.ntmps74 rfl LEN_ ?_
  refine S_ ?_
  refine c_region ?_
  refine s_memN (m_box BX_ LEN_) APP_ rfl ?_
  refine s_memN (m_box BX_ LEN_) APP_ rfl ?_
  refine s_memN (m_box BX_ LEN_) APP_ rfl ?_
  refine s_memN (m_alloc al_56 LEN_) APP_ rfl ?_
  refine s_nil ?_
  have hQ1 : (cut p 5 5).length = 5 := LQ_
  have hQ2 : (cut p 0 5).length = 5 := LQ_
  have hQ3 : (lmSub (cut p 5 5) (cut p 0 5)).length = 5 := LQ_
  have hQ4 : (cut q 5 5).length = 5 := LQ_
  have hQ5 : (cut q 0 5).length = 5 := LQ_
  have hQ6 : (lmSub (cut q 5 5) (cut q 0 5)).length = 5 := LQ_
  have hQ7 : (lmMul (lmSub (cut p 5 5) (cut p 0 5)) (lmSub (cut q 5 5) (cut q 0 5))).length = 5 := LQ_
  refine S_ ?_
  refine c_draw 12 mixed (by kernel_rfl) rfl rfl rfl ?_
  refine h_val (v_fieldP rfl (fa_56_1 _ _)) rfl ?_
  refine h_val (v_loadW64 rfl rfl row_54 sz_54 LE_ (by decide)) rfl ?_
  refine h_val (v_fieldP rfl (fa_56_0 _ _)) rfl ?_
  refine h_val (v_loadW64 rfl rfl row_54 sz_54 LE_ (by decide)) rfl ?_
  refine h_evN (e_callR (bs := []) (lmSub_ev (cut p 5 5) (cut p 0 5) HYP_ HYP_) ok_44 (by kernel_rfl) (by kernel_rfl) rfl VAL_) APP_ rfl ?_
  refine h_val (v_fieldP rfl (fa_56_1 _ _)) rfl ?_
  refine h_val (v_loadW64 rfl rfl row_54 sz_54 LE_ (by decide)) rfl ?_
  refine h_val (v_fieldP rfl (fa_56_0 _ _)) rfl ?_
  refine h_val (v_loadW64 rfl rfl row_54 sz_54 LE_ (by decide)) rfl ?_
  refine h_evN (e_callR (bs := []) (lmSub_ev (cut q 5 5) (cut q 0 5) HYP_ HYP_) ok_44 (by kernel_rfl) (by kernel_rfl) rfl VAL_) APP_ rfl ?_
  refine h_evN (e_callR (bs := []) (lmMul_ev (lmSub (cut p 5 5) (cut p 0 5)) (lmSub (cut q 5 5) (cut q 0 5)) HYP_ HYP_) ok_43 (by kernel_rfl) (by kernel_rfl) rfl VAL_) APP_ rfl ?_
  refine h_memN (m_alloc al_54 LEN_) APP_ rfl ?_
  refine h_nil ?_
  refine s_storeR rfl rfl rfl rfl sz_54 EQ_ EQ_ SET_ ?_
  refine s_nil ?_
  have hQ8 : (cut p 5 5).length = 5 := LQ_
  have hQ9 : (cut p 0 5).length = 5 := LQ_
  have hQ10 : (lmAdd (cut p 5 5) (cut p 0 5)).length = 5 := LQ_
  have hQ11 : (cut q 5 5).length = 5 := LQ_
  have hQ12 : (cut q 0 5).length = 5 := LQ_
  have hQ13 : (lmAdd (cut q 5 5) (cut q 0 5)).length = 5 := LQ_
  have hQ14 : (lmMul (lmAdd (cut p 5 5) (cut p 0 5)) (lmAdd (cut q 5 5) (cut q 0 5))).length = 5 := LQ_
  refine S_ ?_
  refine c_draw 12 mixed (by kernel_rfl) rfl rfl rfl ?_
  refine h_val (v_fieldP rfl (fa_56_1 _ _)) rfl ?_
  refine h_val (v_loadW64 rfl rfl row_54 sz_54 LE_ (by decide)) rfl ?_
  refine h_val (v_fieldP rfl (fa_56_0 _ _)) rfl ?_
  refine h_val (v_loadW64 rfl rfl row_54 sz_54 LE_ (by decide)) rfl ?_
  refine h_evN (e_callR (bs := []) (lmAdd_ev (cut p 5 5) (cut p 0 5) HYP_ HYP_) ok_46 (by kernel_rfl) (by kernel_rfl) rfl VAL_) APP_ rfl ?_
  refine h_val (v_fieldP rfl (fa_56_1 _ _)) rfl ?_
  refine h_val (v_loadW64 rfl rfl row_54 sz_54 LE_ (by decide)) rfl ?_
  refine h_val (v_fieldP rfl (fa_56_0 _ _)) rfl ?_
  refine h_val (v_loadW64 rfl rfl row_54 sz_54 LE_ (by decide)) rfl ?_
  refine h_evN (e_callR (bs := []) (lmAdd_ev (cut q 5 5) (cut q 0 5) HYP_ HYP_) ok_46 (by kernel_rfl) (by kernel_rfl) rfl VAL_) APP_ rfl ?_
  refine h_evN (e_callR (bs := []) (lmMul_ev (lmAdd (cut p 5 5) (cut p 0 5)) (lmAdd (cut q 5 5) (cut q 0 5)) HYP_ HYP_) ok_43 (by kernel_rfl) (by kernel_rfl) rfl VAL_) APP_ rfl ?_
  refine h_memN (m_alloc al_54 LEN_) APP_ rfl ?_
  refine h_nil ?_
  refine s_storeR rfl rfl rfl rfl sz_54 EQ_ EQ_ SET_ ?_
  refine s_nil ?_
  have hQ15 : (cut p 15 5).length = 5 := LQ_
  have hQ16 : (lmMul k (cut p 15 5)).length = 5 := LQ_
  have hQ17 : (cut q 15 5).length = 5 := LQ_
  have hQ18 : (lmMul (lmMul k (cut p 15 5)) (cut q 15 5)).length = 5 := LQ_
  refine S_ ?_
  refine c_draw 8 mixed (by kernel_rfl) rfl rfl rfl ?_
  refine h_val (v_loadR rfl rfl row_54 sz_54 EQ_ (by decide)) rfl ?_
  refine h_val (v_fieldP rfl (fa_56_3 _ _)) rfl ?_
  refine h_val (v_loadW64 rfl rfl row_54 sz_54 LE_ (by decide)) rfl ?_
  refine h_evN (e_callR (bs := []) (lmMul_ev k (cut p 15 5) HYP_ HYP_) ok_43 (by kernel_rfl) (by kernel_rfl) rfl VAL_) APP_ rfl ?_
  refine h_val (v_fieldP rfl (fa_56_3 _ _)) rfl ?_
  refine h_val (v_loadW64 rfl rfl row_54 sz_54 LE_ (by decide)) rfl ?_
  refine h_evN (e_callR (bs := []) (lmMul_ev (lmMul k (cut p 15 5)) (cut q 15 5) HYP_ HYP_) ok_43 (by kernel_rfl) (by kernel_rfl) rfl VAL_) APP_ rfl ?_
  refine h_memN (m_alloc al_54 LEN_) APP_ rfl ?_
  refine h_nil ?_
  refine s_storeR rfl rfl rfl rfl sz_54 EQ_ EQ_ SET_ ?_
  refine s_nil ?_
  have hQ19 : (cut p 10 5).length = 5 := LQ_
  have hQ20 : (lmAdd (cut p 10 5) (cut p 10 5)).length = 5 := LQ_
  have hQ21 : (cut q 10 5).length = 5 := LQ_
  have hQ22 : (lmMul (lmAdd (cut p 10 5) (cut p 10 5)) (cut q 10 5)).length = 5 := LQ_
  refine S_ ?_
  refine c_draw 9 mixed (by kernel_rfl) rfl rfl rfl ?_
  refine h_val (v_fieldP rfl (fa_56_2 _ _)) rfl ?_
  refine h_val (v_loadW64 rfl rfl row_54 sz_54 LE_ (by decide)) rfl ?_
  refine h_val (v_fieldP rfl (fa_56_2 _ _)) rfl ?_
  refine h_val (v_loadW64 rfl rfl row_54 sz_54 LE_ (by decide)) rfl ?_
  refine h_evN (e_callR (bs := []) (lmAdd_ev (cut p 10 5) (cut p 10 5) HYP_ HYP_) ok_46 (by kernel_rfl) (by kernel_rfl) rfl VAL_) APP_ rfl ?_
  refine h_val (v_fieldP rfl (fa_56_2 _ _)) rfl ?_
  refine h_val (v_loadW64 rfl rfl row_54 sz_54 LE_ (by decide)) rfl ?_
  refine h_evN (e_callR (bs := []) (lmMul_ev (lmAdd (cut p 10 5) (cut p 10 5)) (cut q 10 5) HYP_ HYP_) ok_43 (by kernel_rfl) (by kernel_rfl) rfl VAL_) APP_ rfl ?_
  refine h_memN (m_alloc al_54 LEN_) APP_ rfl ?_
  refine h_nil ?_
  refine s_storeR rfl rfl rfl rfl sz_54 EQ_ EQ_ SET_ ?_
  refine s_nil ?_
  have hQ23 : (lmSub (lmMul (lmAdd (cut p 5 5) (cut p 0 5)) (lmAdd (cut q 5 5) (cut q 0 5))) (lmMul (lmSub (cut p 5 5) (cut p 0 5)) (lmSub (cut q 5 5) (cut q 0 5)))).length = 5 := LQ_
  have hQ24 : (lmSub (lmMul (lmAdd (cut p 10 5) (cut p 10 5)) (cut q 10 5)) (lmMul (lmMul k (cut p 15 5)) (cut q 15 5))).length = 5 := LQ_
  have hQ25 : (lmAdd (lmMul (lmAdd (cut p 10 5) (cut p 10 5)) (cut q 10 5)) (lmMul (lmMul k (cut p 15 5)) (cut q 15 5))).length = 5 := LQ_
  have hQ26 : (lmAdd (lmMul (lmAdd (cut p 5 5) (cut p 0 5)) (lmAdd (cut q 5 5) (cut q 0 5))) (lmMul (lmSub (cut p 5 5) (cut p 0 5)) (lmSub (cut q 5 5) (cut q 0 5)))).length = 5 := LQ_
  refine S_ ?_
  refine c_draw 16 mixed (by kernel_rfl) rfl rfl rfl ?_
  refine h_val (v_loadR rfl rfl row_54 sz_54 EQ_ (by decide)) rfl ?_
  refine h_val (v_loadR rfl rfl row_54 sz_54 EQ_ (by decide)) rfl ?_
  refine h_evN (e_callR (bs := []) (lmSub_ev (lmMul (lmAdd (cut p 5 5) (cut p 0 5)) (lmAdd (cut q 5 5) (cut q 0 5))) (lmMul (lmSub (cut p 5 5) (cut p 0 5)) (lmSub (cut q 5 5) (cut q 0 5))) HYP_ HYP_) ok_44 (by kernel_rfl) (by kernel_rfl) rfl VAL_) APP_ rfl ?_
  refine h_val (v_loadR rfl rfl row_54 sz_54 EQ_ (by decide)) rfl ?_
  refine h_val (v_loadR rfl rfl row_54 sz_54 EQ_ (by decide)) rfl ?_
  refine h_evN (e_callR (bs := []) (lmSub_ev (lmMul (lmAdd (cut p 10 5) (cut p 10 5)) (cut q 10 5)) (lmMul (lmMul k (cut p 15 5)) (cut q 15 5)) HYP_ HYP_) ok_44 (by kernel_rfl) (by kernel_rfl) rfl VAL_) APP_ rfl ?_
  refine h_val (v_loadR rfl rfl row_54 sz_54 EQ_ (by decide)) rfl ?_
  refine h_val (v_loadR rfl rfl row_54 sz_54 EQ_ (by decide)) rfl ?_
  refine h_evN (e_callR (bs := []) (lmAdd_ev (lmMul (lmAdd (cut p 10 5) (cut p 10 5)) (cut q 10 5)) (lmMul (lmMul k (cut p 15 5)) (cut q 15 5)) HYP_ HYP_) ok_46 (by kernel_rfl) (by kernel_rfl) rfl VAL_) APP_ rfl ?_
  refine h_val (v_loadR rfl rfl row_54 sz_54 EQ_ (by decide)) rfl ?_
  refine h_val (v_loadR rfl rfl row_54 sz_54 EQ_ (by decide)) rfl ?_
  refine h_evN (e_callR (bs := []) (lmAdd_ev (lmMul (lmAdd (cut p 5 5) (cut p 0 5)) (lmAdd (cut q 5 5) (cut q 0 5))) (lmMul (lmSub (cut p 5 5) (cut p 0 5)) (lmSub (cut q 5 5) (cut q 0 5))) HYP_ HYP_) ok_46 (by kernel_rfl) (by kernel_rfl) rfl VAL_) APP_ rfl ?_
  refine h_memN (m_alloc al_54 LEN_) APP_ rfl ?_
  refine h_memN (m_alloc al_54 LEN_) APP_ rfl ?_
  refine h_memN (m_alloc al_54 LEN_) APP_ rfl ?_
  refine h_memN (m_alloc al_54 LEN_) APP_ rfl ?_
  refine h_nil ?_
  refine s_storeR rfl rfl rfl rfl sz_54 EQ_ EQ_ SET_ ?_
  refine s_storeR rfl rfl rfl rfl sz_54 EQ_ EQ_ SET_ ?_
  refine s_storeR rfl rfl rfl rfl sz_54 EQ_ EQ_ SET_ ?_
  refine s_storeR rfl rfl rfl rfl sz_54 EQ_ EQ_ SET_ ?_
  refine s_nil ?_
  have hQ27 : (lmMul (lmSub (lmMul (lmAdd (cut p 5 5) (cut p 0 5)) (lmAdd (cut q 5 5) (cut q 0 5))) (lmMul (lmSub (cut p 5 5) (cut p 0 5)) (lmSub (cut q 5 5) (cut q 0 5)))) (lmSub (lmMul (lmAdd (cut p 10 5) (cut p 10 5)) (cut q 10 5)) (lmMul (lmMul k (cut p 15 5)) (cut q 15 5)))).length = 5 := LQ_
  have hQ28 : (lmMul (lmAdd (lmMul (lmAdd (cut p 10 5) (cut p 10 5)) (cut q 10 5)) (lmMul (lmMul k (cut p 15 5)) (cut q 15 5))) (lmAdd (lmMul (lmAdd (cut p 5 5) (cut p 0 5)) (lmAdd (cut q 5 5) (cut q 0 5))) (lmMul (lmSub (cut p 5 5) (cut p 0 5)) (lmSub (cut q 5 5) (cut q 0 5))))).length = 5 := LQ_
  have hQ29 : (lmMul (lmSub (lmMul (lmAdd (cut p 10 5) (cut p 10 5)) (cut q 10 5)) (lmMul (lmMul k (cut p 15 5)) (cut q 15 5))) (lmAdd (lmMul (lmAdd (cut p 10 5) (cut p 10 5)) (cut q 10 5)) (lmMul (lmMul k (cut p 15 5)) (cut q 15 5)))).length = 5 := LQ_
  have hQ30 : (lmMul (lmSub (lmMul (lmAdd (cut p 5 5) (cut p 0 5)) (lmAdd (cut q 5 5) (cut q 0 5))) (lmMul (lmSub (cut p 5 5) (cut p 0 5)) (lmSub (cut q 5 5) (cut q 0 5)))) (lmAdd (lmMul (lmAdd (cut p 5 5) (cut p 0 5)) (lmAdd (cut q 5 5) (cut q 0 5))) (lmMul (lmSub (cut p 5 5) (cut p 0 5)) (lmSub (cut q 5 5) (cut q 0 5))))).length = 5 := LQ_
  refine S_ ?_
  refine c_draw 13 mixed (by kernel_rfl) rfl rfl rfl ?_
  refine h_val (v_loadR rfl rfl row_54 sz_54 EQ_ (by decide)) rfl ?_
  refine h_val (v_loadR rfl rfl row_54 sz_54 EQ_ (by decide)) rfl ?_
  refine h_evN (e_callR (bs := []) (lmMul_ev (lmSub (lmMul (lmAdd (cut p 5 5) (cut p 0 5)) (lmAdd (cut q 5 5) (cut q 0 5))) (lmMul (lmSub (cut p 5 5) (cut p 0 5)) (lmSub (cut q 5 5) (cut q 0 5)))) (lmSub (lmMul (lmAdd (cut p 10 5) (cut p 10 5)) (cut q 10 5)) (lmMul (lmMul k (cut p 15 5)) (cut q 15 5))) HYP_ HYP_) ok_43 (by kernel_rfl) (by kernel_rfl) rfl VAL_) APP_ rfl ?_
  refine h_val (v_loadR rfl rfl row_54 sz_54 EQ_ (by decide)) rfl ?_
  refine h_val (v_loadR rfl rfl row_54 sz_54 EQ_ (by decide)) rfl ?_
  refine h_evN (e_callR (bs := []) (lmMul_ev (lmAdd (lmMul (lmAdd (cut p 10 5) (cut p 10 5)) (cut q 10 5)) (lmMul (lmMul k (cut p 15 5)) (cut q 15 5))) (lmAdd (lmMul (lmAdd (cut p 5 5) (cut p 0 5)) (lmAdd (cut q 5 5) (cut q 0 5))) (lmMul (lmSub (cut p 5 5) (cut p 0 5)) (lmSub (cut q 5 5) (cut q 0 5)))) HYP_ HYP_) ok_43 (by kernel_rfl) (by kernel_rfl) rfl VAL_) APP_ rfl ?_
  refine h_val (v_loadR rfl rfl row_54 sz_54 EQ_ (by decide)) rfl ?_
  refine h_val (v_loadR rfl rfl row_54 sz_54 EQ_ (by decide)) rfl ?_
  refine h_evN (e_callR (bs := []) (lmMul_ev (lmSub (lmMul (lmAdd (cut p 10 5) (cut p 10 5)) (cut q 10 5)) (lmMul (lmMul k (cut p 15 5)) (cut q 15 5))) (lmAdd (lmMul (lmAdd (cut p 10 5) (cut p 10 5)) (cut q 10 5)) (lmMul (lmMul k (cut p 15 5)) (cut q 15 5))) HYP_ HYP_) ok_43 (by kernel_rfl) (by kernel_rfl) rfl VAL_) APP_ rfl ?_
  refine h_val (v_loadR rfl rfl row_54 sz_54 EQ_ (by decide)) rfl ?_
  refine h_val (v_loadR rfl rfl row_54 sz_54 EQ_ (by decide)) rfl ?_
  refine h_evN (e_callR (bs := []) (lmMul_ev (lmSub (lmMul (lmAdd (cut p 5 5) (cut p 0 5)) (lmAdd (cut q 5 5) (cut q 0 5))) (lmMul (lmSub (cut p 5 5) (cut p 0 5)) (lmSub (cut q 5 5) (cut q 0 5)))) (lmAdd (lmMul (lmAdd (cut p 5 5) (cut p 0 5)) (lmAdd (cut q 5 5) (cut q 0 5))) (lmMul (lmSub (cut p 5 5) (cut p 0 5)) (lmSub (cut q 5 5) (cut q 0 5)))) HYP_ HYP_) ok_43 (by kernel_rfl) (by kernel_rfl) rfl VAL_) APP_ rfl ?_
  refine h_val (v_bld4 rfl rfl rfl rfl (bs_56 EQL_ EQL_ EQL_ EQL_)) rfl ?_
  refine h_nil ?_
  refine s_storeR rfl rfl rfl rfl sz_56 EQ_ EQ_ SET_ ?_
  refine s_nil ?_
  refine S_ ?_
  rw [hP.out]
  exact k_1 (r_row rfl rfl row_56 sz_56 EQ_ (by decide)) (by first | kernel_rfl | rfl)

@[simp] theorem cvPlus_len (p : List (BitVec 64)) (q : List (BitVec 64)) (k : List (BitVec 64)) (hp : p.length = 20) (hq : q.length = 20) (hk : k.length = 5) : (cvPlus p q k).length = 20 := by
  unfold cvPlus
  first | (simp (maxDischargeDepth := 9) [*]; done) | (simp (maxDischargeDepth := 9) [*]; omega) | (split <;> (simp (maxDischargeDepth := 9) [*]; done))

attribute [irreducible] cvPlus
end Go.Proofs.Ytcekjmejppemeaa
/- curve.sum, curve.times, curve.base (Drawn up by a program.) -/
namespace Go.Proofs.Ytcekjmejppemeaa
open Go.RowKit
def cvSum (p : List (BitVec 64)) (q : List (BitVec 64)) : List (BitVec 64) := cvPlus p q (lmAdd cvBend cvBend)
set_option maxRecDepth 100000 in
set_option maxHeartbeats 2000000 in
theorem cvSum_ev (p : List (BitVec 64)) (q : List (BitVec 64)) (hp : p.length = 20) (hq : q.length = 20) : Ev Try.prog (.call 40 [.agg (.a64 (p)), .agg (.a64 (q))] []) (.val (.agg (.a64 (cvSum p q))) []) := by
  have hP : Hid (cvSum p q = cvPlus p q (lmAdd cvBend cvBend)) := ⟨rfl⟩
  refine c_call Try.func40 rfl Try.ntmps40 rfl LEN_ ?_
  refine S_ ?_
  refine c_region ?_
  refine s_memN (m_box BX_ LEN_) APP_ rfl ?_
  refine s_memN (m_box BX_ LEN_) APP_ rfl ?_
  refine s_memN (m_alloc al_56 LEN_) APP_ rfl ?_
  refine s_nil ?_
  have hQ1 : (cvBend).length = 5 := LQ_
  have hQ2 : (lmAdd cvBend cvBend).length = 5 := LQ_
  have hQ3 : (cvPlus p q (lmAdd cvBend cvBend)).length = 20 := LQ_
  refine S_ ?_
  refine c_draw 6 mixed (by kernel_rfl) rfl rfl rfl ?_
  refine h_val (v_loadR rfl rfl row_56 sz_56 EQ_ (by decide)) rfl ?_
  refine h_val (v_loadR rfl rfl row_56 sz_56 EQ_ (by decide)) rfl ?_
  refine h_evN (e_callR (bs := []) (cvBend_ev) ok_73 (by kernel_rfl) (by kernel_rfl) rfl VAL_) APP_ rfl ?_
  refine h_evN (e_callR (bs := []) (cvBend_ev) ok_73 (by kernel_rfl) (by kernel_rfl) rfl VAL_) APP_ rfl ?_
  refine h_evN (e_callR (bs := []) (lmAdd_ev cvBend cvBend HYP_ HYP_) ok_46 (by kernel_rfl) (by kernel_rfl) rfl VAL_) APP_ rfl ?_
  refine h_evN (e_callR (bs := []) (cvPlus_ev p q (lmAdd cvBend cvBend) HYP_ HYP_ HYP_) ok_74 (by kernel_rfl) (by kernel_rfl) rfl VAL_) APP_ rfl ?_
  refine h_nil ?_
  refine s_storeR rfl rfl rfl rfl sz_56 EQ_ EQ_ SET_ ?_
  refine s_nil ?_
  refine S_ ?_
  rw [hP.out]
  exact k_1 (r_row rfl rfl row_56 sz_56 EQ_ (by decide)) (by first | kernel_rfl | rfl)

@[simp] theorem cvSum_len (p : List (BitVec 64)) (q : List (BitVec 64)) (hp : p.length = 20) (hq : q.length = 20) : (cvSum p q).length = 20 := by
  unfold cvSum
  first | (simp (maxDischargeDepth := 9) [*]; done) | (simp (maxDischargeDepth := 9) [*]; omega) | (split <;> (simp (maxDischargeDepth := 9) [*]; done))

attribute [irreducible] cvSum

def cvTimes_L3_S (n : List (BitVec 8)) (p : List (BitVec 64)) (X4 : List (BitVec 64)) (j3 : Nat) : List (BitVec 64) := (if ((((nth n ((255 - j3) / 8)) >>> ((255 - j3) % 8)) &&& 1#8) == 1#8) = true then cvPlus (cvPlus X4 X4 (lmAdd cvBend cvBend)) p (lmAdd cvBend cvBend) else cvPlus X4 X4 (lmAdd cvBend cvBend))
def cvTimes_L3 (n : List (BitVec 8)) (p : List (BitVec 64)) : Nat → List (BitVec 64)
  | 0 => cvNone
  | j3 + 1 => cvTimes_L3_S n p (cvTimes_L3 n p j3) j3
theorem cvTimes_L3_len (n : List (BitVec 8)) (p : List (BitVec 64)) (_hn : n.length = 32) (hp : p.length = 20) (j3 : Nat) : (cvTimes_L3 n p j3).length = 20 := by
  induction j3 with
  | zero => first | (simp (maxDischargeDepth := 9) [cvTimes_L3, *]; done) | (simp (maxDischargeDepth := 9) [cvTimes_L3, *]; omega)
  | succ j3 ih => rw [cvTimes_L3.eq_2, cvTimes_L3_S]; first | (simp (maxDischargeDepth := 9) []; done) | (simp (maxDischargeDepth := 9) []; omega) | (simp (maxDischargeDepth := 9) [*]; done) | (simp (maxDischargeDepth := 9) [*]; omega) | (split <;> first | (simp (maxDischargeDepth := 9) [ih]; done) | (simp (maxDischargeDepth := 9) [ih]; omega) | (simp (maxDischargeDepth := 9) [*]; done))
def cvTimes (n : List (BitVec 8)) (p : List (BitVec 64)) : List (BitVec 64) := (cvTimes_L3 n p 256)
set_option maxRecDepth 100000 in
set_option maxHeartbeats 2000000 in
theorem cvTimes_ev (n : List (BitVec 8)) (p : List (BitVec 64)) (hn : n.length = 32) (hp : p.length = 20) : Ev Try.prog (.call 36 [.agg (.a8 (n)), .agg (.a64 (p))] []) (.val (.agg (.a64 (cvTimes n p))) []) := by
  have hP : Hid (cvTimes n p = (cvTimes_L3 n p 256)) := ⟨rfl⟩
  refine c_call Try.func36 rfl Try.ntmps36 rfl LEN_ ?_
  refine S_ ?_
  refine c_region ?_
  refine s_memN (m_box BX_ LEN_) APP_ rfl ?_
  refine s_memN (m_box BX_ LEN_) APP_ rfl ?_
  refine s_memN (m_alloc al_56 LEN_) APP_ rfl ?_
  refine s_nil ?_
  have hQ1 : (cvNone).length = 20 := LQ_
  have hQ2 : (cvBend).length = 5 := LQ_
  have hQ3 : (lmAdd cvBend cvBend).length = 5 := LQ_
  refine S_ ?_
  refine c_region ?_
  refine s_evN (e_callR (bs := []) (cvNone_ev) ok_72 (by kernel_rfl) (by kernel_rfl) rfl VAL_) APP_ rfl ?_
  refine s_evN (e_callR (bs := []) (cvBend_ev) ok_73 (by kernel_rfl) (by kernel_rfl) rfl VAL_) APP_ rfl ?_
  refine s_evN (e_callR (bs := []) (cvBend_ev) ok_73 (by kernel_rfl) (by kernel_rfl) rfl VAL_) APP_ rfl ?_
  refine s_evN (e_callR (bs := []) (lmAdd_ev cvBend cvBend HYP_ HYP_) ok_46 (by kernel_rfl) (by kernel_rfl) rfl VAL_) APP_ rfl ?_
  refine s_memN (m_alloc al_56 LEN_) APP_ rfl ?_
  refine s_memN (m_alloc al_54 LEN_) APP_ rfl ?_
  refine s_storeR rfl rfl rfl rfl sz_56 EQ_ EQ_ SET_ ?_
  refine s_storeR rfl rfl rfl rfl sz_54 EQ_ EQ_ SET_ ?_
  refine s_nil ?_
  refine S_ ?_
  refine c_region ?_
  refine s_val (v_assignC rfl) rfl ?_
  refine s_nil ?_
  refine S_ ?_
  refine c_loopC [2, 3, 4, 5, 6, 7] (fun (zz : Nat × List (BitVec 64)) => ⟨34, keepT [2, 3, 4, 5, 6, 7] [.c (.ptr 0 0), .c (.ptr 1 0), .c (.ptr 2 0), .c (.ptr 3 0), .c (.ptr 4 0), .c (.val (.int .i64 (((255 : Nat) : Int) - ((zz.1 : Nat) : Int))))], [.row true (.a8 (n)), .row true (.a64 (p)), .row true (.a64 (zer64 20)), .row true (.a64 (zz.2)), .row true (.a64 (lmAdd cvBend cvBend))]⟩) (fun j3 => (j3, cvTimes_L3 n p j3)) (256) (by kernel_rfl) ?_ ?_
  · intro j3 hj3
    try dsimp only
    have hX4 : (cvTimes_L3 n p j3).length = 20 := by rw [cvTimes_L3_len n p hn hp _]; try omega
    rw [cvTimes_L3.eq_2, cvTimes_L3_S]
    generalize cvTimes_L3 n p j3 = X4 at *
    rw [show ((255 : Nat) : Int) - ((j3 : Nat) : Int) = ((255 - j3 : Nat) : Int) from by omega]
    refine S_ ?_
    refine c_region ?_
    refine s_val (v_moveC rfl) rfl ?_
    refine s_val (v_geqN (b := 0) rfl rfl) rfl ?_
    refine s_nil ?_
    have hQ5 : (cvPlus X4 X4 (lmAdd cvBend cvBend)).length = 20 := LQ_
    refine S_ ?_
    refine c_region ?_
    refine s_val (v_loadR rfl rfl row_56 sz_56 EQ_ (by decide)) rfl ?_
    refine s_val (v_loadR rfl rfl row_56 sz_56 EQ_ (by decide)) rfl ?_
    refine s_val (v_loadR rfl rfl row_54 sz_54 EQ_ (by decide)) rfl ?_
    refine s_evN (e_callR (bs := []) (cvPlus_ev X4 X4 (lmAdd cvBend cvBend) HYP_ HYP_ HYP_) ok_74 (by kernel_rfl) (by kernel_rfl) rfl VAL_) APP_ rfl ?_
    refine s_storeR rfl rfl rfl rfl sz_56 EQ_ EQ_ SET_ ?_
    refine s_nil ?_
    refine S_ ?_
    refine c_region ?_
    refine s_val (v_moveC rfl) rfl ?_
    refine s_val (v_quoN (b := 8) rfl rfl (by omega) (by omega)) rfl ?_
    refine s_val (v_idxA1 rfl rfl Try.underlying22 sz_5 (by omega)) rfl ?_
    refine s_val (v_load8 rfl rfl row_5 LT_) rfl ?_
    refine s_val (v_moveC rfl) rfl ?_
    refine s_val (v_remN (b := 8) rfl rfl (by omega) (by omega)) rfl ?_
    refine s_val (v_shr8n rfl rfl) rfl ?_
    refine s_val (v_and8 (b := 1#8) rfl rfl) rfl ?_
    refine s_val (v_eql8 (b := 1#8) rfl rfl) rfl ?_
    refine s_nil ?_
    refine Q_ ?_
    refine c_join [2, 3, 4, 5, 6, 7] (fun (zz : List (BitVec 64)) => ⟨34, keepT [2, 3, 4, 5, 6, 7] [.c (.ptr 0 0), .c (.ptr 1 0), .c (.ptr 2 0), .c (.ptr 3 0), .c (.ptr 4 0), .c (.val (.int .i64 (((255 - j3 : Nat) : Int))))], [.row true (.a8 (n)), .row true (.a64 (p)), .row true (.a64 (zer64 20)), .row true (.a64 (zz)), .row true (.a64 (lmAdd cvBend cvBend))]⟩) (if ((((nth n ((255 - j3) / 8)) >>> ((255 - j3) % 8)) &&& 1#8) == 1#8) = true then cvPlus (cvPlus X4 X4 (lmAdd cvBend cvBend)) p (lmAdd cvBend cvBend) else cvPlus X4 X4 (lmAdd cvBend cvBend)) rfl (fun hb => ?_) (fun hb => ?_) ?_
    · -- the test is True
      have hQ7 : (cvPlus (cvPlus X4 X4 (lmAdd cvBend cvBend)) p (lmAdd cvBend cvBend)).length = 20 := LQ_
      refine S_ ?_
      refine c_region ?_
      refine s_val (v_loadR rfl rfl row_56 sz_56 EQ_ (by decide)) rfl ?_
      refine s_val (v_loadR rfl rfl row_56 sz_56 EQ_ (by decide)) rfl ?_
      refine s_val (v_loadR rfl rfl row_54 sz_54 EQ_ (by decide)) rfl ?_
      refine s_evN (e_callR (bs := []) (cvPlus_ev (cvPlus X4 X4 (lmAdd cvBend cvBend)) p (lmAdd cvBend cvBend) HYP_ HYP_ HYP_) ok_74 (by kernel_rfl) (by kernel_rfl) rfl VAL_) APP_ rfl ?_
      refine s_storeR rfl rfl rfl rfl sz_56 EQ_ EQ_ SET_ ?_
      refine s_nil ?_
      refine S_ ?_
      refine ⟨(cvPlus (cvPlus X4 X4 (lmAdd cvBend cvBend)) p (lmAdd cvBend cvBend)), by kernel_rfl, ?_⟩
      rw [if_pos (hb)]
    · -- the test is False
      refine S_ ?_
      refine ⟨(cvPlus X4 X4 (lmAdd cvBend cvBend)), by kernel_rfl, ?_⟩
      rw [if_neg (by first | (rw [hb]; decide) | simp [hb])]
    have hJ6 : (if ((((nth n ((255 - j3) / 8)) >>> ((255 - j3) % 8)) &&& 1#8) == 1#8) = true then cvPlus (cvPlus X4 X4 (lmAdd cvBend cvBend)) p (lmAdd cvBend cvBend) else cvPlus X4 X4 (lmAdd cvBend cvBend)).length = 20 := by split <;> simp [*]
    generalize (if ((((nth n ((255 - j3) / 8)) >>> ((255 - j3) % 8)) &&& 1#8) == 1#8) = true then cvPlus (cvPlus X4 X4 (lmAdd cvBend cvBend)) p (lmAdd cvBend cvBend) else cvPlus X4 X4 (lmAdd cvBend cvBend)) = J6 at *
    refine S_ ?_
    refine c_region ?_
    refine s_val (v_moveC rfl) rfl ?_
    first
      | refine s_val (v_subN (b := 1) rfl rfl (by omega) (by omega)) rfl ?_
      | refine s_val (v_subI rfl rfl (by omega)) rfl ?_
    refine s_val (v_assignC rfl) rfl ?_
    refine s_nil ?_
    refine ⟨(j3 + 1, _), (by
      dsimp only
      rw [show ((255 : Nat) : Int) - ((j3 + 1 : Nat) : Int) = ((255 - j3 : Nat) : Int) - 1 from by omega]
      kernel_rfl), rfl⟩
  · try dsimp only
    have hY8 : (cvTimes_L3 n p 256).length = 20 := by rw [cvTimes_L3_len n p hn hp _]; try omega
    generalize cvTimes_L3 n p 256 = Y8 at *
    refine S_ ?_
    refine c_region ?_
    refine s_val (v_moveC rfl) rfl ?_
    refine s_val (v_geqI rfl rfl) rfl ?_
    refine s_nil ?_
    refine S_ ?_
    refine c_region ?_
    refine s_val (v_loadR rfl rfl row_56 sz_56 EQ_ (by decide)) rfl ?_
    refine s_storeR rfl rfl rfl rfl sz_56 EQ_ EQ_ SET_ ?_
    refine s_nil ?_
    refine S_ ?_
    rw [hP.out]
    exact k_1 (r_row rfl rfl row_56 sz_56 EQ_ (by decide)) (by first | kernel_rfl | rfl)

@[simp] theorem cvTimes_len (n : List (BitVec 8)) (p : List (BitVec 64)) (hn : n.length = 32) (hp : p.length = 20) : (cvTimes n p).length = 20 := by
  unfold cvTimes
  first | (simp (maxDischargeDepth := 9) [cvTimes_L3_len, *]; done) | (simp (maxDischargeDepth := 9) [cvTimes_L3_len, *]; omega) | (split <;> (simp (maxDischargeDepth := 9) [cvTimes_L3_len, *]; done))

attribute [irreducible] cvTimes

def cvBase_L3_S (X1 : List (BitVec 8)) (j3 : Nat) : List (BitVec 8) := put X1 (1 + j3) 102#8
def cvBase_L3  : Nat → List (BitVec 8)
  | 0 => put (zer8 32) 0 88#8
  | j3 + 1 => cvBase_L3_S (cvBase_L3 j3) j3
@[simp] theorem cvBase_L3_len  (j3 : Nat) : (cvBase_L3 j3).length = 32 := by
  induction j3 with
  | zero => first | (simp (maxDischargeDepth := 9) [cvBase_L3, *]; done) | (simp (maxDischargeDepth := 9) [cvBase_L3, *]; omega)
  | succ j3 ih => rw [cvBase_L3.eq_2, cvBase_L3_S]; first | (simp (maxDischargeDepth := 9) [ih]; done) | (simp (maxDischargeDepth := 9) [ih]; omega) | (simp (maxDischargeDepth := 9) [*]; done) | (simp (maxDischargeDepth := 9) [*]; omega) | (split <;> first | (simp (maxDischargeDepth := 9) [ih]; done) | (simp (maxDischargeDepth := 9) [ih]; omega) | (simp (maxDischargeDepth := 9) [*]; done))
def cvBase  : List (BitVec 64) := unP (cvBase_L3 31)
set_option maxRecDepth 100000 in
set_option maxHeartbeats 2000000 in
theorem cvBase_ev   : Ev Try.prog (.call 37 [] []) (.val (.agg (.a64 (cvBase))) []) := by
  have hP : Hid (cvBase = unP (cvBase_L3 31)) := ⟨rfl⟩
  refine c_call Try.func37 rfl Try.ntmps37 rfl LEN_ ?_
  refine S_ ?_
  refine c_region ?_
  refine s_memN (m_alloc al_56 LEN_) APP_ rfl ?_
  refine s_nil ?_
  refine S_ ?_
  refine c_region ?_
  refine s_val (v_blf8 (l := (put (zer8 32) 0 (88#8))) za_22 Try.underlying22 sz_5 rfl rfl) rfl ?_
  refine s_memN (m_alloc al_22 LEN_) APP_ rfl ?_
  refine s_storeR rfl rfl rfl rfl sz_22 EQ_ EQ_ SET_ ?_
  refine s_nil ?_
  refine S_ ?_
  refine c_region ?_
  refine s_val (v_assignC rfl) rfl ?_
  refine s_nil ?_
  refine S_ ?_
  refine c_loopC [0, 1, 2] (fun (zz : Nat × List (BitVec 8)) => ⟨18, keepT [0, 1, 2] [.c (.ptr 0 0), .c (.ptr 1 0), .c (.val (.int .i64 (((1 + zz.1 : Nat) : Int))))], [.row true (.a64 (zer64 20)), .row true (.a8 (zz.2))]⟩) (fun j3 => (j3, cvBase_L3 j3)) (31) (by kernel_rfl) ?_ ?_
  · intro j3 hj3
    try dsimp only
    have hX1 : (cvBase_L3 j3).length = 32 := by rw [cvBase_L3_len _]; try omega
    rw [cvBase_L3.eq_2, cvBase_L3_S]
    generalize cvBase_L3 j3 = X1 at *
    refine S_ ?_
    refine c_region ?_
    refine s_val (v_moveC rfl) rfl ?_
    refine s_val (v_lssN (b := 32) rfl rfl) rfl ?_
    refine s_nil ?_
    refine S_ ?_
    refine c_region ?_
    refine s_val (v_moveC rfl) rfl ?_
    refine s_val (v_idxA1 rfl rfl Try.underlying22 sz_5 (by omega)) rfl ?_
    refine s_store8 (w := 102#8) rfl rfl rfl sz_5 LT_ SET_ ?_
    refine s_nil ?_
    refine S_ ?_
    refine c_region ?_
    refine s_val (v_moveC rfl) rfl ?_
    refine s_val (v_addN (b := 1) rfl rfl (by omega)) rfl ?_
    refine s_val (v_assignC rfl) rfl ?_
    refine s_nil ?_
    exact ⟨(j3 + 1, _), by kernel_rfl, rfl⟩
  · try dsimp only
    have hY2 : (cvBase_L3 31).length = 32 := by rw [cvBase_L3_len _]; try omega
    generalize cvBase_L3 31 = Y2 at *
    refine S_ ?_
    refine c_region ?_
    refine s_val (v_moveC rfl) rfl ?_
    refine s_val (v_lssN (a := 32) (b := 32) rfl rfl) rfl ?_
    refine s_nil ?_
    have hQ3 : (unP Y2).length = 20 := LQ_
    refine S_ ?_
    refine c_region ?_
    refine s_val (v_loadR rfl rfl row_22 sz_22 EQ_ (by decide)) rfl ?_
    refine s_evN (e_callR (bs := []) (un_ev Y2 HYP_) ok_39 (by kernel_rfl) (by kernel_rfl) rfl VAL_) APP_ rfl ?_
    refine s_val (v_moveT rfl) rfl ?_
    refine s_val (v_extract rfl rfl) rfl ?_
    refine s_val (v_extract rfl rfl) rfl ?_
    refine s_memN (m_alloc al_56 LEN_) APP_ rfl ?_
    refine s_storeR rfl rfl rfl rfl sz_56 EQ_ EQ_ SET_ ?_
    refine s_val (v_assignC rfl) rfl ?_
    refine s_nil ?_
    refine S_ ?_
    refine c_region ?_
    refine s_val (v_loadR rfl rfl row_56 sz_56 EQ_ (by decide)) rfl ?_
    refine s_storeR rfl rfl rfl rfl sz_56 EQ_ EQ_ SET_ ?_
    refine s_nil ?_
    refine S_ ?_
    rw [hP.out]
    exact k_1 (r_row rfl rfl row_56 sz_56 EQ_ (by decide)) (by first | kernel_rfl | rfl)

@[simp] theorem cvBase_len  : (cvBase).length = 20 := by
  unfold cvBase
  first | (simp (maxDischargeDepth := 9) [cvBase_L3_len, *]; done) | (simp (maxDischargeDepth := 9) [cvBase_L3_len, *]; omega) | (split <;> (simp (maxDischargeDepth := 9) [cvBase_L3_len, *]; done))

attribute [irreducible] cvBase
end Go.Proofs.Ytcekjmejppemeaa
/- (curve.point).packed (Drawn up by a program.) -/
namespace Go.Proofs.Ytcekjmejppemeaa
open Go.RowKit
def cvPacked (p : List (BitVec 64)) : List (BitVec 8) := (if (((nth (lmBytes (lmMul (cut p 0 5) (lmInv (cut p 10 5)))) 0) &&& 1#8) == 1#8) = true then put (lmBytes (lmMul (cut p 5 5) (lmInv (cut p 10 5)))) 31 ((nth (lmBytes (lmMul (cut p 5 5) (lmInv (cut p 10 5)))) 31) ||| 128#8) else lmBytes (lmMul (cut p 5 5) (lmInv (cut p 10 5))))
set_option maxRecDepth 100000 in
set_option maxHeartbeats 2000000 in
theorem cvPacked_ev (p : List (BitVec 64)) (hp : p.length = 20) : Ev Try.prog (.call 38 [.agg (.a64 (p))] []) (.val (.agg (.a8 (cvPacked p))) []) := by
  have hP : Hid (cvPacked p = (if (((nth (lmBytes (lmMul (cut p 0 5) (lmInv (cut p 10 5)))) 0) &&& 1#8) == 1#8) = true then put (lmBytes (lmMul (cut p 5 5) (lmInv (cut p 10 5)))) 31 ((nth (lmBytes (lmMul (cut p 5 5) (lmInv (cut p 10 5)))) 31) ||| 128#8) else lmBytes (lmMul (cut p 5 5) (lmInv (cut p 10 5))))) := ⟨rfl⟩
  refine c_call Try.func38 rfl Try.ntmps38 rfl LEN_ ?_
  refine S_ ?_
  refine c_region ?_
  refine s_memN (m_box BX_ LEN_) APP_ rfl ?_
  refine s_memN (m_alloc al_22 LEN_) APP_ rfl ?_
  refine s_nil ?_
  have hQ1 : (cut p 10 5).length = 5 := LQ_
  have hQ2 : (lmInv (cut p 10 5)).length = 5 := LQ_
  refine S_ ?_
  refine c_region ?_
  refine s_val (v_fieldP rfl (fa_56_2 _ _)) rfl ?_
  refine s_val (v_loadW64 rfl rfl row_54 sz_54 LE_ (by decide)) rfl ?_
  refine s_evN (e_callR (bs := []) (lmInv_ev (cut p 10 5) HYP_) ok_45 (by kernel_rfl) (by kernel_rfl) rfl VAL_) APP_ rfl ?_
  refine s_memN (m_alloc al_54 LEN_) APP_ rfl ?_
  refine s_storeR rfl rfl rfl rfl sz_54 EQ_ EQ_ SET_ ?_
  refine s_nil ?_
  have hQ3 : (cut p 5 5).length = 5 := LQ_
  have hQ4 : (lmMul (cut p 5 5) (lmInv (cut p 10 5))).length = 5 := LQ_
  have hQ5 : (lmBytes (lmMul (cut p 5 5) (lmInv (cut p 10 5)))).length = 32 := LQ_
  refine S_ ?_
  refine c_region ?_
  refine s_val (v_fieldP rfl (fa_56_1 _ _)) rfl ?_
  refine s_val (v_loadW64 rfl rfl row_54 sz_54 LE_ (by decide)) rfl ?_
  refine s_val (v_loadR rfl rfl row_54 sz_54 EQ_ (by decide)) rfl ?_
  refine s_evN (e_callR (bs := []) (lmMul_ev (cut p 5 5) (lmInv (cut p 10 5)) HYP_ HYP_) ok_43 (by kernel_rfl) (by kernel_rfl) rfl VAL_) APP_ rfl ?_
  refine s_evN (e_callR (bs := []) (lmBytes_ev (lmMul (cut p 5 5) (lmInv (cut p 10 5))) HYP_) ok_42 (by kernel_rfl) (by kernel_rfl) rfl VAL_) APP_ rfl ?_
  refine s_memN (m_alloc al_22 LEN_) APP_ rfl ?_
  refine s_storeR rfl rfl rfl rfl sz_22 EQ_ EQ_ SET_ ?_
  refine s_nil ?_
  have hQ6 : (cut p 0 5).length = 5 := LQ_
  have hQ7 : (lmMul (cut p 0 5) (lmInv (cut p 10 5))).length = 5 := LQ_
  refine S_ ?_
  refine c_region ?_
  refine s_val (v_fieldP rfl (fa_56_0 _ _)) rfl ?_
  refine s_val (v_loadW64 rfl rfl row_54 sz_54 LE_ (by decide)) rfl ?_
  refine s_val (v_loadR rfl rfl row_54 sz_54 EQ_ (by decide)) rfl ?_
  refine s_evN (e_callR (bs := []) (lmMul_ev (cut p 0 5) (lmInv (cut p 10 5)) HYP_ HYP_) ok_43 (by kernel_rfl) (by kernel_rfl) rfl VAL_) APP_ rfl ?_
  refine s_evN (e_callR (bs := []) (lmOdd_ev (lmMul (cut p 0 5) (lmInv (cut p 10 5))) HYP_) ok_48 (by kernel_rfl) (by kernel_rfl) rfl VAL_) APP_ rfl ?_
  refine s_nil ?_
  refine Q_ ?_
  refine c_join [2, 4] (fun (zz : List (BitVec 8)) => ⟨23, keepT [2, 4] [.c (.ptr 0 0), .c (.ptr 1 0)], [.row true (.a8 (zer8 32)), .row true (.a8 (zz))]⟩) (if (((nth (lmBytes (lmMul (cut p 0 5) (lmInv (cut p 10 5)))) 0) &&& 1#8) == 1#8) = true then put (lmBytes (lmMul (cut p 5 5) (lmInv (cut p 10 5)))) 31 ((nth (lmBytes (lmMul (cut p 5 5) (lmInv (cut p 10 5)))) 31) ||| 128#8) else lmBytes (lmMul (cut p 5 5) (lmInv (cut p 10 5)))) rfl (fun hb => ?_) (fun hb => ?_) ?_
  · -- the test is True
    refine S_ ?_
    refine c_region ?_
    refine s_val (v_idxA1 (j := 31) rfl rfl Try.underlying22 sz_5 (by omega)) rfl ?_
    refine s_val (v_load8 rfl rfl row_5 LT_) rfl ?_
    refine s_val (v_or8 (b := 128#8) rfl rfl) rfl ?_
    refine s_val (v_idxA1 (j := 31) rfl rfl Try.underlying22 sz_5 (by omega)) rfl ?_
    refine s_store8 rfl rfl rfl sz_5 LT_ SET_ ?_
    refine s_nil ?_
    refine S_ ?_
    refine ⟨(put (lmBytes (lmMul (cut p 5 5) (lmInv (cut p 10 5)))) 31 ((nth (lmBytes (lmMul (cut p 5 5) (lmInv (cut p 10 5)))) 31) ||| 128#8)), by kernel_rfl, ?_⟩
    rw [if_pos (hb)]
  · -- the test is False
    refine S_ ?_
    refine ⟨(lmBytes (lmMul (cut p 5 5) (lmInv (cut p 10 5)))), by kernel_rfl, ?_⟩
    rw [if_neg (by first | (rw [hb]; decide) | simp [hb])]
  have hJ8 : (if (((nth (lmBytes (lmMul (cut p 0 5) (lmInv (cut p 10 5)))) 0) &&& 1#8) == 1#8) = true then put (lmBytes (lmMul (cut p 5 5) (lmInv (cut p 10 5)))) 31 ((nth (lmBytes (lmMul (cut p 5 5) (lmInv (cut p 10 5)))) 31) ||| 128#8) else lmBytes (lmMul (cut p 5 5) (lmInv (cut p 10 5)))).length = 32 := by split <;> simp [*]
  generalize (if (((nth (lmBytes (lmMul (cut p 0 5) (lmInv (cut p 10 5)))) 0) &&& 1#8) == 1#8) = true then put (lmBytes (lmMul (cut p 5 5) (lmInv (cut p 10 5)))) 31 ((nth (lmBytes (lmMul (cut p 5 5) (lmInv (cut p 10 5)))) 31) ||| 128#8) else lmBytes (lmMul (cut p 5 5) (lmInv (cut p 10 5)))) = J8 at *
  refine S_ ?_
  refine c_region ?_
  refine s_val (v_loadR rfl rfl row_22 sz_22 EQ_ (by decide)) rfl ?_
  refine s_storeR rfl rfl rfl rfl sz_22 EQ_ EQ_ SET_ ?_
  refine s_nil ?_
  refine S_ ?_
  rw [hP.out]
  exact k_1 (r_row rfl rfl row_22 sz_22 EQ_ (by decide)) (by first | kernel_rfl | rfl)

@[simp] theorem cvPacked_len (p : List (BitVec 64)) (hp : p.length = 20) : (cvPacked p).length = 32 := by
  unfold cvPacked
  first | (simp (maxDischargeDepth := 9) [*]; done) | (simp (maxDischargeDepth := 9) [*]; omega) | (split <;> (simp (maxDischargeDepth := 9) [*]; done))

attribute [irreducible] cvPacked
end Go.Proofs.Ytcekjmejppemeaa
/- curve.Check, curve.Check, curve.Add, curve.Add, curve.Add, curve.Times, curve.Times, curve.Base (Drawn up by a program.) -/
namespace Go.Proofs.Ytcekjmejppemeaa
open Go.RowKit

set_option maxRecDepth 100000 in
set_option maxHeartbeats 2000000 in
theorem cvCheckT_ev (p : List (BitVec 8)) (hp : p.length = 32) (hk : unOk p = true) : Ev Try.prog (.call 14 [.agg (.a8 (p))] []) (.val (.c (.val (.int .i64 ((0 : Nat) : Int)))) []) := by
  refine c_call Try.func14 rfl Try.ntmps14 rfl LEN_ ?_
  refine S_ ?_
  refine c_region ?_
  refine s_memN (m_box BX_ LEN_) APP_ rfl ?_
  refine s_val (v_assignC rfl) rfl ?_
  refine s_nil ?_
  have hQ2 : (unP p).length = 20 := LQ_
  have hE1 : (unOk p) = true := hk
  refine S_ ?_
  refine c_region ?_
  refine s_val (v_loadR rfl rfl row_22 sz_22 EQ_ (by decide)) rfl ?_
  refine s_evN (e_callR (bs := []) (un_ev p HYP_) ok_39 (by kernel_rfl) (by kernel_rfl) rfl VAL_) APP_ rfl ?_
  refine s_val (v_moveT rfl) rfl ?_
  refine s_val (v_extract rfl rfl) rfl ?_
  refine s_val (v_bool (v_extract rfl rfl) hE1) rfl ?_
  refine s_memN (m_alloc al_56 LEN_) APP_ rfl ?_
  refine s_storeR rfl rfl rfl rfl sz_56 EQ_ EQ_ SET_ ?_
  refine s_val (v_assignC rfl) rfl ?_
  refine s_nil ?_
  refine S_ ?_
  refine c_region ?_
  refine s_val (v_moveC rfl) rfl ?_
  refine s_val (v_unnotB rfl) rfl ?_
  refine s_nil ?_
  refine S_ ?_
  refine c_region ?_
  refine s_val (v_assignC rfl) rfl ?_
  refine s_nil ?_
  refine S_ ?_
  exact k_1 (by first | exact r_tmpC rfl | exact r_tmpA rfl) (by first | kernel_rfl | rfl)


set_option maxRecDepth 100000 in
set_option maxHeartbeats 2000000 in
theorem cvCheckF_ev (p : List (BitVec 8)) (hp : p.length = 32) (hk : unOk p = false) : Ev Try.prog (.call 14 [.agg (.a8 (p))] []) (.val (.c (.val (.int .i64 ((4 : Nat) : Int)))) []) := by
  refine c_call Try.func14 rfl Try.ntmps14 rfl LEN_ ?_
  refine S_ ?_
  refine c_region ?_
  refine s_memN (m_box BX_ LEN_) APP_ rfl ?_
  refine s_val (v_assignC rfl) rfl ?_
  refine s_nil ?_
  have hQ2 : (unP p).length = 20 := LQ_
  have hE1 : (unOk p) = false := hk
  refine S_ ?_
  refine c_region ?_
  refine s_val (v_loadR rfl rfl row_22 sz_22 EQ_ (by decide)) rfl ?_
  refine s_evN (e_callR (bs := []) (un_ev p HYP_) ok_39 (by kernel_rfl) (by kernel_rfl) rfl VAL_) APP_ rfl ?_
  refine s_val (v_moveT rfl) rfl ?_
  refine s_val (v_extract rfl rfl) rfl ?_
  refine s_val (v_bool (v_extract rfl rfl) hE1) rfl ?_
  refine s_memN (m_alloc al_56 LEN_) APP_ rfl ?_
  refine s_storeR rfl rfl rfl rfl sz_56 EQ_ EQ_ SET_ ?_
  refine s_val (v_assignC rfl) rfl ?_
  refine s_nil ?_
  refine S_ ?_
  refine c_region ?_
  refine s_val (v_moveC rfl) rfl ?_
  refine s_val (v_unnotB rfl) rfl ?_
  refine s_nil ?_
  refine S_ ?_
  refine c_region ?_
  refine s_val (v_assignC rfl) rfl ?_
  refine s_nil ?_
  refine S_ ?_
  exact k_1 (by first | exact r_tmpC rfl | exact r_tmpA rfl) (by first | kernel_rfl | rfl)

def cvAddT0 (p : List (BitVec 8)) (q : List (BitVec 8)) : List (BitVec 8) := cvPacked (cvSum (unP p) (unP q))
set_option maxRecDepth 100000 in
set_option maxHeartbeats 2000000 in
theorem cvAddT_ev (p : List (BitVec 8)) (q : List (BitVec 8)) (hp : p.length = 32) (hq : q.length = 32) (hk : unOk p = true) (hq_ : unOk q = true) : Ev Try.prog (.call 13 [.agg (.a8 (p)), .agg (.a8 (q))] []) (.val (.tup [.agg (.a8 (cvAddT0 p q)), .c (.val (.int .i64 ((0 : Nat) : Int)))]) []) := by
  have hP_cvAddT0 : Hid (cvAddT0 p q = cvPacked (cvSum (unP p) (unP q))) := ⟨rfl⟩
  refine c_call Try.func13 rfl Try.ntmps13 rfl LEN_ ?_
  refine S_ ?_
  refine c_region ?_
  refine s_memN (m_box BX_ LEN_) APP_ rfl ?_
  refine s_memN (m_box BX_ LEN_) APP_ rfl ?_
  refine s_memN (m_alloc al_22 LEN_) APP_ rfl ?_
  refine s_val (v_assignC rfl) rfl ?_
  refine s_nil ?_
  have hQ2 : (unP p).length = 20 := LQ_
  have hE1 : (unOk p) = true := hk
  refine S_ ?_
  refine c_region ?_
  refine s_val (v_loadR rfl rfl row_22 sz_22 EQ_ (by decide)) rfl ?_
  refine s_evN (e_callR (bs := []) (un_ev p HYP_) ok_39 (by kernel_rfl) (by kernel_rfl) rfl VAL_) APP_ rfl ?_
  refine s_val (v_moveT rfl) rfl ?_
  refine s_val (v_extract rfl rfl) rfl ?_
  refine s_val (v_bool (v_extract rfl rfl) hE1) rfl ?_
  refine s_memN (m_alloc al_56 LEN_) APP_ rfl ?_
  refine s_storeR rfl rfl rfl rfl sz_56 EQ_ EQ_ SET_ ?_
  refine s_val (v_assignC rfl) rfl ?_
  refine s_nil ?_
  have hQ4 : (unP q).length = 20 := LQ_
  have hE3 : (unOk q) = true := hq_
  refine S_ ?_
  refine c_region ?_
  refine s_val (v_loadR rfl rfl row_22 sz_22 EQ_ (by decide)) rfl ?_
  refine s_evN (e_callR (bs := []) (un_ev q HYP_) ok_39 (by kernel_rfl) (by kernel_rfl) rfl VAL_) APP_ rfl ?_
  refine s_val (v_moveT rfl) rfl ?_
  refine s_val (v_extract rfl rfl) rfl ?_
  refine s_val (v_bool (v_extract rfl rfl) hE3) rfl ?_
  refine s_memN (m_alloc al_56 LEN_) APP_ rfl ?_
  refine s_storeR rfl rfl rfl rfl sz_56 EQ_ EQ_ SET_ ?_
  refine s_val (v_assignC rfl) rfl ?_
  refine s_nil ?_
  refine S_ ?_
  refine c_region ?_
  refine s_val (v_moveC rfl) rfl ?_
  refine s_val (v_unnotB rfl) rfl ?_
  refine s_val (v_moveC rfl) rfl ?_
  refine s_go GO_ ?_
  refine s_val (v_moveC rfl) rfl ?_
  refine s_go GO_ ?_
  refine s_val (v_unnotB rfl) rfl ?_
  refine s_val (v_pickF rfl PK_ rfl) rfl ?_
  refine s_nil ?_
  have hQ5 : (cvSum (unP p) (unP q)).length = 20 := LQ_
  have hQ6 : (cvPacked (cvSum (unP p) (unP q))).length = 32 := LQ_
  refine S_ ?_
  refine c_region ?_
  refine s_val (v_loadR rfl rfl row_56 sz_56 EQ_ (by decide)) rfl ?_
  refine s_val (v_loadR rfl rfl row_56 sz_56 EQ_ (by decide)) rfl ?_
  refine s_evN (e_callR (bs := []) (cvSum_ev (unP p) (unP q) HYP_ HYP_) ok_40 (by kernel_rfl) (by kernel_rfl) rfl VAL_) APP_ rfl ?_
  refine s_evN (e_callR (bs := []) (cvPacked_ev (cvSum (unP p) (unP q)) HYP_) ok_38 (by kernel_rfl) (by kernel_rfl) rfl VAL_) APP_ rfl ?_
  refine s_storeR rfl rfl rfl rfl sz_22 EQ_ EQ_ SET_ ?_
  refine s_val (v_assignC rfl) rfl ?_
  refine s_nil ?_
  refine S_ ?_
  rw [hP_cvAddT0.out]
  exact k_2 (r_row rfl rfl row_22 sz_22 EQ_ (by decide)) (by first | exact r_tmpC rfl | exact r_tmpA rfl) (by first | kernel_rfl | rfl)

@[simp] theorem cvAddT0_len (p : List (BitVec 8)) (q : List (BitVec 8)) (hp : p.length = 32) (hq : q.length = 32) : (cvAddT0 p q).length = 32 := by
  unfold cvAddT0
  first | (simp (maxDischargeDepth := 9) [*]; done) | (simp (maxDischargeDepth := 9) [*]; omega) | (split <;> (simp (maxDischargeDepth := 9) [*]; done))

attribute [irreducible] cvAddT0

def cvAddF0  : List (BitVec 8) := zer8 32
set_option maxRecDepth 100000 in
set_option maxHeartbeats 2000000 in
theorem cvAddF_ev (p : List (BitVec 8)) (q : List (BitVec 8)) (hp : p.length = 32) (hq : q.length = 32) (hk : unOk p = true) (hq_ : unOk q = false) : Ev Try.prog (.call 13 [.agg (.a8 (p)), .agg (.a8 (q))] []) (.val (.tup [.agg (.a8 (cvAddF0)), .c (.val (.int .i64 ((4 : Nat) : Int)))]) []) := by
  have hP_cvAddF0 : Hid (cvAddF0 = zer8 32) := ⟨rfl⟩
  refine c_call Try.func13 rfl Try.ntmps13 rfl LEN_ ?_
  refine S_ ?_
  refine c_region ?_
  refine s_memN (m_box BX_ LEN_) APP_ rfl ?_
  refine s_memN (m_box BX_ LEN_) APP_ rfl ?_
  refine s_memN (m_alloc al_22 LEN_) APP_ rfl ?_
  refine s_val (v_assignC rfl) rfl ?_
  refine s_nil ?_
  have hQ2 : (unP p).length = 20 := LQ_
  have hE1 : (unOk p) = true := hk
  refine S_ ?_
  refine c_region ?_
  refine s_val (v_loadR rfl rfl row_22 sz_22 EQ_ (by decide)) rfl ?_
  refine s_evN (e_callR (bs := []) (un_ev p HYP_) ok_39 (by kernel_rfl) (by kernel_rfl) rfl VAL_) APP_ rfl ?_
  refine s_val (v_moveT rfl) rfl ?_
  refine s_val (v_extract rfl rfl) rfl ?_
  refine s_val (v_bool (v_extract rfl rfl) hE1) rfl ?_
  refine s_memN (m_alloc al_56 LEN_) APP_ rfl ?_
  refine s_storeR rfl rfl rfl rfl sz_56 EQ_ EQ_ SET_ ?_
  refine s_val (v_assignC rfl) rfl ?_
  refine s_nil ?_
  have hQ4 : (unP q).length = 20 := LQ_
  have hE3 : (unOk q) = false := hq_
  refine S_ ?_
  refine c_region ?_
  refine s_val (v_loadR rfl rfl row_22 sz_22 EQ_ (by decide)) rfl ?_
  refine s_evN (e_callR (bs := []) (un_ev q HYP_) ok_39 (by kernel_rfl) (by kernel_rfl) rfl VAL_) APP_ rfl ?_
  refine s_val (v_moveT rfl) rfl ?_
  refine s_val (v_extract rfl rfl) rfl ?_
  refine s_val (v_bool (v_extract rfl rfl) hE3) rfl ?_
  refine s_memN (m_alloc al_56 LEN_) APP_ rfl ?_
  refine s_storeR rfl rfl rfl rfl sz_56 EQ_ EQ_ SET_ ?_
  refine s_val (v_assignC rfl) rfl ?_
  refine s_nil ?_
  refine S_ ?_
  refine c_region ?_
  refine s_val (v_moveC rfl) rfl ?_
  refine s_val (v_unnotB rfl) rfl ?_
  refine s_val (v_moveC rfl) rfl ?_
  refine s_go GO_ ?_
  refine s_val (v_moveC rfl) rfl ?_
  refine s_go GO_ ?_
  refine s_val (v_unnotB rfl) rfl ?_
  refine s_val (v_pickF rfl PK_ rfl) rfl ?_
  refine s_nil ?_
  refine S_ ?_
  refine c_region ?_
  refine s_val (v_blf8 (l := (zer8 32)) za_22 Try.underlying22 sz_5 rfl rfl) rfl ?_
  refine s_storeR rfl rfl rfl rfl sz_22 EQ_ EQ_ SET_ ?_
  refine s_val (v_assignC rfl) rfl ?_
  refine s_nil ?_
  refine S_ ?_
  rw [hP_cvAddF0.out]
  exact k_2 (r_row rfl rfl row_22 sz_22 EQ_ (by decide)) (by first | exact r_tmpC rfl | exact r_tmpA rfl) (by first | kernel_rfl | rfl)

@[simp] theorem cvAddF0_len  : (cvAddF0).length = 32 := by
  unfold cvAddF0
  first | (simp (maxDischargeDepth := 9) [*]; done) | (simp (maxDischargeDepth := 9) [*]; omega) | (split <;> (simp (maxDischargeDepth := 9) [*]; done))

attribute [irreducible] cvAddF0

def cvAddN0  : List (BitVec 8) := zer8 32
set_option maxRecDepth 100000 in
set_option maxHeartbeats 2000000 in
theorem cvAddN_ev (p : List (BitVec 8)) (q : List (BitVec 8)) (hp : p.length = 32) (hq : q.length = 32) (hk : unOk p = false) : Ev Try.prog (.call 13 [.agg (.a8 (p)), .agg (.a8 (q))] []) (.val (.tup [.agg (.a8 (cvAddN0)), .c (.val (.int .i64 ((4 : Nat) : Int)))]) []) := by
  have hP_cvAddN0 : Hid (cvAddN0 = zer8 32) := ⟨rfl⟩
  refine c_call Try.func13 rfl Try.ntmps13 rfl LEN_ ?_
  refine S_ ?_
  refine c_region ?_
  refine s_memN (m_box BX_ LEN_) APP_ rfl ?_
  refine s_memN (m_box BX_ LEN_) APP_ rfl ?_
  refine s_memN (m_alloc al_22 LEN_) APP_ rfl ?_
  refine s_val (v_assignC rfl) rfl ?_
  refine s_nil ?_
  have hQ2 : (unP p).length = 20 := LQ_
  have hE1 : (unOk p) = false := hk
  refine S_ ?_
  refine c_region ?_
  refine s_val (v_loadR rfl rfl row_22 sz_22 EQ_ (by decide)) rfl ?_
  refine s_evN (e_callR (bs := []) (un_ev p HYP_) ok_39 (by kernel_rfl) (by kernel_rfl) rfl VAL_) APP_ rfl ?_
  refine s_val (v_moveT rfl) rfl ?_
  refine s_val (v_extract rfl rfl) rfl ?_
  refine s_val (v_bool (v_extract rfl rfl) hE1) rfl ?_
  refine s_memN (m_alloc al_56 LEN_) APP_ rfl ?_
  refine s_storeR rfl rfl rfl rfl sz_56 EQ_ EQ_ SET_ ?_
  refine s_val (v_assignC rfl) rfl ?_
  refine s_nil ?_
  have hQ3 : (unP q).length = 20 := LQ_
  refine S_ ?_
  refine c_region ?_
  refine s_val (v_loadR rfl rfl row_22 sz_22 EQ_ (by decide)) rfl ?_
  refine s_evN (e_callR (bs := []) (un_ev q HYP_) ok_39 (by kernel_rfl) (by kernel_rfl) rfl VAL_) APP_ rfl ?_
  refine s_val (v_moveT rfl) rfl ?_
  refine s_val (v_extract rfl rfl) rfl ?_
  refine s_val (v_extract rfl rfl) rfl ?_
  refine s_memN (m_alloc al_56 LEN_) APP_ rfl ?_
  refine s_storeR rfl rfl rfl rfl sz_56 EQ_ EQ_ SET_ ?_
  refine s_val (v_assignC rfl) rfl ?_
  refine s_nil ?_
  refine S_ ?_
  refine c_region ?_
  refine s_val (v_moveC rfl) rfl ?_
  refine s_val (v_unnotB rfl) rfl ?_
  refine s_val (v_moveC rfl) rfl ?_
  refine s_no GO_ rfl ?_
  refine s_no GO_ rfl ?_
  refine s_val (v_pickT rfl PK_ rfl) rfl ?_
  refine s_nil ?_
  refine S_ ?_
  refine c_region ?_
  refine s_val (v_blf8 (l := (zer8 32)) za_22 Try.underlying22 sz_5 rfl rfl) rfl ?_
  refine s_storeR rfl rfl rfl rfl sz_22 EQ_ EQ_ SET_ ?_
  refine s_val (v_assignC rfl) rfl ?_
  refine s_nil ?_
  refine S_ ?_
  rw [hP_cvAddN0.out]
  exact k_2 (r_row rfl rfl row_22 sz_22 EQ_ (by decide)) (by first | exact r_tmpC rfl | exact r_tmpA rfl) (by first | kernel_rfl | rfl)

@[simp] theorem cvAddN0_len  : (cvAddN0).length = 32 := by
  unfold cvAddN0
  first | (simp (maxDischargeDepth := 9) [*]; done) | (simp (maxDischargeDepth := 9) [*]; omega) | (split <;> (simp (maxDischargeDepth := 9) [*]; done))

attribute [irreducible] cvAddN0

def cvTmsT0 (n : List (BitVec 8)) (p : List (BitVec 8)) : List (BitVec 8) := cvPacked (cvTimes n (unP p))
set_option maxRecDepth 100000 in
set_option maxHeartbeats 2000000 in
theorem cvTmsT_ev (n : List (BitVec 8)) (p : List (BitVec 8)) (hn : n.length = 32) (hp : p.length = 32) (hk : unOk p = true) : Ev Try.prog (.call 17 [.agg (.a8 (n)), .agg (.a8 (p))] []) (.val (.tup [.agg (.a8 (cvTmsT0 n p)), .c (.val (.int .i64 ((0 : Nat) : Int)))]) []) := by
  have hP_cvTmsT0 : Hid (cvTmsT0 n p = cvPacked (cvTimes n (unP p))) := ⟨rfl⟩
  refine c_call Try.func17 rfl Try.ntmps17 rfl LEN_ ?_
  refine S_ ?_
  refine c_region ?_
  refine s_memN (m_box BX_ LEN_) APP_ rfl ?_
  refine s_memN (m_box BX_ LEN_) APP_ rfl ?_
  refine s_memN (m_alloc al_22 LEN_) APP_ rfl ?_
  refine s_val (v_assignC rfl) rfl ?_
  refine s_nil ?_
  have hQ2 : (unP p).length = 20 := LQ_
  have hE1 : (unOk p) = true := hk
  refine S_ ?_
  refine c_region ?_
  refine s_val (v_loadR rfl rfl row_22 sz_22 EQ_ (by decide)) rfl ?_
  refine s_evN (e_callR (bs := []) (un_ev p HYP_) ok_39 (by kernel_rfl) (by kernel_rfl) rfl VAL_) APP_ rfl ?_
  refine s_val (v_moveT rfl) rfl ?_
  refine s_val (v_extract rfl rfl) rfl ?_
  refine s_val (v_bool (v_extract rfl rfl) hE1) rfl ?_
  refine s_memN (m_alloc al_56 LEN_) APP_ rfl ?_
  refine s_storeR rfl rfl rfl rfl sz_56 EQ_ EQ_ SET_ ?_
  refine s_val (v_assignC rfl) rfl ?_
  refine s_nil ?_
  refine S_ ?_
  refine c_region ?_
  refine s_val (v_moveC rfl) rfl ?_
  refine s_val (v_unnotB rfl) rfl ?_
  refine s_nil ?_
  have hQ3 : (cvTimes n (unP p)).length = 20 := LQ_
  have hQ4 : (cvPacked (cvTimes n (unP p))).length = 32 := LQ_
  refine S_ ?_
  refine c_region ?_
  refine s_val (v_loadR rfl rfl row_22 sz_22 EQ_ (by decide)) rfl ?_
  refine s_val (v_loadR rfl rfl row_56 sz_56 EQ_ (by decide)) rfl ?_
  refine s_evN (e_callR (bs := []) (cvTimes_ev n (unP p) HYP_ HYP_) ok_36 (by kernel_rfl) (by kernel_rfl) rfl VAL_) APP_ rfl ?_
  refine s_evN (e_callR (bs := []) (cvPacked_ev (cvTimes n (unP p)) HYP_) ok_38 (by kernel_rfl) (by kernel_rfl) rfl VAL_) APP_ rfl ?_
  refine s_storeR rfl rfl rfl rfl sz_22 EQ_ EQ_ SET_ ?_
  refine s_val (v_assignC rfl) rfl ?_
  refine s_nil ?_
  refine S_ ?_
  rw [hP_cvTmsT0.out]
  exact k_2 (r_row rfl rfl row_22 sz_22 EQ_ (by decide)) (by first | exact r_tmpC rfl | exact r_tmpA rfl) (by first | kernel_rfl | rfl)

@[simp] theorem cvTmsT0_len (n : List (BitVec 8)) (p : List (BitVec 8)) (hn : n.length = 32) (hp : p.length = 32) : (cvTmsT0 n p).length = 32 := by
  unfold cvTmsT0
  first | (simp (maxDischargeDepth := 9) [*]; done) | (simp (maxDischargeDepth := 9) [*]; omega) | (split <;> (simp (maxDischargeDepth := 9) [*]; done))

attribute [irreducible] cvTmsT0

def cvTmsF0  : List (BitVec 8) := zer8 32
set_option maxRecDepth 100000 in
set_option maxHeartbeats 2000000 in
theorem cvTmsF_ev (n : List (BitVec 8)) (p : List (BitVec 8)) (_hn : n.length = 32) (hp : p.length = 32) (hk : unOk p = false) : Ev Try.prog (.call 17 [.agg (.a8 (n)), .agg (.a8 (p))] []) (.val (.tup [.agg (.a8 (cvTmsF0)), .c (.val (.int .i64 ((4 : Nat) : Int)))]) []) := by
  have hP_cvTmsF0 : Hid (cvTmsF0 = zer8 32) := ⟨rfl⟩
  refine c_call Try.func17 rfl Try.ntmps17 rfl LEN_ ?_
  refine S_ ?_
  refine c_region ?_
  refine s_memN (m_box BX_ LEN_) APP_ rfl ?_
  refine s_memN (m_box BX_ LEN_) APP_ rfl ?_
  refine s_memN (m_alloc al_22 LEN_) APP_ rfl ?_
  refine s_val (v_assignC rfl) rfl ?_
  refine s_nil ?_
  have hQ2 : (unP p).length = 20 := LQ_
  have hE1 : (unOk p) = false := hk
  refine S_ ?_
  refine c_region ?_
  refine s_val (v_loadR rfl rfl row_22 sz_22 EQ_ (by decide)) rfl ?_
  refine s_evN (e_callR (bs := []) (un_ev p HYP_) ok_39 (by kernel_rfl) (by kernel_rfl) rfl VAL_) APP_ rfl ?_
  refine s_val (v_moveT rfl) rfl ?_
  refine s_val (v_extract rfl rfl) rfl ?_
  refine s_val (v_bool (v_extract rfl rfl) hE1) rfl ?_
  refine s_memN (m_alloc al_56 LEN_) APP_ rfl ?_
  refine s_storeR rfl rfl rfl rfl sz_56 EQ_ EQ_ SET_ ?_
  refine s_val (v_assignC rfl) rfl ?_
  refine s_nil ?_
  refine S_ ?_
  refine c_region ?_
  refine s_val (v_moveC rfl) rfl ?_
  refine s_val (v_unnotB rfl) rfl ?_
  refine s_nil ?_
  refine S_ ?_
  refine c_region ?_
  refine s_val (v_blf8 (l := (zer8 32)) za_22 Try.underlying22 sz_5 rfl rfl) rfl ?_
  refine s_storeR rfl rfl rfl rfl sz_22 EQ_ EQ_ SET_ ?_
  refine s_val (v_assignC rfl) rfl ?_
  refine s_nil ?_
  refine S_ ?_
  rw [hP_cvTmsF0.out]
  exact k_2 (r_row rfl rfl row_22 sz_22 EQ_ (by decide)) (by first | exact r_tmpC rfl | exact r_tmpA rfl) (by first | kernel_rfl | rfl)

@[simp] theorem cvTmsF0_len  : (cvTmsF0).length = 32 := by
  unfold cvTmsF0
  first | (simp (maxDischargeDepth := 9) [*]; done) | (simp (maxDischargeDepth := 9) [*]; omega) | (split <;> (simp (maxDischargeDepth := 9) [*]; done))

attribute [irreducible] cvTmsF0

def cvBs (n : List (BitVec 8)) : List (BitVec 8) := cvPacked (cvTimes n cvBase)
set_option maxRecDepth 100000 in
set_option maxHeartbeats 2000000 in
theorem cvBs_ev (n : List (BitVec 8)) (hn : n.length = 32) : Ev Try.prog (.call 12 [.agg (.a8 (n))] []) (.val (.agg (.a8 (cvBs n))) []) := by
  have hP : Hid (cvBs n = cvPacked (cvTimes n cvBase)) := ⟨rfl⟩
  refine c_call Try.func12 rfl Try.ntmps12 rfl LEN_ ?_
  refine S_ ?_
  refine c_region ?_
  refine s_memN (m_box BX_ LEN_) APP_ rfl ?_
  refine s_memN (m_alloc al_22 LEN_) APP_ rfl ?_
  refine s_nil ?_
  have hQ1 : (cvBase).length = 20 := LQ_
  have hQ2 : (cvTimes n cvBase).length = 20 := LQ_
  have hQ3 : (cvPacked (cvTimes n cvBase)).length = 32 := LQ_
  refine S_ ?_
  refine c_draw 4 mixed (by kernel_rfl) rfl rfl rfl ?_
  refine h_val (v_loadR rfl rfl row_22 sz_22 EQ_ (by decide)) rfl ?_
  refine h_evN (e_callR (bs := []) (cvBase_ev) ok_37 (by kernel_rfl) (by kernel_rfl) rfl VAL_) APP_ rfl ?_
  refine h_evN (e_callR (bs := []) (cvTimes_ev n cvBase HYP_ HYP_) ok_36 (by kernel_rfl) (by kernel_rfl) rfl VAL_) APP_ rfl ?_
  refine h_evN (e_callR (bs := []) (cvPacked_ev (cvTimes n cvBase) HYP_) ok_38 (by kernel_rfl) (by kernel_rfl) rfl VAL_) APP_ rfl ?_
  refine h_nil ?_
  refine s_storeR rfl rfl rfl rfl sz_22 EQ_ EQ_ SET_ ?_
  refine s_nil ?_
  refine S_ ?_
  rw [hP.out]
  exact k_1 (r_row rfl rfl row_22 sz_22 EQ_ (by decide)) (by first | kernel_rfl | rfl)

@[simp] theorem cvBs_len (n : List (BitVec 8)) (hn : n.length = 32) : (cvBs n).length = 32 := by
  unfold cvBs
  first | (simp (maxDischargeDepth := 9) [*]; done) | (simp (maxDischargeDepth := 9) [*]; omega) | (split <;> (simp (maxDischargeDepth := 9) [*]; done))

attribute [irreducible] cvBs
end Go.Proofs.Ytcekjmejppemeaa
/- Lists of words, place by place. No program in sight. -/
namespace Go.Proofs.Ytcekjmejppemeaa
open Go.RowKit
theorem nthZ8 (n j : Nat) : nth (zer8 n) j = 0#8 := by
  unfold nth zer8
  rw [List.getD_eq_getElem?_getD, List.getElem?_replicate]
  split <;> rfl
theorem nthCut {n : Nat} (l : List (BitVec n)) (o k i : Nat) (h : i < k) : nth (cut l o k) i = nth l (o + i) := by
  unfold nth; exact cut_get l o k i 0 h
theorem nthOut {n : Nat} (l : List (BitVec n)) (i : Nat) (h : l.length ≤ i) : nth l i = 0 := by
  unfold nth; rw [List.getD_eq_getElem?_getD, List.getElem?_eq_none h]; rfl
theorem nthApp {n : Nat} (a b : List (BitVec n)) (i : Nat) : nth (a ++ b) i = if i < a.length then nth a i else nth b (i - a.length) := by
  unfold nth; exact app_getD a b i 0
theorem extNth {n : Nat} {a b : List (BitVec n)} (hl : a.length = b.length) (h : ∀ i, i < a.length → nth a i = nth b i) : a = b := by
  refine List.ext_getElem hl fun i h1 h2 => ?_
  have := h i h1
  rwa [nth_eq a i h1, nth_eq b i h2] at this
end Go.Proofs.Ytcekjmejppemeaa
/- The field's numbers as bytes. No program in sight. -/
namespace Go.Proofs.Ytcekjmejppemeaa
open Go.RowKit
/-- The number of the first bytes, the lowest first. -/
def leS (b : List (BitVec 8)) : Nat → Nat
  | 0 => 0
  | n + 1 => leS b n + (nth b n).toNat * 256 ^ n
theorem leS_lt (b : List (BitVec 8)) (n : Nat) : leS b n < 256 ^ n := by
  induction n with
  | zero => exact Nat.one_pos
  | succ n ih =>
    rw [leS, Nat.pow_succ]
    have h := (nth b n).isLt
    have : (nth b n).toNat * 256 ^ n ≤ 255 * 256 ^ n := Nat.mul_le_mul_right _ (by omega)
    omega
theorem leS_digit (b : List (BitVec 8)) (n i : Nat) (h : i < n) : leS b n / 256 ^ i % 256 = (nth b i).toNat := by
  induction n with
  | zero => omega
  | succ n ih =>
    rw [leS]
    have hp : 0 < 256 ^ i := Nat.pow_pos (by decide)
    by_cases e : i = n
    · subst e
      rw [Nat.add_mul_div_right _ _ hp, Nat.div_eq_of_lt (leS_lt b i), Nat.zero_add, Nat.mod_eq_of_lt (nth b i).isLt]
    · obtain ⟨k, hk⟩ : ∃ k, n = i + (k + 1) := ⟨n - i - 1, by omega⟩
      rw [← ih (by omega), hk, Nat.pow_add, Nat.pow_succ, show (nth b (i + (k + 1))).toNat * (256 ^ i * (256 ^ k * 256)) = ((nth b (i + (k + 1))).toNat * 256 ^ k * 256) * 256 ^ i from by grobner, Nat.add_mul_div_right _ _ hp, Nat.add_mul_mod_self_right]
def toB (n : Nat) : List (BitVec 8) := (List.range 32).map fun i => BitVec.ofNat 8 (n / 256 ^ i)
@[simp] theorem toB_len (n : Nat) : (toB n).length = 32 := by simp [toB]
theorem toB_nth (n i : Nat) (h : i < 32) : nth (toB n) i = BitVec.ofNat 8 (n / 256 ^ i) := by
  rw [nth_eq _ _ (by rw [toB_len]; exact h)]
  simp [toB]
theorem leS_toB (n k : Nat) (h : k ≤ 32) : leS (toB n) k = n % 256 ^ k := by
  induction k with
  | zero => rw [leS, Nat.pow_zero, Nat.mod_one]
  | succ k ih =>
    have e := @Nat.mod_mul (256 ^ k) 256 n
    rw [leS, ih (by omega), toB_nth _ _ (by omega), BitVec.toNat_ofNat, show (256 : Nat) ^ (k + 1) = 256 ^ k * 256 from Nat.pow_succ .., e, Nat.mul_comm (256 ^ k)]
theorem toB_leS {b : List (BitVec 8)} (h : b.length = 32) : toB (leS b 32) = b := by
  refine extNth (by rw [toB_len, h]) fun i hi => ?_
  rw [toB_len] at hi
  rw [toB_nth _ _ hi]
  apply BitVec.eq_of_toNat_eq
  rw [BitVec.toNat_ofNat]
  exact leS_digit b 32 i hi
theorem leS_inj {a b : List (BitVec 8)} (ha : a.length = 32) (hb : b.length = 32) (h : leS a 32 = leS b 32) : a = b := by
  rw [← toB_leS ha, h, toB_leS hb]
/-- The number of so many words, the lowest first. -/
def wvb (b : List (BitVec 8)) (t : Nat) : Nat → Nat
  | 0 => 0
  | m + 1 => wvb b t m + (nth b (8 * t + m)).toNat * 256 ^ m
theorem wvb_lt (b : List (BitVec 8)) (t m : Nat) : wvb b t m < 256 ^ m := by
  induction m with
  | zero => exact Nat.one_pos
  | succ m ih =>
    rw [wvb, Nat.pow_succ]
    have h := (nth b (8 * t + m)).isLt
    have : (nth b (8 * t + m)).toNat * 256 ^ m ≤ 255 * 256 ^ m := Nat.mul_le_mul_right _ (by omega)
    omega
theorem leS_wvb (b : List (BitVec 8)) : leS b 32 = wvb b 0 8 + wvb b 1 8 * 18446744073709551616 + wvb b 2 8 * 340282366920938463463374607431768211456 + wvb b 3 8 * 6277101735386680763835789423207666416102355444464034512896 := by
  simp only [leS, wvb, Nat.mul_zero, Nat.zero_add, Nat.reduceMul, Nat.reduceAdd, Nat.reducePow]
  omega
/-- A byte laid into a word, above what stands there. -/
theorem or_byte (x : BitVec 64) (b : BitVec 8) (k : Nat) (hk : k < 8) (hx : x.toNat < 256 ^ k) : (x ||| (b.setWidth 64 <<< (8 * k))).toNat = x.toNat + b.toNat * 256 ^ k := by
  have e : (256 : Nat) ^ k = 2 ^ (8 * k) := by rw [Nat.pow_mul]
  rw [e] at hx ⊢
  have hb := b.isLt
  have hp : b.toNat * 2 ^ (8 * k) < 2 ^ 64 := by
    have h1 : b.toNat * 2 ^ (8 * k) < 2 ^ 8 * 2 ^ (8 * k) := Nat.mul_lt_mul_of_pos_right hb (Nat.pow_pos (by decide))
    rw [← Nat.pow_add] at h1
    exact Nat.lt_of_lt_of_le h1 (Nat.pow_le_pow_right (by decide) (by omega))
  rw [BitVec.toNat_or, BitVec.toNat_shiftLeft, BitVec.toNat_setWidth, Nat.mod_eq_of_lt (show b.toNat < 2 ^ 64 by omega), Nat.shiftLeft_eq, Nat.mod_eq_of_lt hp, Nat.or_comm, ← Nat.shiftLeft_eq, ← Nat.shiftLeft_add_eq_or_of_lt hx, Nat.shiftLeft_eq, Nat.add_comm]
/-- Two parts of a word, side by side: what is shifted down, and what is shifted up. -/
theorem or_shift (x y : BitVec 64) (k : Nat) (hk : k ≤ 64) : (x >>> k ||| y <<< (64 - k)).toNat = x.toNat / 2 ^ k + y.toNat * 2 ^ (64 - k) % 2 ^ 64 := by
  have hx : x.toNat / 2 ^ k < 2 ^ (64 - k) := by
    rw [Nat.div_lt_iff_lt_mul (Nat.pow_pos (by decide)), ← Nat.pow_add, show 64 - k + k = 64 by omega]
    exact x.isLt
  have e : y.toNat * 2 ^ (64 - k) % 2 ^ 64 = y.toNat % 2 ^ k * 2 ^ (64 - k) := by
    have : (2 : Nat) ^ 64 = 2 ^ k * 2 ^ (64 - k) := by rw [← Nat.pow_add, show k + (64 - k) = 64 by omega]
    rw [this, Nat.mul_mod_mul_right]
  rw [BitVec.toNat_or, BitVec.toNat_shiftLeft, BitVec.toNat_ushiftRight, Nat.shiftRight_eq_div_pow, Nat.shiftLeft_eq, e, Nat.or_comm, ← Nat.shiftLeft_eq, ← Nat.shiftLeft_add_eq_or_of_lt hx, Nat.shiftLeft_eq, Nat.add_comm]
theorem mask_toNat (x : BitVec 64) : (x &&& 2251799813685247#64).toNat = x.toNat % 2251799813685248 := by
  rw [BitVec.toNat_and]
  exact Nat.and_two_pow_sub_one_eq_mod x.toNat 51
end Go.Proofs.Ytcekjmejppemeaa
/- Primes: Fermat's little theorem, Pocklington's test. No program in sight. -/
namespace Go.Proofs.Ytcekjmejppemeaa
/-- A prime. -/
def Pri (p : Nat) : Prop := 1 < p ∧ ∀ m, m ∣ p → m = 1 ∨ m = p
theorem Pri.pos {p : Nat} (h : Pri p) : 0 < p := by have := h.1; omega
theorem Pri.cop {p a : Nat} (h : Pri p) (ha : ¬ p ∣ a) : Nat.gcd p a = 1 := by
  rcases h.2 _ (Nat.gcd_dvd_left p a) with h1 | h1
  · exact h1
  · exact absurd (h1 ▸ Nat.gcd_dvd_right p a) ha
theorem Pri.euclid {p a b : Nat} (h : Pri p) (hd : p ∣ a * b) : p ∣ a ∨ p ∣ b := by
  by_cases ha : p ∣ a
  · exact .inl ha
  · exact .inr (Nat.Coprime.dvd_of_dvd_mul_left (h.cop ha) hd)
def cho : Nat → Nat → Nat
  | _, 0 => 1
  | 0, _ + 1 => 0
  | n + 1, k + 1 => cho n k + cho n (k + 1)
theorem cho_zero (n : Nat) : cho n 0 = 1 := by cases n <;> rfl
theorem cho_big : ∀ n k : Nat, n < k → cho n k = 0 := by
  intro n
  induction n with
  | zero => intro k hk; cases k with
    | zero => omega
    | succ k => rfl
  | succ n ih => intro k hk; cases k with
    | zero => omega
    | succ k => rw [cho, ih k (by omega), ih (k + 1) (by omega)]
theorem cho_self (n : Nat) : cho n n = 1 := by
  induction n with
  | zero => rfl
  | succ n ih => rw [cho, ih, cho_big n (n + 1) (by omega)]
theorem cho_mul : ∀ n k : Nat, (k + 1) * cho (n + 1) (k + 1) = (n + 1) * cho n k := by
  intro n
  induction n with
  | zero =>
    intro k
    cases k with
    | zero => rfl
    | succ k => simp [cho]
  | succ n ih =>
    intro k
    cases k with
    | zero =>
      have h := ih 0
      rw [cho_zero] at h ⊢
      show (0 + 1) * (cho (n + 1) 0 + cho (n + 1) (0 + 1)) = _
      rw [cho_zero]
      omega
    | succ k =>
      have h1 := ih k
      have h2 := ih (k + 1)
      rw [cho, Nat.mul_add, h2]
      have h3 : cho (n + 1) (k + 1) = cho n k + cho n (k + 1) := rfl
      rw [h3] at h1 ⊢
      grind
def csum (a n : Nat) : Nat → Nat
  | 0 => 0
  | m + 1 => csum a n m + cho n m * a ^ m
theorem csum_step (a n : Nat) : ∀ m, csum a (n + 1) (m + 1) = csum a n (m + 1) + a * csum a n m := by
  intro m
  induction m with
  | zero => simp [csum, cho_zero]
  | succ m ih =>
    rw [csum, ih]
    show _ = csum a n (m + 1) + cho n (m + 1) * a ^ (m + 1) + a * (csum a n m + cho n m * a ^ m)
    rw [cho, Nat.pow_succ]
    grind
theorem binom (a n : Nat) : (a + 1) ^ n = csum a n (n + 1) := by
  induction n with
  | zero => rfl
  | succ n ih =>
    rw [Nat.pow_succ, ih, csum_step]
    rw [show csum a n (n + 1 + 1) = csum a n (n + 1) + cho n (n + 1) * a ^ (n + 1) from rfl, cho_big n (n + 1) (by omega)]
    grind
theorem cho_dvd {p : Nat} (h : Pri p) (k : Nat) (h1 : 0 < k) (h2 : k < p) : p ∣ cho p k := by
  obtain ⟨q, rfl⟩ : ∃ q, p = q + 1 := ⟨p - 1, by omega⟩
  obtain ⟨j, rfl⟩ : ∃ j, k = j + 1 := ⟨k - 1, by omega⟩
  have := cho_mul q j
  rcases h.euclid (a := j + 1) (b := cho (q + 1) (j + 1)) (by rw [this]; exact Nat.dvd_mul_right _ _) with h3 | h3
  · have := Nat.le_of_dvd (by omega) h3; omega
  · exact h3
theorem csum_mod {p : Nat} (h : Pri p) (a : Nat) : ∀ m, m < p → csum a p (m + 1) % p = 1 % p := by
  intro m
  induction m with
  | zero => intro _; simp [csum, cho_zero]
  | succ m ih =>
    intro hm
    obtain ⟨c, hc⟩ := cho_dvd h (m + 1) (by omega) hm
    rw [csum, hc, Nat.mul_assoc, Nat.add_mul_mod_self_left, ih (by omega)]
theorem fermat {p : Nat} (h : Pri p) (a : Nat) : a ^ p % p = a % p := by
  induction a with
  | zero => rw [Nat.zero_pow h.pos]
  | succ a ih =>
    obtain ⟨q, rfl⟩ : ∃ q, p = q + 1 := ⟨p - 1, by have := h.pos; omega⟩
    rw [binom, csum, cho_self, Nat.one_mul, Nat.add_mod, csum_mod h a q (by omega), ih, ← Nat.add_mod, Nat.add_comm]
theorem dvd_of_mod {p x y : Nat} (h : x % p = y % p) : p ∣ x - y := Nat.dvd_of_mod_eq_zero (Nat.sub_mod_eq_zero_of_mod_eq h)
theorem mod_of_dvd {p x y : Nat} (h : p ∣ x - y) (hl : y ≤ x) : x % p = y % p := by
  obtain ⟨c, hc⟩ := h
  rw [show x = y + p * c from by omega, Nat.add_mul_mod_self_left]
/-- What stands on both sides goes, where it is no multiple of the prime. -/
theorem Pri.cancel {p a x y : Nat} (h : Pri p) (ha : ¬ p ∣ a) (he : a * x % p = a * y % p) : x % p = y % p := by
  have key : ∀ x y : Nat, y ≤ x → a * x % p = a * y % p → x % p = y % p := fun x y hl he => by
    have := dvd_of_mod he
    rw [← Nat.mul_sub] at this
    rcases h.euclid this with h1 | h1
    · exact absurd h1 ha
    · exact mod_of_dvd h1 hl
  rcases Nat.le_total y x with hl | hl
  · exact key x y hl he
  · exact (key y x hl he.symm).symm
theorem fermat1 {p a : Nat} (h : Pri p) (ha : ¬ p ∣ a) : a ^ (p - 1) % p = 1 := by
  have h1 := fermat h a
  obtain ⟨q, rfl⟩ : ∃ q, p = q + 1 := ⟨p - 1, by have := h.pos; omega⟩
  rw [Nat.add_sub_cancel]
  have h2 : a * a ^ q % (q + 1) = a * 1 % (q + 1) := by rw [← Nat.pow_succ', h1, Nat.mul_one]
  have h3 := h.cancel ha h2
  rw [h3, Nat.mod_eq_of_lt h.1]
theorem pow_mod_one {n a k : Nat} (m : Nat) (hn : 1 < n) (h : a ^ k % n = 1) : a ^ (k * m) % n = 1 := by
  rw [Nat.pow_mul, Nat.pow_mod, h, Nat.one_pow, Nat.mod_eq_of_lt hn]
/-- Powers that are 1: so is that to the greatest common divisor. -/
theorem pow_gcd {n a : Nat} (hn : 1 < n) : ∀ j k : Nat, a ^ j % n = 1 → a ^ k % n = 1 → a ^ Nat.gcd j k % n = 1 := by
  intro j
  induction j using Nat.strongRecOn with
  | _ j ih =>
    intro k hj hk
    cases j with
    | zero => rwa [Nat.gcd_zero_left]
    | succ j =>
      rw [Nat.gcd_succ]
      refine ih (k % (j + 1)) (Nat.mod_lt _ (by omega)) (j + 1) ?_ hj
      have h1 : a ^ k = a ^ ((j + 1) * (k / (j + 1))) * a ^ (k % (j + 1)) := by rw [← Nat.pow_add, Nat.div_add_mod]
      rw [h1, Nat.mul_mod, pow_mod_one _ hn hj, Nat.one_mul, Nat.mod_mod] at hk
      exact hk
/-- Each number above 1 has a prime divisor. -/
theorem exists_pri : ∀ n : Nat, 1 < n → ∃ r, Pri r ∧ r ∣ n := by
  intro n
  induction n using Nat.strongRecOn with
  | _ n ih =>
    intro hn
    by_cases h : Pri n
    · exact ⟨n, h, Nat.dvd_refl n⟩
    · have : ∃ m, m ∣ n ∧ m ≠ 1 ∧ m ≠ n := by
        refine Classical.byContradiction fun hc => h ⟨hn, fun m hm => ?_⟩
        refine Classical.byContradiction fun hc2 => hc ⟨m, hm, fun e => hc2 (.inl e), fun e => hc2 (.inr e)⟩
      obtain ⟨m, h1, h2, h3⟩ := this
      have hm0 : 0 < m := Nat.pos_of_dvd_of_pos h1 (by omega)
      have hml : m ≤ n := Nat.le_of_dvd (by omega) h1
      obtain ⟨r, hr, hrm⟩ := ih m (by omega) (by omega)
      exact ⟨r, hr, Nat.dvd_trans hrm h1⟩
/-- No divisor of less than its root: it is a prime. -/
theorem pri_of_no {n : Nat} (hn : 1 < n) (h : ∀ r, Pri r → r ∣ n → n < r * r) : Pri n := by
  refine ⟨hn, fun m hm => ?_⟩
  refine Classical.byContradiction fun hc => ?_
  obtain ⟨k, hk⟩ := hm
  have hm1 : m ≠ 1 := fun e => hc (.inl e)
  have hmn : m ≠ n := fun e => hc (.inr e)
  have hm0 : m ≠ 0 := fun e => by subst e; omega
  have hk0 : k ≠ 0 := fun e => by subst e; omega
  have hk1 : k ≠ 1 := fun e => by subst e; omega
  -- the smaller one of both has a prime divisor
  rcases Nat.le_total m k with hl | hl
  · obtain ⟨r, hr, hrm⟩ := exists_pri m (by omega)
    have h1 := h r hr (Nat.dvd_trans hrm ⟨k, hk⟩)
    have h2 := Nat.le_of_dvd (by omega) hrm
    have h3 : r * r ≤ m * k := Nat.mul_le_mul h2 (by omega)
    omega
  · obtain ⟨r, hr, hrm⟩ := exists_pri k (by omega)
    have h1 := h r hr (Nat.dvd_trans hrm ⟨m, by rw [hk, Nat.mul_comm]⟩)
    have h2 := Nat.le_of_dvd (by omega) hrm
    have h3 : r * r ≤ m * k := Nat.mul_le_mul (by omega) h2
    omega
/-- One step of Pocklington's test: a prime divisor of n is 1 modulo q. -/
theorem pock {n q k a r : Nat} (hq : Pri q) (hn : n = q * k + 1) (h1 : a ^ (n - 1) % n = 1) (h2 : Nat.gcd (a ^ k % n + (n - 1)) n = 1) (hr : Pri r) (hd : r ∣ n) : q ∣ r - 1 := by
  have hr1 := hr.1
  have hn1 : 1 < n := by have := Nat.le_of_dvd (by omega) hd; omega
  have red : ∀ x, x % n = 1 → x % r = 1 := fun x hx => by
    obtain ⟨c, hc⟩ := hd
    have : x % n % r = x % r := Nat.mod_mod_of_dvd x ⟨c, hc⟩
    rw [← this, hx, Nat.mod_eq_of_lt hr1]
  have g1 : a ^ (q * k) % r = 1 := red _ (by rw [← h1, hn, Nat.add_sub_cancel])
  refine Classical.byContradiction fun hc => ?_
  have hra : ¬ r ∣ a := fun hh => by
    have : a ^ (q * k) % r = 0 := by
      have hpos : 0 < q * k := by omega
      obtain ⟨e, he⟩ : ∃ e, q * k = e + 1 := ⟨q * k - 1, by omega⟩
      rw [he, Nat.pow_succ]
      exact Nat.mod_eq_zero_of_dvd (Nat.dvd_trans hh (Nat.dvd_mul_left _ _))
    omega
  have g2 : a ^ (k * (r - 1)) % r = 1 := by rw [Nat.mul_comm]; exact pow_mod_one k hr1 (fermat1 hr hra)
  have g3 := pow_gcd hr1 (k * q) (k * (r - 1)) (by rw [Nat.mul_comm k q]; exact g1) g2
  rw [Nat.gcd_mul_left, hq.cop hc, Nat.mul_one] at g3
  -- so r divides a ^ k - 1 and n
  have g4 : r ∣ Nat.gcd (a ^ k % n + (n - 1)) n := by
    refine Nat.dvd_gcd ?_ hd
    refine Nat.dvd_of_mod_eq_zero ?_
    have e1 : (a ^ k % n) % r = 1 := by rw [Nat.mod_mod_of_dvd _ hd]; exact g3
    obtain ⟨c, hc⟩ := hd
    obtain ⟨c', rfl⟩ : ∃ c', c = c' + 1 := ⟨c - 1, by cases c with | zero => simp at hc; omega | succ c => omega⟩
    have e2 : n - 1 = (r - 1) + r * c' := by rw [hc, Nat.mul_add]; omega
    rw [e2, ← Nat.add_assoc, Nat.add_mul_mod_self_left, Nat.add_mod, e1, Nat.mod_eq_of_lt (show r - 1 < r by omega), show 1 + (r - 1) = r by omega, Nat.mod_self]
  rw [h2] at g4
  have := Nat.le_of_dvd (by omega) g4
  omega
theorem pock1 {n q k a : Nat} (hq : Pri q) (hn : n = q * k + 1) (hk : 0 < k) (h1 : a ^ (n - 1) % n = 1) (h2 : Nat.gcd (a ^ k % n + (n - 1)) n = 1) (hl : n < q * q) : Pri n := by
  have hq1 := hq.1
  refine pri_of_no (by have := Nat.mul_le_mul (show 1 ≤ q by omega) (show 1 ≤ k by omega); omega) fun r hr hd => ?_
  have := Nat.le_of_dvd (by have := hr.1; omega) (pock hq hn h1 h2 hr hd)
  exact Nat.lt_of_lt_of_le hl (Nat.mul_le_mul (by omega) (by omega))
theorem pock2 {n q k a q' k' a' : Nat} (hq : Pri q) (hq' : Pri q') (hne : ¬ q ∣ q') (hn : n = q * k + 1) (hn' : n = q' * k' + 1) (hk : 0 < k) (h1 : a ^ (n - 1) % n = 1) (h2 : Nat.gcd (a ^ k % n + (n - 1)) n = 1)
    (h1' : a' ^ (n - 1) % n = 1) (h2' : Nat.gcd (a' ^ k' % n + (n - 1)) n = 1) (hl : n < (q * q') * (q * q')) : Pri n := by
  have hq1 := hq.1
  refine pri_of_no (by have := Nat.mul_le_mul (show 1 ≤ q by omega) (show 1 ≤ k by omega); omega) fun r hr hd => ?_
  have hc : Nat.Coprime q q' := hq.cop hne
  have := Nat.le_of_dvd (by have := hr.1; omega) (Nat.Coprime.mul_dvd_of_dvd_of_dvd hc (pock hq hn h1 h2 hr hd) (pock hq' hn' h1' h2' hr hd))
  exact Nat.lt_of_lt_of_le hl (Nat.mul_le_mul (by omega) (by omega))
/-- Powers, square by square; the exponent's bits from the lowest on. -/
def pmod (n : Nat) : Nat → Nat → Nat → Nat → Nat
  | 0, _, _, acc => acc
  | f + 1, b, e, acc => if e % 2 = 1 then pmod n f (b * b % n) (e / 2) (acc * b % n) else pmod n f (b * b % n) (e / 2) acc
theorem pmod_eq (n : Nat) : ∀ f b e acc, e < 2 ^ f → pmod n f b e acc % n = acc * b ^ e % n := by
  intro f
  induction f with
  | zero => intro b e acc h; rw [show e = 0 by omega]; simp [pmod]
  | succ f ih =>
    intro b e acc h
    have h2 : e / 2 < 2 ^ f := by rw [Nat.pow_succ] at h; omega
    have sq : ∀ x, x * (b * b % n) ^ (e / 2) % n = x * b ^ (2 * (e / 2)) % n := fun x => by
      rw [Nat.mul_mod, ← Nat.pow_mod, ← Nat.mul_mod, Nat.pow_mul, show b ^ 2 = b * b from by rw [Nat.pow_succ, Nat.pow_one]]
    unfold pmod
    split
    · rename_i h1
      rw [ih _ _ _ h2, sq, Nat.mul_mod, Nat.mod_mod, ← Nat.mul_mod, Nat.mul_assoc, ← Nat.pow_succ', show (2 * (e / 2)).succ = e by omega]
    · rename_i h1
      rw [ih _ _ _ h2, sq, show 2 * (e / 2) = e by omega]
theorem pmod_of {n b e r : Nat} (f : Nat) (he : e < 2 ^ f) (h : pmod n f b e 1 % n = r) : b ^ e % n = r := by
  rw [← h, pmod_eq n f b e 1 he, Nat.one_mul]
/-- Small primes: no divisor from 2 on up to the root. -/
def noDiv (n : Nat) : Nat → Nat → Bool
  | 0, _ => true
  | f + 1, d => (n % d != 0) && noDiv n f (d + 1)
theorem noDiv_spec (n : Nat) : ∀ f d, noDiv n f d = true → ∀ m, d ≤ m → m < d + f → ¬ m ∣ n := by
  intro f
  induction f with
  | zero => intro d _ m h1 h2; omega
  | succ f ih =>
    intro d h m h1 h2
    simp only [noDiv, Bool.and_eq_true, bne_iff_ne, ne_eq] at h
    by_cases e : m = d
    · subst e; exact fun hd => h.1 (Nat.mod_eq_zero_of_dvd hd)
    · exact ih (d + 1) h.2 m (by omega) (by omega)
theorem pri_small {n : Nat} (f : Nat) (hn : 1 < n) (hf : n < (f + 2) * (f + 2)) (h : noDiv n f 2 = true) : Pri n := by
  refine pri_of_no hn fun r hr hd => ?_
  have hr1 := hr.1
  refine Classical.byContradiction fun hc => ?_
  refine noDiv_spec n f 2 h r (by omega) ?_ hd
  refine Classical.byContradiction fun hc2 => ?_
  have : (f + 2) * (f + 2) ≤ r * r := Nat.mul_le_mul (by omega) (by omega)
  omega
/-- The test's premises, worked out. -/
theorem pockA {n q k a : Nat} (f : Nat) (hq : Pri q) (hf : n < 2 ^ f) (hn : n = q * k + 1) (hk : 0 < k) (h1 : pmod n f a (n - 1) 1 % n = 1) (h2 : Nat.gcd (pmod n f a k 1 % n + (n - 1)) n = 1) (hl : n < q * q) : Pri n :=
  pock1 hq hn hk (pmod_of f (by omega) h1) (by rw [pmod_of f (by have := Nat.mul_le_mul (show 1 ≤ q from hq.pos) (Nat.le_refl k); omega) rfl]; exact h2) hl
theorem pockB {n q k a q' k' a' : Nat} (f : Nat) (hq : Pri q) (hq' : Pri q') (hf : n < 2 ^ f) (hne : ¬ q ∣ q') (hn : n = q * k + 1) (hn' : n = q' * k' + 1) (hk : 0 < k) (h1 : pmod n f a (n - 1) 1 % n = 1) (h2 : Nat.gcd (pmod n f a k 1 % n + (n - 1)) n = 1)
    (h1' : pmod n f a' (n - 1) 1 % n = 1) (h2' : Nat.gcd (pmod n f a' k' 1 % n + (n - 1)) n = 1) (hl : n < (q * q') * (q * q')) : Pri n :=
  pock2 hq hq' hne hn hn' hk (pmod_of f (by omega) h1) (by rw [pmod_of f (by have := Nat.mul_le_mul (show 1 ≤ q from hq.pos) (Nat.le_refl k); omega) rfl]; exact h2)
    (pmod_of f (by omega) h1') (by rw [pmod_of f (by have := Nat.mul_le_mul (show 1 ≤ q' from hq'.pos) (Nat.le_refl k'); omega) rfl]; exact h2') hl
theorem pr0 : Pri 8574133 := pri_small 2929 (by decide) (by decide) (by decide +kernel)
theorem pr1 : Pri 7 := pri_small 3 (by decide) (by decide) (by decide +kernel)
theorem pr2 : Pri 1919519569386763 := pockB (q := 8574133) (k := 223873314) (a := 2) (q' := 7) (k' := 274217081340966) (a' := 2) 51 pr0 pr1 (by decide +kernel) (by decide +kernel) (by decide +kernel) (by decide +kernel) (by decide +kernel) (by decide +kernel) (by decide +kernel) (by decide +kernel) (by decide +kernel) (by decide +kernel)
theorem pr3 : Pri 75707 := pri_small 276 (by decide) (by decide) (by decide +kernel)
theorem pr4 : Pri 75445702479781427272750846543864801 := pockB (q := 1919519569386763) (k := 39304471641247389600) (a := 2) (q' := 75707) (k' := 996548568557483816196003626400) (a' := 2) 116 pr2 pr3 (by decide +kernel) (by decide +kernel) (by decide +kernel) (by decide +kernel) (by decide +kernel) (by decide +kernel) (by decide +kernel) (by decide +kernel) (by decide +kernel) (by decide +kernel)
theorem pr5 : Pri 353 := pri_small 19 (by decide) (by decide) (by decide +kernel)
theorem pr6 : Pri 74058212732561358302231226437062788676166966415465897661863160754340907 := pockB (q := 75445702479781427272750846543864801) (k := 981609426360740691344999861639072106) (a := 2) (q' := 353) (k' := 209796636636151156663544550813209033076960244803019540118592523383402) (a' := 2) 236 pr4 pr5 (by decide +kernel) (by decide +kernel) (by decide +kernel) (by decide +kernel) (by decide +kernel) (by decide +kernel) (by decide +kernel) (by decide +kernel) (by decide +kernel) (by decide +kernel)
theorem prP : Pri 57896044618658097711785492504343953926634992332820282019728792003956564819949 := pockA (q := 74058212732561358302231226437062788676166966415465897661863160754340907) (k := 781764) (a := 2) 255 pr6 (by decide +kernel) (by decide +kernel) (by decide +kernel) (by decide +kernel) (by decide +kernel) (by decide +kernel)
end Go.Proofs.Ytcekjmejppemeaa
/- The field of 2^255 - 19: numbers, their bytes, inverses, roots. No program in sight. -/
namespace Go.Proofs.Ytcekjmejppemeaa
abbrev PP : Nat := 57896044618658097711785492504343953926634992332820282019728792003956564819949
abbrev Fp := Fin PP
def zf (n : Nat) : Fp := Fin.ofNat PP n
theorem zf_val (n : Nat) : (zf n).val = n % PP := rfl
theorem zf_eq {a b : Nat} : zf a = zf b ↔ a % PP = b % PP := by
  rw [← Fin.val_inj, zf_val, zf_val]
theorem zf_add (a b : Nat) : zf (a + b) = zf a + zf b := by
  apply Fin.ext
  rw [Fin.val_add, zf_val, zf_val, zf_val, ← Nat.add_mod]
theorem zf_mul (a b : Nat) : zf (a * b) = zf a * zf b := by
  apply Fin.ext
  rw [Fin.val_mul, zf_val, zf_val, zf_val, ← Nat.mul_mod]
theorem pow_succF (u : Fp) (k : Nat) : u ^ (k + 1) = u ^ k * u := by grobner
theorem pow_zeroF (u : Fp) : u ^ 0 = 1 := by grobner
theorem pow_addF (u : Fp) (j k : Nat) : u ^ (j + k) = u ^ j * u ^ k := by
  induction k with
  | zero => rw [pow_zeroF, Nat.add_zero]; grobner
  | succ k ih => rw [← Nat.add_assoc, pow_succF, pow_succF, ih]; grobner
theorem mul_powF (u v : Fp) (k : Nat) : (u * v) ^ k = u ^ k * v ^ k := by
  induction k with
  | zero => rw [pow_zeroF, pow_zeroF, pow_zeroF]; grobner
  | succ k ih => rw [pow_succF, pow_succF, pow_succF, ih]; grobner
theorem pow_mulF (u : Fp) (j k : Nat) : u ^ (j * k) = (u ^ j) ^ k := by
  induction k with
  | zero => rw [Nat.mul_zero, pow_zeroF, pow_zeroF]
  | succ k ih => rw [Nat.mul_succ, pow_addF, ih, pow_succF]
theorem one_powF (k : Nat) : (1 : Fp) ^ k = 1 := by
  induction k with
  | zero => rw [pow_zeroF]
  | succ k ih => rw [pow_succF, ih]; grobner
theorem zf_zero : zf 0 = 0 := rfl
theorem zf_one : zf 1 = 1 := rfl
theorem zf_pow (a k : Nat) : zf (a ^ k) = zf a ^ k := by
  induction k with
  | zero => rw [Nat.pow_zero, pow_zeroF, zf_one]
  | succ k ih => rw [Nat.pow_succ, zf_mul, ih, pow_succF]
theorem zf_self (u : Fp) : zf u.val = u := by
  apply Fin.ext
  rw [zf_val, Nat.mod_eq_of_lt u.isLt]
theorem zf_P : zf PP = 0 := by apply Fin.ext; rw [zf_val, Nat.mod_self]; rfl
theorem zf_mod (n : Nat) : zf (n % PP) = zf n := by rw [zf_eq, Nat.mod_mod]
theorem zf_eq_zero {n : Nat} : zf n = 0 ↔ PP ∣ n := by
  rw [← zf_zero, zf_eq, Nat.zero_mod]
  exact ⟨Nat.dvd_of_mod_eq_zero, Nat.mod_eq_zero_of_dvd⟩
theorem zf_sub (a b : Nat) (h : b ≤ a) : zf (a - b) = zf a - zf b := by
  have h1 : zf (a - b) + zf b = zf a := by rw [← zf_add, Nat.sub_add_cancel h]
  rw [← h1]; grobner
theorem nozero {u v : Fp} (h : u * v = 0) : u = 0 ∨ v = 0 := by
  rw [← zf_self u, ← zf_self v, ← zf_mul, zf_eq_zero] at h
  rcases prP.euclid h with h1 | h1
  · exact .inl (by rw [← zf_self u, zf_eq_zero]; exact h1)
  · exact .inr (by rw [← zf_self v, zf_eq_zero]; exact h1)
theorem zero_powF (k : Nat) : (0 : Fp) ^ (k + 1) = 0 := by rw [pow_succF]; generalize (0 : Fp) ^ k = x; grobner
def eOne : Nat := PP - 1
def eInv : Nat := PP - 2
def eHalf : Nat := (PP - 1) / 2
def eRoot : Nat := (PP + 3) / 8
def eI : Nat := (PP - 1) / 4
theorem eInv_one : eInv + 1 = eOne := by decide +kernel
theorem eInv_pos : ∃ k, eInv = k + 1 := ⟨PP - 3, by decide +kernel⟩
theorem eHalf_add : eHalf + eHalf = eOne := by decide +kernel
theorem eRoot_mul : eRoot * 4 = eHalf + 2 := by decide +kernel
theorem eRoot_pos : ∃ k, eRoot = k + 1 := ⟨(PP + 3) / 8 - 1, by decide +kernel⟩
theorem eHalf_pos : ∃ k, eHalf = k + 1 := ⟨(PP - 1) / 2 - 1, by decide +kernel⟩
theorem eI_lt : eI < 2 ^ 255 := by decide +kernel
theorem eOne_eq : PP - 1 = eOne := rfl
theorem eI_num : eI = 14474011154664524427946373126085988481658748083205070504932198000989141204987 := by decide +kernel
attribute [irreducible] eOne eInv eHalf eRoot eI
theorem fermatF {u : Fp} (h : u ≠ 0) : u ^ eOne = 1 := by
  have h1 : ¬ PP ∣ u.val := fun hd => h (by rw [← zf_self u, zf_eq_zero]; exact hd)
  have h2 := fermat1 prP h1
  rw [eOne_eq] at h2
  rw [← zf_self u, ← zf_pow, ← zf_one, zf_eq, h2]
  decide +kernel
def invF (u : Fp) : Fp := u ^ eInv
theorem inv_mulF {u : Fp} (h : u ≠ 0) : invF u * u = 1 := by
  unfold invF
  rw [← pow_succF, eInv_one]
  exact fermatF h
theorem inv_zeroF : invF 0 = 0 := by
  unfold invF
  obtain ⟨k, hk⟩ := eInv_pos
  rw [hk, zero_powF]
attribute [irreducible] invF
theorem one_neF : (1 : Fp) ≠ 0 := by decide +kernel
theorem inv_ne {u : Fp} (h : u ≠ 0) : invF u ≠ 0 := fun e => by
  have := inv_mulF h
  rw [e] at this
  exact one_neF (by grobner)
theorem cancelF {u v w : Fp} (h : u ≠ 0) (e : u * v = u * w) : v = w := by
  have : u * (v - w) = 0 := by grobner
  rcases nozero this with h1 | h1
  · exact absurd h1 h
  · clear e this; grobner
theorem inv_uniq {u v : Fp} (h : u * v = 1) : v = invF u := by
  have hu : u ≠ 0 := fun e => by rw [e] at h; exact one_neF (by grobner)
  refine cancelF hu ?_
  have := inv_mulF hu
  clear hu
  grobner
theorem inv_invF (u : Fp) : invF (invF u) = u := by
  by_cases h : u = 0
  · rw [h, inv_zeroF, inv_zeroF]
  · exact (inv_uniq (inv_mulF h)).symm
theorem mul_ne {u v : Fp} (h : u ≠ 0) (h' : v ≠ 0) : u * v ≠ 0 := fun e => by
  rcases nozero e with h1 | h1
  · exact h h1
  · exact h' h1
theorem zero_mulF (v : Fp) : 0 * v = 0 := by grobner
theorem mul_zeroF (v : Fp) : v * 0 = 0 := by grobner
theorem inv_mul_inv (u v : Fp) : invF (u * v) = invF u * invF v := by
  by_cases h : u = 0
  · rw [h, inv_zeroF, zero_mulF, inv_zeroF, zero_mulF]
  · by_cases h' : v = 0
    · rw [h', inv_zeroF, mul_zeroF, inv_zeroF, mul_zeroF]
    · refine (inv_uniq ?_).symm
      have h1 := inv_mulF h
      have h2 := inv_mulF h'
      clear h h'
      grobner
theorem sq_one {u : Fp} (h : u * u = 1) : u = 1 ∨ u = -1 := by
  have : (u - 1) * (u + 1) = 0 := by grobner
  rcases nozero this with h1 | h1
  · exact .inl (by clear h this; grobner)
  · exact .inr (by clear h this; grobner)
theorem sq_eq {u v : Fp} (h : u * u = v * v) : u = v ∨ u = -v := by
  have : (u - v) * (u + v) = 0 := by grobner
  rcases nozero this with h1 | h1
  · exact .inl (by clear h this; grobner)
  · exact .inr (by clear h this; grobner)
/-- A root of -1. -/
def iF : Fp := zf 19681161376707505956807079304988542015446066515923890162744021073123829784752
theorem iF_sq : iF * iF = -1 := by decide +kernel
theorem two_powF (b e r f : Nat) (he : e < 2 ^ f) (h : pmod PP f b e 1 % PP = r) : zf b ^ e = zf r := by
  rw [← zf_pow, zf_eq, ← h, Nat.mod_mod, pmod_eq PP f b e 1 he, Nat.one_mul]
theorem iF_pow : (zf 2) ^ eI = iF := two_powF 2 eI _ 255 eI_lt (by rw [eI_num]; decide +kernel)
attribute [irreducible] iF
def rootF (a : Fp) : Fp := if a ^ eRoot * a ^ eRoot = a then a ^ eRoot else a ^ eRoot * iF
theorem root_four {a x : Fp} (hx : a ^ eRoot = x) (h : a ^ eHalf = 1) : (x * x) * (x * x) = a * a := by
  have e : (x * x) * (x * x) = a ^ (eRoot * 4) := by
    rw [pow_mulF, hx]; clear h hx; grobner
  rw [e, eRoot_mul, pow_addF, h]
  clear h hx e
  grobner
theorem root_case {a x : Fp} (h0 : ¬ x * x = a) (h4 : (x * x) * (x * x) = a * a) : x * iF * (x * iF) = a := by
  rcases sq_eq h4 with h5 | h5
  · exact absurd h5 h0
  · have := iF_sq
    clear h4 h0
    generalize iF = j at *
    grobner
theorem sq_half {s : Fp} (hs : s ≠ 0) : (s * s) ^ eHalf = 1 := by
  rw [mul_powF, ← pow_addF, eHalf_add, fermatF hs]
theorem rootF_sq (s : Fp) : rootF (s * s) * rootF (s * s) = s * s := by
  unfold rootF
  split
  · assumption
  · rename_i h
    by_cases hs : s = 0
    · exfalso
      apply h
      obtain ⟨k, hk⟩ := eRoot_pos
      rw [hs, zero_mulF, hk, zero_powF, zero_mulF]
    · exact root_case h (root_four rfl (sq_half hs))
theorem rootF_one {a : Fp} (h : a ^ eHalf = 1) : rootF a * rootF a = a := by
  unfold rootF
  split
  · assumption
  · rename_i h0
    exact root_case h0 (root_four rfl h)
attribute [irreducible] rootF
/-- Which have a root. -/
theorem root_iff (a : Fp) : rootF a * rootF a = a ↔ a = 0 ∨ a ^ eHalf = 1 := by
  constructor
  · intro h
    by_cases ha : a = 0
    · exact .inl ha
    · refine .inr ?_
      have hr : rootF a ≠ 0 := fun e => ha (by rw [e, zero_mulF] at h; exact h.symm)
      rw [← h]
      exact sq_half hr
  · rintro (h | h)
    · have := rootF_sq 0
      rw [zero_mulF] at this
      rw [h]; exact this
    · exact rootF_one h
theorem half_pow {a : Fp} (h : a ≠ 0) : a ^ eHalf = 1 ∨ a ^ eHalf = -1 := by
  refine sq_one ?_
  rw [← pow_addF, eHalf_add]
  exact fermatF h
end Go.Proofs.Ytcekjmejppemeaa
/- limb's numbers: what is carried, added, taken away, told as bytes. No program in sight. -/
namespace Go.Proofs.Ytcekjmejppemeaa
open Go.RowKit
/-- The number of five words of 51 bits, of four of 64. -/
def lV (a : List (BitVec 64)) : Nat := (nth a 0).toNat + (nth a 1).toNat * 2251799813685248 + (nth a 2).toNat * 5070602400912917605986812821504 + (nth a 3).toNat * 11417981541647679048466287755595961091061972992 + (nth a 4).toNat * 25711008708143844408671393477458601640355247900524685364822016
def wV (a : List (BitVec 64)) : Nat := (nth a 0).toNat + (nth a 1).toNat * 18446744073709551616 + (nth a 2).toNat * 340282366920938463463374607431768211456 + (nth a 3).toNat * 6277101735386680763835789423207666416102355444464034512896
def LF (a : List (BitVec 64)) : Fp := zf (lV a)
/-- Words that stay far below 64 bits. -/
def Low (n : Nat) (a : List (BitVec 64)) : Prop := a.length = 5 ∧ (nth a 0).toNat < n ∧ (nth a 1).toNat < n ∧ (nth a 2).toNat < n ∧ (nth a 3).toNat < n ∧ (nth a 4).toNat < n
abbrev Fine (a : List (BitVec 64)) : Prop := Low 4503599627370496 a
theorem five {a : List (BitVec 64)} (h : a.length = 5) : ∃ a0 a1 a2 a3 a4, a = [a0, a1, a2, a3, a4] := by
  match a, h with
  | [a0, a1, a2, a3, a4], _ => exact ⟨_, _, _, _, _, rfl⟩
theorem add_nat {x y : BitVec 64} (h : x.toNat + y.toNat < 18446744073709551616) : (x + y).toNat = x.toNat + y.toNat := by
  rw [BitVec.toNat_add, Nat.mod_eq_of_lt (by omega)]
theorem shr_nat (x : BitVec 64) (k : Nat) : (x >>> k).toNat = x.toNat / 2 ^ k := by
  rw [BitVec.toNat_ushiftRight, Nat.shiftRight_eq_div_pow]
theorem shr51 (x : BitVec 64) : (x >>> 51).toNat = x.toNat / 2251799813685248 := shr_nat x 51
theorem or_low {x y : BitVec 64} (j : Nat) (hx : x.toNat < 2 ^ j) : (x ||| y <<< j).toNat = x.toNat + y.toNat * 2 ^ j % 18446744073709551616 := by
  rw [BitVec.toNat_or, BitVec.toNat_shiftLeft, Nat.shiftLeft_eq]
  rcases Nat.lt_or_ge 64 j with hj | hj
  · have e : y.toNat * 2 ^ j % 2 ^ 64 = 0 := by
      obtain ⟨k, rfl⟩ : ∃ k, j = 64 + k := ⟨j - 64, by omega⟩
      rw [Nat.pow_add, show y.toNat * (2 ^ 64 * 2 ^ k) = 2 ^ 64 * (y.toNat * 2 ^ k) from by grobner, Nat.mul_mod_right]
    rw [e, Nat.or_zero, Nat.add_zero]
  · have e : y.toNat * 2 ^ j % 2 ^ 64 = y.toNat % 2 ^ (64 - j) * 2 ^ j := by
      have : (2 : Nat) ^ 64 = 2 ^ (64 - j) * 2 ^ j := by rw [← Nat.pow_add, show 64 - j + j = 64 by omega]
      rw [this, Nat.mul_mod_mul_right]
    rw [show (18446744073709551616 : Nat) = 2 ^ 64 from rfl, e, Nat.or_comm, ← Nat.shiftLeft_eq, ← Nat.shiftLeft_add_eq_or_of_lt hx, Nat.shiftLeft_eq, Nat.add_comm]
/-- One carrying of five words: the words, and what is carried out. -/
def car5 (a0 a1 a2 a3 a4 : BitVec 64) : List (BitVec 64) × BitVec 64 :=
  let s0 := a0 + 0#64
  let s1 := a1 + s0 >>> 51
  let s2 := a2 + s1 >>> 51
  let s3 := a3 + s2 >>> 51
  let s4 := a4 + s3 >>> 51
  ([s0 &&& 2251799813685247#64, s1 &&& 2251799813685247#64, s2 &&& 2251799813685247#64, s3 &&& 2251799813685247#64, s4 &&& 2251799813685247#64], s4 >>> 51)
theorem car5_eq (a0 a1 a2 a3 a4 : BitVec 64) : lmCar_L3 [a0, a1, a2, a3, a4] 5 = ((car5 a0 a1 a2 a3 a4).2, (car5 a0 a1 a2 a3 a4).1) := by kernel_rfl
theorem car5_spec (a0 a1 a2 a3 a4 : BitVec 64) (h0 : a0.toNat < 9223372036854775808) (h1 : a1.toNat < 9223372036854775808) (h2 : a2.toNat < 9223372036854775808) (h3 : a3.toNat < 9223372036854775808) (h4 : a4.toNat < 9223372036854775808) :
    ∃ r0 r1 r2 r3 r4 c : BitVec 64, car5 a0 a1 a2 a3 a4 = ([r0, r1, r2, r3, r4], c) ∧ r0.toNat < 2251799813685248 ∧ r1.toNat < 2251799813685248 ∧ r2.toNat < 2251799813685248 ∧ r3.toNat < 2251799813685248 ∧ r4.toNat < 2251799813685248 ∧
      a0.toNat + a1.toNat * 2251799813685248 + a2.toNat * 5070602400912917605986812821504 + a3.toNat * 11417981541647679048466287755595961091061972992 + a4.toNat * 25711008708143844408671393477458601640355247900524685364822016 =
      r0.toNat + r1.toNat * 2251799813685248 + r2.toNat * 5070602400912917605986812821504 + r3.toNat * 11417981541647679048466287755595961091061972992 + r4.toNat * 25711008708143844408671393477458601640355247900524685364822016 + c.toNat * 57896044618658097711785492504343953926634992332820282019728792003956564819968 := by
  refine ⟨_, _, _, _, _, _, rfl, ?_⟩
  have e0 : (a0 + 0#64).toNat = a0.toNat := by rw [BitVec.add_zero]
  generalize a0 + 0#64 = s0 at *
  have c0 := shr51 s0
  have e1 := add_nat (x := a1) (y := s0 >>> 51) (by omega)
  generalize a1 + s0 >>> 51 = s1 at *
  have c1 := shr51 s1
  have e2 := add_nat (x := a2) (y := s1 >>> 51) (by omega)
  generalize a2 + s1 >>> 51 = s2 at *
  have c2 := shr51 s2
  have e3 := add_nat (x := a3) (y := s2 >>> 51) (by omega)
  generalize a3 + s2 >>> 51 = s3 at *
  have c3 := shr51 s3
  have e4 := add_nat (x := a4) (y := s3 >>> 51) (by omega)
  generalize a4 + s3 >>> 51 = s4 at *
  have c4 := shr51 s4
  have m0 := mask_toNat s0
  have m1 := mask_toNat s1
  have m2 := mask_toNat s2
  have m3 := mask_toNat s3
  have m4 := mask_toNat s4
  rw [m0, m1, m2, m3, m4]
  omega
/-- Words carried on. -/
theorem car_exact {a : List (BitVec 64)} (h : Low 9223372036854775808 a) : ∃ r0 r1 r2 r3 r4 c : Nat, (lmCar a).length = 5 ∧ (nth (lmCar a) 0).toNat = r0 + 19 * c ∧ (nth (lmCar a) 1).toNat = r1 ∧ (nth (lmCar a) 2).toNat = r2 ∧ (nth (lmCar a) 3).toNat = r3 ∧ (nth (lmCar a) 4).toNat = r4 ∧
    r0 < 2251799813685248 ∧ r1 < 2251799813685248 ∧ r2 < 2251799813685248 ∧ r3 < 2251799813685248 ∧ r4 < 2251799813685248 ∧
    lV a = r0 + r1 * 2251799813685248 + r2 * 5070602400912917605986812821504 + r3 * 11417981541647679048466287755595961091061972992 + r4 * 25711008708143844408671393477458601640355247900524685364822016 + c * 57896044618658097711785492504343953926634992332820282019728792003956564819968 := by
  obtain ⟨hl, h0, h1, h2, h3, h4⟩ := h
  obtain ⟨a0, a1, a2, a3, a4, rfl⟩ := five hl
  obtain ⟨r0, r1, r2, r3, r4, c, he, g0, g1, g2, g3, g4, g5⟩ := car5_spec a0 a1 a2 a3 a4 h0 h1 h2 h3 h4
  have hc : c.toNat ≤ 8192 := by
    change a0.toNat < _ at h0
    change a1.toNat < _ at h1
    change a2.toNat < _ at h2
    change a3.toNat < _ at h3
    change a4.toNat < _ at h4
    omega
  have hm : (19#64 * c).toNat = 19 * c.toNat := by rw [BitVec.toNat_mul]; show 19 * c.toNat % _ = _; rw [Nat.mod_eq_of_lt (by omega)]
  have hs : lmCar [a0, a1, a2, a3, a4] = [r0 + 19#64 * c, r1, r2, r3, r4] := by
    unfold lmCar
    rw [car5_eq, he]
    rfl
  rw [hs]
  refine ⟨r0.toNat, r1.toNat, r2.toNat, r3.toNat, r4.toNat, c.toNat, rfl, ?_, rfl, rfl, rfl, rfl, g0, g1, g2, g3, g4, g5⟩
  show (r0 + 19#64 * c).toNat = _
  rw [add_nat (by rw [hm]; omega), hm]
theorem lV_lt {a : List (BitVec 64)} {n : Nat} (h : Low n a) : lV a < n * 25711008708143855827028953938453824840009041150452446465556481 + 1 := by
  obtain ⟨hl, h0, h1, h2, h3, h4⟩ := h
  unfold lV
  omega
theorem zf_cut {x y c : Nat} (h : x = y + c * 57896044618658097711785492504343953926634992332820282019728792003956564819968) : zf x = zf (y + 19 * c) := by
  rw [zf_eq, h]
  show _ % 57896044618658097711785492504343953926634992332820282019728792003956564819949 = _ % 57896044618658097711785492504343953926634992332820282019728792003956564819949
  omega
theorem car_fine {a : List (BitVec 64)} (h : Low 72057594037927936 a) : Fine (lmCar a) ∧ LF (lmCar a) = LF a := by
  have hlt := lV_lt h
  obtain ⟨hl, h0, h1, h2, h3, h4⟩ := h
  obtain ⟨r0, r1, r2, r3, r4, c, gl, e0, e1, e2, e3, e4, g0, g1, g2, g3, g4, g5⟩ := car_exact (a := a) ⟨hl, by omega, by omega, by omega, by omega, by omega⟩
  have hc : c ≤ 32 := by omega
  refine ⟨⟨gl, by omega, by omega, by omega, by omega, by omega⟩, ?_⟩
  unfold LF
  rw [zf_cut g5]
  congr 1
  unfold lV
  rw [e0, e1, e2, e3, e4]
  omega
theorem add_eq (a0 a1 a2 a3 a4 b0 b1 b2 b3 b4 : BitVec 64) : lmAdd_L2 [a0, a1, a2, a3, a4] [b0, b1, b2, b3, b4] 5 = [a0 + b0, a1 + b1, a2 + b2, a3 + b3, a4 + b4] := by kernel_rfl
theorem add_fine {a b : List (BitVec 64)} (ha : Fine a) (hb : Fine b) : Fine (lmAdd a b) ∧ LF (lmAdd a b) = LF a + LF b := by
  obtain ⟨hl, h0, h1, h2, h3, h4⟩ := ha
  obtain ⟨gl, g0, g1, g2, g3, g4⟩ := hb
  obtain ⟨a0, a1, a2, a3, a4, rfl⟩ := five hl
  obtain ⟨b0, b1, b2, b3, b4, rfl⟩ := five gl
  unfold lmAdd
  rw [add_eq]
  change a0.toNat < _ at h0; change a1.toNat < _ at h1; change a2.toNat < _ at h2; change a3.toNat < _ at h3; change a4.toNat < _ at h4
  change b0.toNat < _ at g0; change b1.toNat < _ at g1; change b2.toNat < _ at g2; change b3.toNat < _ at g3; change b4.toNat < _ at g4
  have e0 := add_nat (x := a0) (y := b0) (by omega)
  have e1 := add_nat (x := a1) (y := b1) (by omega)
  have e2 := add_nat (x := a2) (y := b2) (by omega)
  have e3 := add_nat (x := a3) (y := b3) (by omega)
  have e4 := add_nat (x := a4) (y := b4) (by omega)
  have hlow : Low 72057594037927936 [a0 + b0, a1 + b1, a2 + b2, a3 + b3, a4 + b4] := ⟨rfl, by show (a0 + b0).toNat < _; omega, by show (a1 + b1).toNat < _; omega, by show (a2 + b2).toNat < _; omega, by show (a3 + b3).toNat < _; omega, by show (a4 + b4).toNat < _; omega⟩
  obtain ⟨f1, f2⟩ := car_fine hlow
  refine ⟨f1, f2.trans ?_⟩
  unfold LF
  rw [← zf_add]
  congr 1
  show (a0 + b0).toNat + (a1 + b1).toNat * _ + (a2 + b2).toNat * _ + (a3 + b3).toNat * _ + (a4 + b4).toNat * _ = a0.toNat + a1.toNat * _ + a2.toNat * _ + a3.toNat * _ + a4.toNat * _ + (b0.toNat + b1.toNat * _ + b2.toNat * _ + b3.toNat * _ + b4.toNat * _)
  rw [e0, e1, e2, e3, e4]
  omega
theorem sub_eq (a0 a1 a2 a3 a4 b0 b1 b2 b3 b4 : BitVec 64) : lmSub_L3 [a0, a1, a2, a3, a4] [b0, b1, b2, b3, b4] 5 = [a0 + (9007199254740916#64 - b0), a1 + (9007199254740988#64 - b1), a2 + (9007199254740988#64 - b2), a3 + (9007199254740988#64 - b3), a4 + (9007199254740988#64 - b4)] := by kernel_rfl
theorem sub_nat {x y : BitVec 64} (h : y.toNat ≤ x.toNat) : (x - y).toNat = x.toNat - y.toNat := BitVec.toNat_sub_of_le (by rw [BitVec.le_def]; exact h)
theorem sub_fine {a b : List (BitVec 64)} (ha : Fine a) (hb : Fine b) : Fine (lmSub a b) ∧ LF (lmSub a b) = LF a - LF b := by
  obtain ⟨hl, h0, h1, h2, h3, h4⟩ := ha
  obtain ⟨gl, g0, g1, g2, g3, g4⟩ := hb
  obtain ⟨a0, a1, a2, a3, a4, rfl⟩ := five hl
  obtain ⟨b0, b1, b2, b3, b4, rfl⟩ := five gl
  unfold lmSub
  rw [sub_eq]
  change a0.toNat < _ at h0; change a1.toNat < _ at h1; change a2.toNat < _ at h2; change a3.toNat < _ at h3; change a4.toNat < _ at h4
  change b0.toNat < _ at g0; change b1.toNat < _ at g1; change b2.toNat < _ at g2; change b3.toNat < _ at g3; change b4.toNat < _ at g4
  have p0 : (9007199254740916#64 : BitVec 64).toNat = 9007199254740916 := rfl
  have p1 : (9007199254740988#64 : BitVec 64).toNat = 9007199254740988 := rfl
  have d0 := sub_nat (x := 9007199254740916#64) (y := b0) (by omega)
  have d1 := sub_nat (x := 9007199254740988#64) (y := b1) (by omega)
  have d2 := sub_nat (x := 9007199254740988#64) (y := b2) (by omega)
  have d3 := sub_nat (x := 9007199254740988#64) (y := b3) (by omega)
  have d4 := sub_nat (x := 9007199254740988#64) (y := b4) (by omega)
  have e0 := add_nat (x := a0) (y := 9007199254740916#64 - b0) (by omega)
  have e1 := add_nat (x := a1) (y := 9007199254740988#64 - b1) (by omega)
  have e2 := add_nat (x := a2) (y := 9007199254740988#64 - b2) (by omega)
  have e3 := add_nat (x := a3) (y := 9007199254740988#64 - b3) (by omega)
  have e4 := add_nat (x := a4) (y := 9007199254740988#64 - b4) (by omega)
  generalize a0 + (9007199254740916#64 - b0) = s0 at *
  generalize a1 + (9007199254740988#64 - b1) = s1 at *
  generalize a2 + (9007199254740988#64 - b2) = s2 at *
  generalize a3 + (9007199254740988#64 - b3) = s3 at *
  generalize a4 + (9007199254740988#64 - b4) = s4 at *
  have hlow : Low 72057594037927936 [s0, s1, s2, s3, s4] := ⟨rfl, by show s0.toNat < _; omega, by show s1.toNat < _; omega, by show s2.toNat < _; omega, by show s3.toNat < _; omega, by show s4.toNat < _; omega⟩
  obtain ⟨f1, f2⟩ := car_fine hlow
  refine ⟨f1, f2.trans ?_⟩
  have key : LF [s0, s1, s2, s3, s4] + LF [b0, b1, b2, b3, b4] = LF [a0, a1, a2, a3, a4] := by
    unfold LF
    rw [← zf_add, zf_eq]
    have : lV [s0, s1, s2, s3, s4] + lV [b0, b1, b2, b3, b4] = lV [a0, a1, a2, a3, a4] + 57896044618658097711785492504343953926634992332820282019728792003956564819949 * 4 := by
      show s0.toNat + s1.toNat * _ + s2.toNat * _ + s3.toNat * _ + s4.toNat * _ + (b0.toNat + b1.toNat * _ + b2.toNat * _ + b3.toNat * _ + b4.toNat * _) = a0.toNat + a1.toNat * _ + a2.toNat * _ + a3.toNat * _ + a4.toNat * _ + _
      omega
    rw [this, Nat.add_mul_mod_self_left]
  rw [← key]
  grobner
theorem small_fine {x : BitVec 64} (h : x.toNat < 4503599627370496) : Fine (lmSmall x) ∧ LF (lmSmall x) = zf x.toNat := by
  have e : lmSmall x = [x, 0#64, 0#64, 0#64, 0#64] := by unfold lmSmall; rfl
  rw [e]
  have z : (0#64 : BitVec 64).toNat < 4503599627370496 := by decide
  refine ⟨⟨rfl, h, z, z, z, z⟩, ?_⟩
  have : lV [x, 0#64, 0#64, 0#64, 0#64] = x.toNat := by
    show x.toNat + (0#64).toNat * _ + (0#64).toNat * _ + (0#64).toNat * _ + (0#64).toNat * _ = _
    rw [show (0#64 : BitVec 64).toNat = 0 from rfl]
    omega
  unfold LF
  rw [this]
/-- A list laid place by place. -/
theorem put_run {n m : Nat} (f : Nat → List (BitVec n)) (g : Nat → BitVec n) (h0 : (f 0).length = m) (hs : ∀ j, f (j + 1) = put (f j) j (g j)) : ∀ j, (f j).length = m ∧ ∀ i, i < j → i < m → nth (f j) i = g i := by
  intro j
  induction j with
  | zero => exact ⟨h0, fun i hi => by omega⟩
  | succ j ih =>
    refine ⟨by rw [hs, put_length, ih.1], fun i hi hm => ?_⟩
    rw [hs]
    by_cases e : j = i
    · subst e; rw [nth_put _ _ _ _ (by rw [ih.1]; exact hm), if_pos rfl]
    · by_cases hj : j < m
      · rw [nth_put _ _ _ _ (by rw [ih.1]; exact hj), if_neg e]; exact ih.2 i (by omega) hm
      · rw [show put (f j) j (g j) = f j from List.set_eq_of_length_le (by rw [ih.1]; omega)]; exact ih.2 i (by omega) hm
theorem byte_at (w : List (BitVec 64)) (i : Nat) (hi : i < 32) : (nth w (i / 8) >>> (8 * (i % 8))).setWidth 8 = BitVec.ofNat 8 (wV w / 256 ^ i) := by
  apply BitVec.eq_of_toNat_eq
  rw [BitVec.toNat_setWidth, BitVec.toNat_ofNat, shr_nat]
  have h0 := (nth w 0).isLt
  have h1 := (nth w 1).isLt
  have h2 := (nth w 2).isLt
  have h3 := (nth w 3).isLt
  unfold wV
  rcases (by omega : i = 0 ∨ i = 1 ∨ i = 2 ∨ i = 3 ∨ i = 4 ∨ i = 5 ∨ i = 6 ∨ i = 7 ∨ i = 8 ∨ i = 9 ∨ i = 10 ∨ i = 11 ∨ i = 12 ∨ i = 13 ∨ i = 14 ∨ i = 15 ∨ i = 16 ∨ i = 17 ∨ i = 18 ∨ i = 19 ∨ i = 20 ∨ i = 21 ∨ i = 22 ∨ i = 23 ∨ i = 24 ∨ i = 25 ∨ i = 26 ∨ i = 27 ∨ i = 28 ∨ i = 29 ∨ i = 30 ∨ i = 31) with h | h | h | h | h | h | h | h | h | h | h | h | h | h | h | h | h | h | h | h | h | h | h | h | h | h | h | h | h | h | h | h <;> subst h <;> simp only [Nat.reduceDiv, Nat.reduceMod, Nat.reduceMul, Nat.reducePow] <;> omega
theorem bytes_run (w : List (BitVec 64)) (f : Nat → List (BitVec 8)) (h0 : (f 0).length = 32) (hs : ∀ j, f (j + 1) = put (f j) j ((nth w (j / 8) >>> (8 * (j % 8))).setWidth 8)) : f 32 = toB (wV w) := by
  obtain ⟨hl, hn⟩ := put_run f (fun j => (nth w (j / 8) >>> (8 * (j % 8))).setWidth 8) h0 hs 32
  refine extNth (by rw [hl, toB_len]) fun i hi => ?_
  rw [hl] at hi
  rw [hn i hi hi, toB_nth _ _ hi, byte_at w i hi]
/-- All words below 2^51. -/
abbrev Tight (a : List (BitVec 64)) : Prop := Low 2251799813685248 a
theorem car_tight {a : List (BitVec 64)} (h : Fine a) : Tight (lmCar (lmCar a)) ∧ LF (lmCar (lmCar a)) = LF a := by
  have hf := car_fine (a := a) ⟨h.1, by have := h.2.1; omega, by have := h.2.2.1; omega, by have := h.2.2.2.1; omega, by have := h.2.2.2.2.1; omega, by have := h.2.2.2.2.2; omega⟩
  have hf2 := car_fine (a := lmCar a) ⟨hf.1.1, by have := hf.1.2.1; omega, by have := hf.1.2.2.1; omega, by have := hf.1.2.2.2.1; omega, by have := hf.1.2.2.2.2.1; omega, by have := hf.1.2.2.2.2.2; omega⟩
  refine ⟨?_, hf2.2.trans hf.2⟩
  obtain ⟨hl, h0, h1, h2, h3, h4⟩ := h
  obtain ⟨r0, r1, r2, r3, r4, c, gl, e0, e1, e2, e3, e4, g0, g1, g2, g3, g4, g5⟩ := car_exact (a := a) ⟨hl, by omega, by omega, by omega, by omega, by omega⟩
  have hc : c ≤ 2 := by unfold lV at g5; omega
  obtain ⟨q0, q1, q2, q3, q4, d, kl, f0, f1, f2, f3, f4, k0, k1, k2, k3, k4, k5⟩ := car_exact (a := lmCar a) ⟨gl, by omega, by omega, by omega, by omega, by omega⟩
  unfold lV at k5
  rw [e0, e1, e2, e3, e4] at k5
  refine ⟨kl, ?_, ?_, ?_, ?_, ?_⟩ <;> omega
theorem car_same {a : List (BitVec 64)} (h : Tight a) : lmCar a = a := by
  have hl := h.1
  have h0 := h.2.1
  have h1 := h.2.2.1
  have h2 := h.2.2.2.1
  have h3 := h.2.2.2.2.1
  have h4 := h.2.2.2.2.2
  obtain ⟨r0, r1, r2, r3, r4, c, gl, e0, e1, e2, e3, e4, g0, g1, g2, g3, g4, g5⟩ := car_exact (a := a) ⟨hl, by omega, by omega, by omega, by omega, by omega⟩
  unfold lV at g5
  refine extNth (by rw [gl, hl]) fun i hi => ?_
  rw [gl] at hi
  apply BitVec.eq_of_toNat_eq
  rcases (by omega : i = 0 ∨ i = 1 ∨ i = 2 ∨ i = 3 ∨ i = 4) with h | h | h | h | h <;> subst h <;> omega
theorem bytes_L6 (a : List (BitVec 64)) (j : Nat) : lmBytes_L6 a j = lmCar_L3 (put (lmCar (lmCar (lmCar a))) 0 ((nth (lmCar (lmCar (lmCar a))) 0) + 19#64)) j := by
  induction j with
  | zero => rfl
  | succ j ih => rw [lmBytes_L6, lmCar_L3, ih]; rfl
/-- Five words of 51 bits as four of 64. -/
def w4 (a : List (BitVec 64)) : List (BitVec 64) := [(nth a 0) ||| ((nth a 1) <<< 51), ((nth a 1) >>> 13) ||| ((nth a 2) <<< 38), ((nth a 2) >>> 26) ||| ((nth a 3) <<< 25), ((nth a 3) >>> 39) ||| ((nth a 4) <<< 12)]
theorem w4_val {a : List (BitVec 64)} (h : Tight a) : wV (w4 a) = lV a := by
  obtain ⟨hl, h0, h1, h2, h3, h4⟩ := h
  have e1 := shr_nat (nth a 1) 13
  have e2 := shr_nat (nth a 2) 26
  have e3 := shr_nat (nth a 3) 39
  simp only [Nat.reducePow] at e1 e2 e3
  have k0 := or_low (x := nth a 0) (y := nth a 1) 51 h0
  have k1 := or_low (x := nth a 1 >>> 13) (y := nth a 2) 38 (by rw [e1]; show _ < 274877906944; omega)
  have k2 := or_low (x := nth a 2 >>> 26) (y := nth a 3) 25 (by rw [e2]; show _ < 33554432; omega)
  have k3 := or_low (x := nth a 3 >>> 39) (y := nth a 4) 12 (by rw [e3]; show _ < 4096; omega)
  simp only [Nat.reducePow] at k0 k1 k2 k3
  show ((nth a 0) ||| ((nth a 1) <<< 51)).toNat + (((nth a 1) >>> 13) ||| ((nth a 2) <<< 38)).toNat * _ + (((nth a 2) >>> 26) ||| ((nth a 3) <<< 25)).toNat * _ + (((nth a 3) >>> 39) ||| ((nth a 4) <<< 12)).toNat * _ = _
  rw [k0, k1, k2, k3, e1, e2, e3]
  unfold lV
  omega
theorem bytes_spec {a : List (BitVec 64)} (h : Fine a) : lmBytes a = toB (LF a).val := by
  obtain ⟨h1, h2⟩ := car_tight h
  have hs := car_same h1
  unfold lmBytes
  rw [hs]
  rw [bytes_L6, hs]
  generalize lmCar (lmCar a) = t at *
  have run : ∀ J, lmBytes_L17 J 32 = toB (wV (w4 J)) := fun J => bytes_run (w4 J) (lmBytes_L17 J) rfl fun j => rfl
  rw [run]
  congr 1
  rw [← h2]
  unfold LF
  rw [zf_val]
  have ht := h1
  obtain ⟨hl, g0, g1, g2, g3, g4⟩ := h1
  obtain ⟨t0, t1, t2, t3, t4, rfl⟩ := five hl
  change t0.toNat < _ at g0; change t1.toNat < _ at g1; change t2.toNat < _ at g2; change t3.toNat < _ at g3; change t4.toNat < _ at g4
  rw [show put [t0, t1, t2, t3, t4] 0 (nth [t0, t1, t2, t3, t4] 0 + 19#64) = [t0 + 19#64, t1, t2, t3, t4] from rfl, car5_eq]
  have e19 : (19#64 : BitVec 64).toNat = 19 := rfl
  have ea := add_nat (x := t0) (y := 19#64) (by omega)
  obtain ⟨r0, r1, r2, r3, r4, c, he, k0, k1, k2, k3, k4, k5⟩ := car5_spec (t0 + 19#64) t1 t2 t3 t4 (by omega) (by omega) (by omega) (by omega) (by omega)
  rw [he]
  show wV (w4 (if (0#64).toNat < c.toNat then [r0, r1, r2, r3, r4] else [t0, t1, t2, t3, t4])) = _
  have hv : lV [t0, t1, t2, t3, t4] = t0.toNat + t1.toNat * 2251799813685248 + t2.toNat * 5070602400912917605986812821504 + t3.toNat * 11417981541647679048466287755595961091061972992 + t4.toNat * 25711008708143844408671393477458601640355247900524685364822016 := rfl
  have hr : lV [r0, r1, r2, r3, r4] = r0.toNat + r1.toNat * 2251799813685248 + r2.toNat * 5070602400912917605986812821504 + r3.toNat * 11417981541647679048466287755595961091061972992 + r4.toNat * 25711008708143844408671393477458601640355247900524685364822016 := rfl
  have z : (0#64 : BitVec 64).toNat = 0 := rfl
  show _ = _ % 57896044618658097711785492504343953926634992332820282019728792003956564819949
  split
  · rename_i hc
    have hc1 : c.toNat = 1 := by omega
    rw [hc1] at k5
    rw [w4_val (a := [r0, r1, r2, r3, r4]) ⟨rfl, k0, k1, k2, k3, k4⟩, hr, hv]
    rw [Nat.mod_eq_sub_mod (by omega), Nat.mod_eq_of_lt (by omega)]
    omega
  · rename_i hc
    have hc1 : c.toNat = 0 := by omega
    rw [hc1] at k5
    rw [w4_val ht, hv]
    rw [Nat.mod_eq_of_lt (by omega)]
theorem words_run (b : List (BitVec 8)) (f : Nat → List (BitVec 64)) (h0 : f 0 = zer64 4) (hs : ∀ j, f (j + 1) = put (f j) (j / 8) ((nth (f j) (j / 8)) ||| (((nth b j).setWidth 64) <<< (8 * (j % 8))))) :
    ∀ j, j ≤ 32 → (f j).length = 4 ∧ ∀ t, t < 4 → (nth (f j) t).toNat = wvb b t (min 8 (j - 8 * t)) := by
  intro j
  induction j with
  | zero =>
    intro _
    rw [h0]
    refine ⟨rfl, fun t ht => ?_⟩
    rw [show min 8 (0 - 8 * t) = 0 by omega, wvb]
    rcases (by omega : t = 0 ∨ t = 1 ∨ t = 2 ∨ t = 3) with h | h | h | h <;> subst h <;> rfl
  | succ j ih =>
    intro hj
    obtain ⟨hl, hn⟩ := ih (by omega)
    refine ⟨by rw [hs, put_length, hl], fun t ht => ?_⟩
    rw [hs, nth_put _ _ _ _ (by rw [hl]; omega)]
    by_cases e : j / 8 = t
    · rw [if_pos e, e]
      have h1 := hn t ht
      have e1 : min 8 (j - 8 * t) = j % 8 := by omega
      have e2 : min 8 (j + 1 - 8 * t) = j % 8 + 1 := by omega
      rw [e1] at h1
      rw [or_byte _ _ _ (by omega) (by rw [h1]; exact wvb_lt b t _), h1, e2, wvb, show 8 * t + j % 8 = j by omega]
    · rw [if_neg e, hn t ht]
      congr 1
      omega
theorem of_words (b : List (BitVec 8)) (t : Nat) (ht : t < 4) : (nth (lmOf_L3 b 32) t).toNat = wvb b t 8 := by
  have := (words_run b (lmOf_L3 b) rfl (fun j => rfl) 32 (Nat.le_refl _)).2 t ht
  rwa [show min 8 (32 - 8 * t) = 8 by omega] at this
theorem of_fine (b : List (BitVec 8)) : Fine (lmOf b) ∧ LF (lmOf b) = zf (leS b 32) := by
  have v := leS_wvb b
  have v0 := of_words b 0 (by decide)
  have v1 := of_words b 1 (by decide)
  have v2 := of_words b 2 (by decide)
  have v3 := of_words b 3 (by decide)
  unfold lmOf
  generalize lmOf_L3 b 32 = W at *
  generalize hw0 : nth W 0 = w0 at *
  generalize hw1 : nth W 1 = w1 at *
  generalize hw2 : nth W 2 = w2 at *
  generalize hw3 : nth W 3 = w3 at *
  have b0 := w0.isLt
  have b1 := w1.isLt
  have b2 := w2.isLt
  have b3 := w3.isLt
  have s0 := shr_nat w0 51
  have s1 := shr_nat w1 38
  have s2 := shr_nat w2 25
  have s3 := shr_nat w3 12
  have s4 := shr_nat w3 63
  simp only [Nat.reducePow] at s0 s1 s2 s3 s4
  have o1 := or_low (x := w0 >>> 51) (y := w1) 13 (by rw [s0]; show _ < 8192; omega)
  have o2 := or_low (x := w1 >>> 38) (y := w2) 26 (by rw [s1]; show _ < 67108864; omega)
  have o3 := or_low (x := w2 >>> 25) (y := w3) 39 (by rw [s2]; show _ < 549755813888; omega)
  simp only [Nat.reducePow] at o1 o2 o3
  have m0 := mask_toNat w0
  have m1 := mask_toNat (w0 >>> 51 ||| w1 <<< 13)
  have m2 := mask_toNat (w1 >>> 38 ||| w2 <<< 26)
  have m3 := mask_toNat (w2 >>> 25 ||| w3 <<< 39)
  have m4 := mask_toNat (w3 >>> 12)
  rw [o1, s0] at m1
  rw [o2, s1] at m2
  rw [o3, s2] at m3
  rw [s3] at m4
  have t4 : (19#64 * w3 >>> 63).toNat = 19 * (w3.toNat / 9223372036854775808) := by
    rw [BitVec.toNat_mul, s4]
    show 19 * _ % _ = _
    rw [Nat.mod_eq_of_lt (by omega)]
  have a0 := add_nat (x := w0 &&& 2251799813685247#64) (y := 19#64 * w3 >>> 63) (by omega)
  show Fine [(w0 &&& 2251799813685247#64) + 19#64 * w3 >>> 63, (w0 >>> 51 ||| w1 <<< 13) &&& 2251799813685247#64, (w1 >>> 38 ||| w2 <<< 26) &&& 2251799813685247#64, (w2 >>> 25 ||| w3 <<< 39) &&& 2251799813685247#64, w3 >>> 12 &&& 2251799813685247#64] ∧ LF [(w0 &&& 2251799813685247#64) + 19#64 * w3 >>> 63, (w0 >>> 51 ||| w1 <<< 13) &&& 2251799813685247#64, (w1 >>> 38 ||| w2 <<< 26) &&& 2251799813685247#64, (w2 >>> 25 ||| w3 <<< 39) &&& 2251799813685247#64, w3 >>> 12 &&& 2251799813685247#64] = _
  generalize (w0 &&& 2251799813685247#64) + 19#64 * w3 >>> 63 = x0 at *
  generalize (w0 >>> 51 ||| w1 <<< 13) &&& 2251799813685247#64 = x1 at *
  generalize (w1 >>> 38 ||| w2 <<< 26) &&& 2251799813685247#64 = x2 at *
  generalize (w2 >>> 25 ||| w3 <<< 39) &&& 2251799813685247#64 = x3 at *
  generalize w3 >>> 12 &&& 2251799813685247#64 = x4 at *
  refine ⟨⟨rfl, ?_, ?_, ?_, ?_, ?_⟩, ?_⟩
  · show x0.toNat < _; omega
  · show x1.toNat < _; omega
  · show x2.toNat < _; omega
  · show x3.toNat < _; omega
  · show x4.toNat < _; omega
  have y1 : x1.toNat = w0.toNat / 2251799813685248 + 8192 * (w1.toNat % 274877906944) := by omega
  have y2 : x2.toNat = w1.toNat / 274877906944 + 67108864 * (w2.toNat % 33554432) := by omega
  have y3 : x3.toNat = w2.toNat / 33554432 + 549755813888 * (w3.toNat % 4096) := by omega
  have y4 : x4.toNat = w3.toNat / 4096 % 2251799813685248 := by omega
  clear m1 m2 m3 m4 o1 o2 o3 s0 s1 s2 s3 s4
  unfold LF
  have e : leS b 32 = (w0.toNat % 2251799813685248 + x1.toNat * 2251799813685248 + x2.toNat * 5070602400912917605986812821504 + x3.toNat * 11417981541647679048466287755595961091061972992 + x4.toNat * 25711008708143844408671393477458601640355247900524685364822016) + (w3.toNat / 9223372036854775808) * 57896044618658097711785492504343953926634992332820282019728792003956564819968 := by omega
  rw [zf_cut e]
  congr 1
  show x0.toNat + x1.toNat * _ + x2.toNat * _ + x3.toNat * _ + x4.toNat * _ = _
  omega
end Go.Proofs.Ytcekjmejppemeaa
/- limb's product. No program in sight. -/
namespace Go.Proofs.Ytcekjmejppemeaa
open Go.RowKit
theorem prod5 (a0 a1 a2 a3 a4 b0 b1 b2 b3 b4 : Nat) : (a0 + a1 * 2251799813685248 + a2 * 5070602400912917605986812821504 + a3 * 11417981541647679048466287755595961091061972992 + a4 * 25711008708143844408671393477458601640355247900524685364822016) * (b0 + b1 * 2251799813685248 + b2 * 5070602400912917605986812821504 + b3 * 11417981541647679048466287755595961091061972992 + b4 * 25711008708143844408671393477458601640355247900524685364822016) = (a0 * b0 + a1 * (19 * b4) + a2 * (19 * b3) + a3 * (19 * b2) + a4 * (19 * b1)) + (a0 * b1 + a1 * b0 + a2 * (19 * b4) + a3 * (19 * b3) + a4 * (19 * b2)) * 2251799813685248 + (a0 * b2 + a1 * b1 + a2 * b0 + a3 * (19 * b4) + a4 * (19 * b3)) * 5070602400912917605986812821504 + (a0 * b3 + a1 * b2 + a2 * b1 + a3 * b0 + a4 * (19 * b4)) * 11417981541647679048466287755595961091061972992 + (a0 * b4 + a1 * b3 + a2 * b2 + a3 * b1 + a4 * b0) * 25711008708143844408671393477458601640355247900524685364822016 + 57896044618658097711785492504343953926634992332820282019728792003956564819949 * (a1 * b4 * 1 + a2 * b3 * 1 + a2 * b4 * 2251799813685248 + a3 * b2 * 1 + a3 * b3 * 2251799813685248 + a3 * b4 * 5070602400912917605986812821504 + a4 * b1 * 1 + a4 * b2 * 2251799813685248 + a4 * b3 * 5070602400912917605986812821504 + a4 * b4 * 11417981541647679048466287755595961091061972992) := by grind
theorem low32 (x : BitVec 64) : (x &&& 4294967295#64).toNat = x.toNat % 4294967296 := by
  rw [BitVec.toNat_and]
  exact Nat.and_two_pow_sub_one_eq_mod x.toNat 32
theorem mul_nat {x y : BitVec 64} (h : x.toNat * y.toNat < 18446744073709551616) : (x * y).toNat = x.toNat * y.toNat := by
  rw [BitVec.toNat_mul, Nat.mod_eq_of_lt h]
theorem mul641_nat (x y : BitVec 64) : (mul641 x y).toNat = x.toNat * y.toNat % 18446744073709551616 := by
  unfold mul641; rw [BitVec.toNat_mul]
theorem mul640_nat (x y : BitVec 64) : (mul640 x y).toNat = x.toNat * y.toNat / 18446744073709551616 := by
  obtain ⟨g1, g2, g3, g4⟩ := Go.Lib.mul64_hi x.toNat y.toNat x.isLt y.isLt
  have hx := x.isLt
  have hy := y.isLt
  have hxy : x.toNat * y.toNat / 18446744073709551616 < 18446744073709551616 := by
    rw [Nat.div_lt_iff_lt_mul (by decide)]
    exact Nat.mul_lt_mul'' hx hy
  have x1 := shr_nat x 32
  have y1 := shr_nat y 32
  simp only [Nat.reducePow] at x1 y1
  have x0 := low32 x
  have y0 := low32 y
  have a1 := Go.Lib.half_mul_le (a := x.toNat / 4294967296) (b := y.toNat / 4294967296) (by omega) (by omega)
  have a2 := Go.Lib.half_mul_le (a := x.toNat / 4294967296) (b := y.toNat % 4294967296) (by omega) (by omega)
  have a3 := Go.Lib.half_mul_le (a := x.toNat % 4294967296) (b := y.toNat / 4294967296) (by omega) (by omega)
  have p00 := mul_nat (x := x &&& 4294967295#64) (y := y &&& 4294967295#64) (by rw [x0, y0]; exact g1)
  have p10 := mul_nat (x := x >>> 32) (y := y &&& 4294967295#64) (by rw [x1, y0]; omega)
  have p01 := mul_nat (x := x &&& 4294967295#64) (y := y >>> 32) (by rw [x0, y1]; omega)
  have p11 := mul_nat (x := x >>> 32) (y := y >>> 32) (by rw [x1, y1]; omega)
  rw [x0, y0] at p00
  rw [x1, y0] at p10
  rw [x0, y1] at p01
  rw [x1, y1] at p11
  have s00 := shr_nat ((x &&& 4294967295#64) * (y &&& 4294967295#64)) 32
  simp only [Nat.reducePow] at s00
  rw [p00] at s00
  have t := add_nat (x := (x >>> 32) * (y &&& 4294967295#64)) (y := ((x &&& 4294967295#64) * (y &&& 4294967295#64)) >>> 32) (by rw [p10, s00]; exact g2)
  rw [p10, s00] at t
  unfold mul640
  generalize (x >>> 32) * (y &&& 4294967295#64) + ((x &&& 4294967295#64) * (y &&& 4294967295#64)) >>> 32 = T at *
  have tl := low32 T
  have ts := shr_nat T 32
  simp only [Nat.reducePow] at ts
  rw [t] at tl ts
  have u := add_nat (x := T &&& 4294967295#64) (y := (x &&& 4294967295#64) * (y >>> 32)) (by rw [tl, p01]; exact g3)
  rw [tl, p01] at u
  generalize (T &&& 4294967295#64) + (x &&& 4294967295#64) * (y >>> 32) = U at *
  have us := shr_nat U 32
  simp only [Nat.reducePow] at us
  rw [u] at us
  have v := add_nat (x := (x >>> 32) * (y >>> 32)) (y := T >>> 32) (by rw [p11, ts]; omega)
  rw [p11, ts] at v
  have w := add_nat (x := (x >>> 32) * (y >>> 32) + T >>> 32) (y := U >>> 32) (by rw [v, us]; omega)
  rw [w, v, us]
  exact g4
theorem addC_nat {x y : BitVec 64} : (addC x y 0#64).toNat = (x.toNat + y.toNat) / 18446744073709551616 := by
  have := x.isLt
  have := y.isLt
  unfold addC
  rw [BitVec.toNat_ofNat, show (0#64 : BitVec 64).toNat = 0 from rfl, Nat.add_zero]
  omega
def acc (hi lo : List (BitVec 64)) (t : Nat) : Nat := (nth hi t).toNat * 18446744073709551616 + (nth lo t).toNat
theorem mul_step {hi lo : List (BitVec 64)} (hh : hi.length = 5) (hl : lo.length = 5) (x y : BitVec 64) {t : Nat} (ht : t < 5) (hb : acc hi lo t + x.toNat * y.toNat < 340282366920938463463374607431768211456) (s : Nat) :
    acc (put hi t (nth hi t + (mul640 x y + addC (nth lo t) (mul641 x y) 0#64))) (put lo t (nth lo t + mul641 x y + 0#64)) s = acc hi lo s + (if t = s then x.toNat * y.toNat else 0) := by
  unfold acc at *
  rw [nth_put _ _ _ _ (by omega), nth_put _ _ _ _ (by omega)]
  by_cases e : t = s
  · subst e
    rw [if_pos rfl, if_pos rfl, if_pos rfl, BitVec.add_zero]
    have e0 := mul640_nat x y
    have e1 := mul641_nat x y
    have e2 := addC_nat (x := nth lo t) (y := mul641 x y)
    generalize x.toNat * y.toNat = q at *
    have b0 := (nth lo t).isLt
    have b1 := (mul641 x y).isLt
    have f1 := add_nat (x := mul640 x y) (y := addC (nth lo t) (mul641 x y) 0#64) (by rw [e0, e2]; omega)
    have f2 := add_nat (x := nth hi t) (y := mul640 x y + addC (nth lo t) (mul641 x y) 0#64) (by rw [f1, e0, e2]; omega)
    rw [f2, f1, e0, e2, BitVec.toNat_add]
    omega
  · rw [if_neg e, if_neg e, if_neg e, Nat.add_zero]
/-- The products that come to a place. -/
def mulP (a b : List (BitVec 64)) (i k : Nat) : Nat := (nth a i).toNat * (if 5 ≤ i + k then 19 * (nth b k).toNat else (nth b k).toNat)
def sI (a b : List (BitVec 64)) (i t : Nat) : Nat → Nat
  | 0 => 0
  | k + 1 => sI a b i t k + (if (i + k) % 5 = t then mulP a b i k else 0)
def sO (a b : List (BitVec 64)) (t : Nat) : Nat → Nat
  | 0 => 0
  | i + 1 => sO a b t i + sI a b i t 5
theorem fine_lt {n : Nat} {a : List (BitVec 64)} (h : Low n a) (i : Nat) (hi : i < 5) : (nth a i).toNat < n := by
  obtain ⟨_, h0, h1, h2, h3, h4⟩ := h
  rcases (by omega : i = 0 ∨ i = 1 ∨ i = 2 ∨ i = 3 ∨ i = 4) with e | e | e | e | e <;> subst e <;> assumption
theorem mulP_lt {a b : List (BitVec 64)} (ha : Fine a) (hb : Fine b) (i k : Nat) (hi : i < 5) (hk : k < 5) : mulP a b i k ≤ 649037107316853453566312041152512 := by
  have h1 := fine_lt ha i hi
  have h2 := fine_lt hb k hk
  unfold mulP
  refine Nat.le_trans (Nat.mul_le_mul (Nat.le_of_lt h1) (show _ ≤ 144115188075855872 from ?_)) (by decide)
  split <;> omega
theorem mulx {b : List (BitVec 64)} (hb : Fine b) (i k : Nat) (hk : k < 5) : (if 5 ≤ i + k then (nth b k) * 19#64 else nth b k).toNat = (if 5 ≤ i + k then 19 * (nth b k).toNat else (nth b k).toNat) := by
  have h2 := fine_lt hb k hk
  split
  · rw [mul_nat (by show (nth b k).toNat * 19 < _; omega)]
    show (nth b k).toNat * 19 = _
    omega
  · rfl
theorem sI_le {a b : List (BitVec 64)} (ha : Fine a) (hb : Fine b) (i t : Nat) (hi : i < 5) : ∀ k, k ≤ 5 → sI a b i t k ≤ k * 649037107316853453566312041152512 := by
  intro k
  induction k with
  | zero => intro _; exact Nat.zero_le _
  | succ k ih =>
    intro hk
    have h1 := ih (by omega)
    have h2 := mulP_lt ha hb i k hi (by omega)
    rw [sI, Nat.succ_mul]
    refine Nat.add_le_add h1 ?_
    by_cases e : (i + k) % 5 = t
    · rw [if_pos e]; exact h2
    · rw [if_neg e]; exact Nat.zero_le _
theorem inner_acc {a b X1 X2 : List (BitVec 64)} (ha : Fine a) (hb : Fine b) (h1 : X1.length = 5) (h2 : X2.length = 5) (i : Nat) (hi : i < 5) (hX : ∀ t, acc X1 X2 t ≤ i * 3245185536584267267831560205762560) : ∀ k, k ≤ 5 →
    ∀ t, acc (lmMul_L6 a b X1 X2 i k).1 (lmMul_L6 a b X1 X2 i k).2 t = acc X1 X2 t + sI a b i t k := by
  intro k
  induction k with
  | zero => intro _ t; show acc X1 X2 t = acc X1 X2 t + 0; rw [Nat.add_zero]
  | succ k ih =>
    intro hk t
    have hl := lmMul_L6_lens a b X1 X2 i ha.1 hb.1 h1 h2 k
    have hx := mulx hb i k (by omega)
    have hP := mulP_lt ha hb i k hi (by omega)
    have hS := sI_le ha hb i ((i + k) % 5) hi k (by omega)
    have hA := hX ((i + k) % 5)
    have he := ih (by omega) ((i + k) % 5)
    rw [lmMul_L6, lmMul_L6_S, sI, ← Nat.add_assoc, ← ih (by omega) t]
    unfold mulP at hP
    rw [← hx] at hP
    have := mul_step hl.1 hl.2 (nth a i) (if 5 ≤ i + k then (nth b k) * 19#64 else nth b k) (t := (i + k) % 5) (by omega) (by rw [he]; omega) t
    rw [this]
    unfold mulP
    rw [hx]
theorem outer_acc {a b : List (BitVec 64)} (ha : Fine a) (hb : Fine b) : ∀ i, i ≤ 5 → (∀ t, acc (lmMul_L3 a b i).1 (lmMul_L3 a b i).2 t = sO a b t i) ∧ ∀ t, sO a b t i ≤ i * 3245185536584267267831560205762560 := by
  intro i
  induction i with
  | zero =>
    intro _
    refine ⟨fun t => ?_, fun t => Nat.zero_le _⟩
    show (nth (zer64 5) t).toNat * 18446744073709551616 + (nth (zer64 5) t).toNat = 0
    have : nth (zer64 5) t = 0#64 := by
      unfold nth zer64
      rw [List.getD_eq_getElem?_getD, List.getElem?_replicate]
      split <;> rfl
    rw [this]; rfl
  | succ i ih =>
    intro hi
    obtain ⟨h1, h2⟩ := ih (by omega)
    have hl := lmMul_L3_lens a b ha.1 hb.1 i
    have hin := inner_acc ha hb hl.1 hl.2 i (by omega) (fun t => by rw [h1]; exact h2 t) 5 (Nat.le_refl _)
    refine ⟨fun t => ?_, fun t => ?_⟩
    · rw [lmMul_L3, lmMul_L3_S, sO, ← h1 t]; exact hin t
    · rw [sO]
      have := sI_le ha hb i t (by omega) 5 (Nat.le_refl _)
      have := h2 t
      omega
/-- One word of the carrying on. -/
theorem carry_step {hi lo c : BitVec 64} (h : hi.toNat * 18446744073709551616 + lo.toNat + c.toNat < 41538374868278621028243970633760768) :
    ((lo + c + 0#64) &&& 2251799813685247#64).toNat = (hi.toNat * 18446744073709551616 + lo.toNat + c.toNat) % 2251799813685248 ∧
    (((hi + addC lo c 0#64) <<< 13) ||| ((lo + c + 0#64) >>> 51)).toNat = (hi.toNat * 18446744073709551616 + lo.toNat + c.toNat) / 2251799813685248 := by
  have b0 := lo.isLt
  have b1 := c.isLt
  have e := addC_nat (x := lo) (y := c)
  have f := add_nat (x := hi) (y := addC lo c 0#64) (by rw [e]; omega)
  rw [e] at f
  have g : (lo + c + 0#64).toNat = (lo.toNat + c.toNat) % 18446744073709551616 := by rw [BitVec.add_zero, BitVec.toNat_add]
  generalize lo + c + 0#64 = l at *
  generalize hi + addC lo c 0#64 = q at *
  have s := shr51 l
  refine ⟨by rw [mask_toNat, g]; omega, ?_⟩
  have o := or_low (x := l >>> 51) (y := q) 13 (by rw [s]; show _ < 8192; omega)
  simp only [Nat.reducePow] at o
  rw [BitVec.or_comm, o, s, f, g]
  omega
def chain5 (h0 h1 h2 h3 h4 l0 l1 l2 l3 l4 : BitVec 64) : BitVec 64 × List (BitVec 64) :=
  let c0 := 0#64
  let c1 := ((h0 + addC l0 c0 0#64) <<< 13) ||| ((l0 + c0 + 0#64) >>> 51)
  let c2 := ((h1 + addC l1 c1 0#64) <<< 13) ||| ((l1 + c1 + 0#64) >>> 51)
  let c3 := ((h2 + addC l2 c2 0#64) <<< 13) ||| ((l2 + c2 + 0#64) >>> 51)
  let c4 := ((h3 + addC l3 c3 0#64) <<< 13) ||| ((l3 + c3 + 0#64) >>> 51)
  let c5 := ((h4 + addC l4 c4 0#64) <<< 13) ||| ((l4 + c4 + 0#64) >>> 51)
  (c5, [(l0 + c0 + 0#64) &&& 2251799813685247#64, (l1 + c1 + 0#64) &&& 2251799813685247#64, (l2 + c2 + 0#64) &&& 2251799813685247#64, (l3 + c3 + 0#64) &&& 2251799813685247#64, (l4 + c4 + 0#64) &&& 2251799813685247#64])
theorem chain_eq (h0 h1 h2 h3 h4 l0 l1 l2 l3 l4 : BitVec 64) : lmMul_L21 [h0, h1, h2, h3, h4] [l0, l1, l2, l3, l4] 5 = chain5 h0 h1 h2 h3 h4 l0 l1 l2 l3 l4 := by kernel_rfl
theorem chain_spec (h0 h1 h2 h3 h4 l0 l1 l2 l3 l4 : BitVec 64) (b0 : h0.toNat * 18446744073709551616 + l0.toNat ≤ 16225927682921336339157801028812800) (b1 : h1.toNat * 18446744073709551616 + l1.toNat ≤ 16225927682921336339157801028812800) (b2 : h2.toNat * 18446744073709551616 + l2.toNat ≤ 16225927682921336339157801028812800) (b3 : h3.toNat * 18446744073709551616 + l3.toNat ≤ 16225927682921336339157801028812800) (b4 : h4.toNat * 18446744073709551616 + l4.toNat ≤ 16225927682921336339157801028812800) :
    ∃ c r0 r1 r2 r3 r4 : BitVec 64, chain5 h0 h1 h2 h3 h4 l0 l1 l2 l3 l4 = (c, [r0, r1, r2, r3, r4]) ∧ r0.toNat < 2251799813685248 ∧ r1.toNat < 2251799813685248 ∧ r2.toNat < 2251799813685248 ∧ r3.toNat < 2251799813685248 ∧ r4.toNat < 2251799813685248 ∧
      (h0.toNat * 18446744073709551616 + l0.toNat) + (h1.toNat * 18446744073709551616 + l1.toNat) * 2251799813685248 + (h2.toNat * 18446744073709551616 + l2.toNat) * 5070602400912917605986812821504 + (h3.toNat * 18446744073709551616 + l3.toNat) * 11417981541647679048466287755595961091061972992 + (h4.toNat * 18446744073709551616 + l4.toNat) * 25711008708143844408671393477458601640355247900524685364822016 =
      r0.toNat + r1.toNat * 2251799813685248 + r2.toNat * 5070602400912917605986812821504 + r3.toNat * 11417981541647679048466287755595961091061972992 + r4.toNat * 25711008708143844408671393477458601640355247900524685364822016 + c.toNat * 57896044618658097711785492504343953926634992332820282019728792003956564819968 := by
  refine ⟨_, _, _, _, _, _, rfl, ?_⟩
  have z : (0#64 : BitVec 64).toNat = 0 := rfl
  obtain ⟨m0, k0⟩ := carry_step (hi := h0) (lo := l0) (c := 0#64) (by rw [z]; omega)
  generalize ((h0 + addC l0 0#64 0#64) <<< 13) ||| ((l0 + 0#64 + 0#64) >>> 51) = c1 at *
  have := c1.isLt
  obtain ⟨m1, k1⟩ := carry_step (hi := h1) (lo := l1) (c := c1) (by omega)
  generalize ((h1 + addC l1 c1 0#64) <<< 13) ||| ((l1 + c1 + 0#64) >>> 51) = c2 at *
  have := c2.isLt
  obtain ⟨m2, k2⟩ := carry_step (hi := h2) (lo := l2) (c := c2) (by omega)
  generalize ((h2 + addC l2 c2 0#64) <<< 13) ||| ((l2 + c2 + 0#64) >>> 51) = c3 at *
  have := c3.isLt
  obtain ⟨m3, k3⟩ := carry_step (hi := h3) (lo := l3) (c := c3) (by omega)
  generalize ((h3 + addC l3 c3 0#64) <<< 13) ||| ((l3 + c3 + 0#64) >>> 51) = c4 at *
  have := c4.isLt
  obtain ⟨m4, k4⟩ := carry_step (hi := h4) (lo := l4) (c := c4) (by omega)
  rw [m0, m1, m2, m3, m4, k4, z]
  omega
theorem mul_fine {a b : List (BitVec 64)} (ha : Fine a) (hb : Fine b) : Fine (lmMul a b) ∧ LF (lmMul a b) = LF a * LF b := by
  obtain ⟨hac, hle⟩ := outer_acc ha hb 5 (Nat.le_refl _)
  have hl := lmMul_L3_lens a b ha.1 hb.1 5
  unfold lmMul
  generalize lmMul_L3 a b 5 = Y at *
  obtain ⟨hi, lo⟩ := Y
  dsimp only at hac hl ⊢
  obtain ⟨h0, h1, h2, h3, h4, rfl⟩ := five hl.1
  obtain ⟨l0, l1, l2, l3, l4, rfl⟩ := five hl.2
  have a0 := hac 0
  have a1 := hac 1
  have a2 := hac 2
  have a3 := hac 3
  have a4 := hac 4
  change h0.toNat * 18446744073709551616 + l0.toNat = _ at a0
  change h1.toNat * 18446744073709551616 + l1.toNat = _ at a1
  change h2.toNat * 18446744073709551616 + l2.toNat = _ at a2
  change h3.toNat * 18446744073709551616 + l3.toNat = _ at a3
  change h4.toNat * 18446744073709551616 + l4.toNat = _ at a4
  have d0 := hle 0
  have d1 := hle 1
  have d2 := hle 2
  have d3 := hle 3
  have d4 := hle 4
  rw [chain_eq]
  obtain ⟨c, r0, r1, r2, r3, r4, he, g0, g1, g2, g3, g4, g5⟩ := chain_spec h0 h1 h2 h3 h4 l0 l1 l2 l3 l4 (by omega) (by omega) (by omega) (by omega) (by omega)
  rw [he]
  dsimp only
  have p0 := mul640_nat c 19#64
  have p1 := mul641_nat c 19#64
  rw [show (19#64 : BitVec 64).toNat = 19 from rfl] at p0 p1
  have hc := c.isLt
  obtain ⟨q0, q1⟩ := carry_step (hi := mul640 c 19#64) (lo := mul641 c 19#64) (c := r0) (by omega)
  show Fine (lmCar [(mul641 c 19#64 + r0 + 0#64) &&& 2251799813685247#64, r1 + (((mul640 c 19#64 + addC (mul641 c 19#64) r0 0#64) <<< 13) ||| ((mul641 c 19#64 + r0 + 0#64) >>> 51)), r2, r3, r4]) ∧ LF (lmCar [(mul641 c 19#64 + r0 + 0#64) &&& 2251799813685247#64, r1 + (((mul640 c 19#64 + addC (mul641 c 19#64) r0 0#64) <<< 13) ||| ((mul641 c 19#64 + r0 + 0#64) >>> 51)), r2, r3, r4]) = _
  generalize ((mul640 c 19#64 + addC (mul641 c 19#64) r0 0#64) <<< 13) ||| ((mul641 c 19#64 + r0 + 0#64) >>> 51) = u at *
  generalize (mul641 c 19#64 + r0 + 0#64) &&& 2251799813685247#64 = v at *
  have hu := add_nat (x := r1) (y := u) (by omega)
  generalize r1 + u = w at *
  obtain ⟨f1, f2⟩ := car_fine (a := [v, w, r2, r3, r4]) ⟨rfl, by show v.toNat < _; omega, by show w.toNat < _; omega, by show r2.toNat < _; omega, by show r3.toNat < _; omega, by show r4.toNat < _; omega⟩
  refine ⟨f1, f2.trans ?_⟩
  unfold LF
  rw [← zf_mul]
  have e1 : lV a * lV b = (h0.toNat * 18446744073709551616 + l0.toNat) + (h1.toNat * 18446744073709551616 + l1.toNat) * 2251799813685248 + (h2.toNat * 18446744073709551616 + l2.toNat) * 5070602400912917605986812821504 + (h3.toNat * 18446744073709551616 + l3.toNat) * 11417981541647679048466287755595961091061972992 + (h4.toNat * 18446744073709551616 + l4.toNat) * 25711008708143844408671393477458601640355247900524685364822016 + 57896044618658097711785492504343953926634992332820282019728792003956564819949 * ((nth a 1).toNat * (nth b 4).toNat * 1 + (nth a 2).toNat * (nth b 3).toNat * 1 + (nth a 2).toNat * (nth b 4).toNat * 2251799813685248 + (nth a 3).toNat * (nth b 2).toNat * 1 + (nth a 3).toNat * (nth b 3).toNat * 2251799813685248 + (nth a 3).toNat * (nth b 4).toNat * 5070602400912917605986812821504 + (nth a 4).toNat * (nth b 1).toNat * 1 + (nth a 4).toNat * (nth b 2).toNat * 2251799813685248 + (nth a 4).toNat * (nth b 3).toNat * 5070602400912917605986812821504 + (nth a 4).toNat * (nth b 4).toNat * 11417981541647679048466287755595961091061972992) := by
    rw [a0, a1, a2, a3, a4]
    unfold lV
    rw [prod5]
    simp only [sO, sI, mulP, Nat.reduceAdd, Nat.reduceMod, Nat.reduceLeDiff, Nat.zero_add, Nat.add_zero, if_true, if_false, Nat.reduceEqDiff]
  have e2 : zf (lV a * lV b) = zf (r0.toNat + r1.toNat * 2251799813685248 + r2.toNat * 5070602400912917605986812821504 + r3.toNat * 11417981541647679048466287755595961091061972992 + r4.toNat * 25711008708143844408671393477458601640355247900524685364822016 + c.toNat * 57896044618658097711785492504343953926634992332820282019728792003956564819968) := by
    rw [zf_eq, e1, Nat.add_mul_mod_self_left, g5]
  rw [e2, zf_cut rfl]
  congr 1
  show v.toNat + w.toNat * _ + r2.toNat * _ + r3.toNat * _ + r4.toNat * _ = _
  omega
end Go.Proofs.Ytcekjmejppemeaa
/- field.Mod, field.Add, field.Sub, field.Mul, field.Inv (Drawn up by a program.) -/
namespace Go.Proofs.Ytcekjmejppemeaa
open Go.RowKit
def fdMod (a : List (BitVec 8)) : List (BitVec 8) := lmBytes (lmOf a)
set_option maxRecDepth 100000 in
set_option maxHeartbeats 2000000 in
theorem fdMod_ev (a : List (BitVec 8)) (ha : a.length = 32) : Ev Try.prog (.call 18 [.agg (.a8 (a))] []) (.val (.agg (.a8 (fdMod a))) []) := by
  have hP : Hid (fdMod a = lmBytes (lmOf a)) := ⟨rfl⟩
  refine c_call Try.func18 rfl Try.ntmps18 rfl LEN_ ?_
  refine S_ ?_
  refine c_region ?_
  refine s_memN (m_box BX_ LEN_) APP_ rfl ?_
  refine s_memN (m_alloc al_22 LEN_) APP_ rfl ?_
  refine s_nil ?_
  have hQ1 : (lmOf a).length = 5 := LQ_
  have hQ2 : (lmBytes (lmOf a)).length = 32 := LQ_
  refine S_ ?_
  refine c_region ?_
  refine s_val (v_loadR rfl rfl row_22 sz_22 EQ_ (by decide)) rfl ?_
  refine s_evN (e_callR (bs := []) (lmOf_ev a HYP_) ok_41 (by kernel_rfl) (by kernel_rfl) rfl VAL_) APP_ rfl ?_
  refine s_evN (e_callR (bs := []) (lmBytes_ev (lmOf a) HYP_) ok_42 (by kernel_rfl) (by kernel_rfl) rfl VAL_) APP_ rfl ?_
  refine s_storeR rfl rfl rfl rfl sz_22 EQ_ EQ_ SET_ ?_
  refine s_nil ?_
  refine S_ ?_
  rw [hP.out]
  exact k_1 (r_row rfl rfl row_22 sz_22 EQ_ (by decide)) (by first | kernel_rfl | rfl)

@[simp] theorem fdMod_len (a : List (BitVec 8)) (ha : a.length = 32) : (fdMod a).length = 32 := by
  unfold fdMod
  first | (simp (maxDischargeDepth := 9) [*]; done) | (simp (maxDischargeDepth := 9) [*]; omega) | (split <;> (simp (maxDischargeDepth := 9) [*]; done))

attribute [irreducible] fdMod

def fdAdd (a : List (BitVec 8)) (b : List (BitVec 8)) : List (BitVec 8) := lmBytes (lmAdd (lmOf a) (lmOf b))
set_option maxRecDepth 100000 in
set_option maxHeartbeats 2000000 in
theorem fdAdd_ev (a : List (BitVec 8)) (b : List (BitVec 8)) (ha : a.length = 32) (hb : b.length = 32) : Ev Try.prog (.call 22 [.agg (.a8 (a)), .agg (.a8 (b))] []) (.val (.agg (.a8 (fdAdd a b))) []) := by
  have hP : Hid (fdAdd a b = lmBytes (lmAdd (lmOf a) (lmOf b))) := ⟨rfl⟩
  refine c_call Try.func22 rfl Try.ntmps22 rfl LEN_ ?_
  refine S_ ?_
  refine c_region ?_
  refine s_memN (m_box BX_ LEN_) APP_ rfl ?_
  refine s_memN (m_box BX_ LEN_) APP_ rfl ?_
  refine s_memN (m_alloc al_22 LEN_) APP_ rfl ?_
  refine s_nil ?_
  have hQ1 : (lmOf a).length = 5 := LQ_
  have hQ2 : (lmOf b).length = 5 := LQ_
  have hQ3 : (lmAdd (lmOf a) (lmOf b)).length = 5 := LQ_
  have hQ4 : (lmBytes (lmAdd (lmOf a) (lmOf b))).length = 32 := LQ_
  refine S_ ?_
  refine c_draw 6 mixed (by kernel_rfl) rfl rfl rfl ?_
  refine h_val (v_loadR rfl rfl row_22 sz_22 EQ_ (by decide)) rfl ?_
  refine h_evN (e_callR (bs := []) (lmOf_ev a HYP_) ok_41 (by kernel_rfl) (by kernel_rfl) rfl VAL_) APP_ rfl ?_
  refine h_val (v_loadR rfl rfl row_22 sz_22 EQ_ (by decide)) rfl ?_
  refine h_evN (e_callR (bs := []) (lmOf_ev b HYP_) ok_41 (by kernel_rfl) (by kernel_rfl) rfl VAL_) APP_ rfl ?_
  refine h_evN (e_callR (bs := []) (lmAdd_ev (lmOf a) (lmOf b) HYP_ HYP_) ok_46 (by kernel_rfl) (by kernel_rfl) rfl VAL_) APP_ rfl ?_
  refine h_evN (e_callR (bs := []) (lmBytes_ev (lmAdd (lmOf a) (lmOf b)) HYP_) ok_42 (by kernel_rfl) (by kernel_rfl) rfl VAL_) APP_ rfl ?_
  refine h_nil ?_
  refine s_storeR rfl rfl rfl rfl sz_22 EQ_ EQ_ SET_ ?_
  refine s_nil ?_
  refine S_ ?_
  rw [hP.out]
  exact k_1 (r_row rfl rfl row_22 sz_22 EQ_ (by decide)) (by first | kernel_rfl | rfl)

@[simp] theorem fdAdd_len (a : List (BitVec 8)) (b : List (BitVec 8)) (ha : a.length = 32) (hb : b.length = 32) : (fdAdd a b).length = 32 := by
  unfold fdAdd
  first | (simp (maxDischargeDepth := 9) [*]; done) | (simp (maxDischargeDepth := 9) [*]; omega) | (split <;> (simp (maxDischargeDepth := 9) [*]; done))

attribute [irreducible] fdAdd

def fdSub (a : List (BitVec 8)) (b : List (BitVec 8)) : List (BitVec 8) := lmBytes (lmSub (lmOf a) (lmOf b))
set_option maxRecDepth 100000 in
set_option maxHeartbeats 2000000 in
theorem fdSub_ev (a : List (BitVec 8)) (b : List (BitVec 8)) (ha : a.length = 32) (hb : b.length = 32) : Ev Try.prog (.call 20 [.agg (.a8 (a)), .agg (.a8 (b))] []) (.val (.agg (.a8 (fdSub a b))) []) := by
  have hP : Hid (fdSub a b = lmBytes (lmSub (lmOf a) (lmOf b))) := ⟨rfl⟩
  refine c_call Try.func20 rfl Try.ntmps20 rfl LEN_ ?_
  refine S_ ?_
  refine c_region ?_
  refine s_memN (m_box BX_ LEN_) APP_ rfl ?_
  refine s_memN (m_box BX_ LEN_) APP_ rfl ?_
  refine s_memN (m_alloc al_22 LEN_) APP_ rfl ?_
  refine s_nil ?_
  have hQ1 : (lmOf a).length = 5 := LQ_
  have hQ2 : (lmOf b).length = 5 := LQ_
  have hQ3 : (lmSub (lmOf a) (lmOf b)).length = 5 := LQ_
  have hQ4 : (lmBytes (lmSub (lmOf a) (lmOf b))).length = 32 := LQ_
  refine S_ ?_
  refine c_draw 6 mixed (by kernel_rfl) rfl rfl rfl ?_
  refine h_val (v_loadR rfl rfl row_22 sz_22 EQ_ (by decide)) rfl ?_
  refine h_evN (e_callR (bs := []) (lmOf_ev a HYP_) ok_41 (by kernel_rfl) (by kernel_rfl) rfl VAL_) APP_ rfl ?_
  refine h_val (v_loadR rfl rfl row_22 sz_22 EQ_ (by decide)) rfl ?_
  refine h_evN (e_callR (bs := []) (lmOf_ev b HYP_) ok_41 (by kernel_rfl) (by kernel_rfl) rfl VAL_) APP_ rfl ?_
  refine h_evN (e_callR (bs := []) (lmSub_ev (lmOf a) (lmOf b) HYP_ HYP_) ok_44 (by kernel_rfl) (by kernel_rfl) rfl VAL_) APP_ rfl ?_
  refine h_evN (e_callR (bs := []) (lmBytes_ev (lmSub (lmOf a) (lmOf b)) HYP_) ok_42 (by kernel_rfl) (by kernel_rfl) rfl VAL_) APP_ rfl ?_
  refine h_nil ?_
  refine s_storeR rfl rfl rfl rfl sz_22 EQ_ EQ_ SET_ ?_
  refine s_nil ?_
  refine S_ ?_
  rw [hP.out]
  exact k_1 (r_row rfl rfl row_22 sz_22 EQ_ (by decide)) (by first | kernel_rfl | rfl)

@[simp] theorem fdSub_len (a : List (BitVec 8)) (b : List (BitVec 8)) (ha : a.length = 32) (hb : b.length = 32) : (fdSub a b).length = 32 := by
  unfold fdSub
  first | (simp (maxDischargeDepth := 9) [*]; done) | (simp (maxDischargeDepth := 9) [*]; omega) | (split <;> (simp (maxDischargeDepth := 9) [*]; done))

attribute [irreducible] fdSub

def fdMul (a : List (BitVec 8)) (b : List (BitVec 8)) : List (BitVec 8) := lmBytes (lmMul (lmOf a) (lmOf b))
set_option maxRecDepth 100000 in
set_option maxHeartbeats 2000000 in
theorem fdMul_ev (a : List (BitVec 8)) (b : List (BitVec 8)) (ha : a.length = 32) (hb : b.length = 32) : Ev Try.prog (.call 19 [.agg (.a8 (a)), .agg (.a8 (b))] []) (.val (.agg (.a8 (fdMul a b))) []) := by
  have hP : Hid (fdMul a b = lmBytes (lmMul (lmOf a) (lmOf b))) := ⟨rfl⟩
  refine c_call Try.func19 rfl Try.ntmps19 rfl LEN_ ?_
  refine S_ ?_
  refine c_region ?_
  refine s_memN (m_box BX_ LEN_) APP_ rfl ?_
  refine s_memN (m_box BX_ LEN_) APP_ rfl ?_
  refine s_memN (m_alloc al_22 LEN_) APP_ rfl ?_
  refine s_nil ?_
  have hQ1 : (lmOf a).length = 5 := LQ_
  have hQ2 : (lmOf b).length = 5 := LQ_
  have hQ3 : (lmMul (lmOf a) (lmOf b)).length = 5 := LQ_
  have hQ4 : (lmBytes (lmMul (lmOf a) (lmOf b))).length = 32 := LQ_
  refine S_ ?_
  refine c_draw 6 mixed (by kernel_rfl) rfl rfl rfl ?_
  refine h_val (v_loadR rfl rfl row_22 sz_22 EQ_ (by decide)) rfl ?_
  refine h_evN (e_callR (bs := []) (lmOf_ev a HYP_) ok_41 (by kernel_rfl) (by kernel_rfl) rfl VAL_) APP_ rfl ?_
  refine h_val (v_loadR rfl rfl row_22 sz_22 EQ_ (by decide)) rfl ?_
  refine h_evN (e_callR (bs := []) (lmOf_ev b HYP_) ok_41 (by kernel_rfl) (by kernel_rfl) rfl VAL_) APP_ rfl ?_
  refine h_evN (e_callR (bs := []) (lmMul_ev (lmOf a) (lmOf b) HYP_ HYP_) ok_43 (by kernel_rfl) (by kernel_rfl) rfl VAL_) APP_ rfl ?_
  refine h_evN (e_callR (bs := []) (lmBytes_ev (lmMul (lmOf a) (lmOf b)) HYP_) ok_42 (by kernel_rfl) (by kernel_rfl) rfl VAL_) APP_ rfl ?_
  refine h_nil ?_
  refine s_storeR rfl rfl rfl rfl sz_22 EQ_ EQ_ SET_ ?_
  refine s_nil ?_
  refine S_ ?_
  rw [hP.out]
  exact k_1 (r_row rfl rfl row_22 sz_22 EQ_ (by decide)) (by first | kernel_rfl | rfl)

@[simp] theorem fdMul_len (a : List (BitVec 8)) (b : List (BitVec 8)) (ha : a.length = 32) (hb : b.length = 32) : (fdMul a b).length = 32 := by
  unfold fdMul
  first | (simp (maxDischargeDepth := 9) [*]; done) | (simp (maxDischargeDepth := 9) [*]; omega) | (split <;> (simp (maxDischargeDepth := 9) [*]; done))

attribute [irreducible] fdMul

def fdInv (a : List (BitVec 8)) : List (BitVec 8) := lmBytes (lmInv (lmOf a))
set_option maxRecDepth 100000 in
set_option maxHeartbeats 2000000 in
theorem fdInv_ev (a : List (BitVec 8)) (ha : a.length = 32) : Ev Try.prog (.call 21 [.agg (.a8 (a))] []) (.val (.agg (.a8 (fdInv a))) []) := by
  have hP : Hid (fdInv a = lmBytes (lmInv (lmOf a))) := ⟨rfl⟩
  refine c_call Try.func21 rfl Try.ntmps21 rfl LEN_ ?_
  refine S_ ?_
  refine c_region ?_
  refine s_memN (m_box BX_ LEN_) APP_ rfl ?_
  refine s_memN (m_alloc al_22 LEN_) APP_ rfl ?_
  refine s_nil ?_
  have hQ1 : (lmOf a).length = 5 := LQ_
  have hQ2 : (lmInv (lmOf a)).length = 5 := LQ_
  have hQ3 : (lmBytes (lmInv (lmOf a))).length = 32 := LQ_
  refine S_ ?_
  refine c_region ?_
  refine s_val (v_loadR rfl rfl row_22 sz_22 EQ_ (by decide)) rfl ?_
  refine s_evN (e_callR (bs := []) (lmOf_ev a HYP_) ok_41 (by kernel_rfl) (by kernel_rfl) rfl VAL_) APP_ rfl ?_
  refine s_evN (e_callR (bs := []) (lmInv_ev (lmOf a) HYP_) ok_45 (by kernel_rfl) (by kernel_rfl) rfl VAL_) APP_ rfl ?_
  refine s_evN (e_callR (bs := []) (lmBytes_ev (lmInv (lmOf a)) HYP_) ok_42 (by kernel_rfl) (by kernel_rfl) rfl VAL_) APP_ rfl ?_
  refine s_storeR rfl rfl rfl rfl sz_22 EQ_ EQ_ SET_ ?_
  refine s_nil ?_
  refine S_ ?_
  rw [hP.out]
  exact k_1 (r_row rfl rfl row_22 sz_22 EQ_ (by decide)) (by first | kernel_rfl | rfl)

@[simp] theorem fdInv_len (a : List (BitVec 8)) (ha : a.length = 32) : (fdInv a).length = 32 := by
  unfold fdInv
  first | (simp (maxDischargeDepth := 9) [*]; done) | (simp (maxDischargeDepth := 9) [*]; omega) | (split <;> (simp (maxDischargeDepth := 9) [*]; done))

attribute [irreducible] fdInv
end Go.Proofs.Ytcekjmejppemeaa
/- field.Root, field.Root (Drawn up by a program.) -/
namespace Go.Proofs.Ytcekjmejppemeaa
open Go.RowKit
def fdRoot0 (a : List (BitVec 8)) : List (BitVec 8) := lmBytes (if (((nth (lmBytes (lmRoot0 (lmOf a))) 0) &&& 1#8) == 1#8) = true then lmSub (lmSmall 0#64) (lmRoot0 (lmOf a)) else lmRoot0 (lmOf a))
set_option maxRecDepth 100000 in
set_option maxHeartbeats 2000000 in
theorem fdRoot_ev (a : List (BitVec 8)) (ha : a.length = 32) (hE : lmRoot1 (lmOf a) = true) : Ev Try.prog (.call 23 [.agg (.a8 (a))] []) (.val (.tup [.agg (.a8 (fdRoot0 a)), .c (.val (.bool (true)))]) []) := by
  have hP_fdRoot0 : Hid (fdRoot0 a = lmBytes (if (((nth (lmBytes (lmRoot0 (lmOf a))) 0) &&& 1#8) == 1#8) = true then lmSub (lmSmall 0#64) (lmRoot0 (lmOf a)) else lmRoot0 (lmOf a))) := ⟨rfl⟩
  refine c_call Try.func23 rfl Try.ntmps23 rfl LEN_ ?_
  refine S_ ?_
  refine c_region ?_
  refine s_memN (m_box BX_ LEN_) APP_ rfl ?_
  refine s_memN (m_alloc al_22 LEN_) APP_ rfl ?_
  refine s_val (v_assignC rfl) rfl ?_
  refine s_nil ?_
  have hQ1 : (lmOf a).length = 5 := LQ_
  have hQ2 : (lmRoot0 (lmOf a)).length = 5 := LQ_
  refine S_ ?_
  refine c_region ?_
  refine s_val (v_loadR rfl rfl row_22 sz_22 EQ_ (by decide)) rfl ?_
  refine s_evN (e_callR (bs := []) (lmOf_ev a HYP_) ok_41 (by kernel_rfl) (by kernel_rfl) rfl VAL_) APP_ rfl ?_
  refine s_evN (e_callR (bs := []) (lmRoot_ev (lmOf a) HYP_) ok_47 (by kernel_rfl) (by kernel_rfl) rfl VAL_) APP_ rfl ?_
  refine s_val (v_moveT rfl) rfl ?_
  refine s_val (v_extract rfl rfl) rfl ?_
  refine s_val (v_extract rfl rfl) rfl ?_
  refine s_memN (m_alloc al_54 LEN_) APP_ rfl ?_
  refine s_storeR rfl rfl rfl rfl sz_54 EQ_ EQ_ SET_ ?_
  refine s_val (v_assignC rfl) rfl ?_
  refine s_nil ?_
  refine S_ ?_
  refine c_region ?_
  refine s_val (v_moveC rfl) rfl ?_
  refine s_val (v_unnotB rfl) rfl ?_
  refine s_nil ?_
  refine Q_ ?_
  refine c_condF rfl (by simp [hE]) ?_
  refine S_ ?_
  refine c_region ?_
  refine s_val (v_loadR rfl rfl row_54 sz_54 EQ_ (by decide)) rfl ?_
  refine s_evN (e_callR (bs := []) (lmOdd_ev (lmRoot0 (lmOf a)) HYP_) ok_48 (by kernel_rfl) (by kernel_rfl) rfl VAL_) APP_ rfl ?_
  refine s_nil ?_
  refine Q_ ?_
  refine c_join [2, 4] (fun (zz : List (BitVec 64)) => ⟨22, keepT [2, 4] [.c (.ptr 0 0), .c (.ptr 1 0)], [.row true (.a8 (zer8 32)), .row true (.a64 (zz))]⟩) (if (((nth (lmBytes (lmRoot0 (lmOf a))) 0) &&& 1#8) == 1#8) = true then lmSub (lmSmall 0#64) (lmRoot0 (lmOf a)) else lmRoot0 (lmOf a)) rfl (fun hb => ?_) (fun hb => ?_) ?_
  · -- the test is True
    have hQ4 : (lmSmall 0#64).length = 5 := LQ_
    have hQ5 : (lmSub (lmSmall 0#64) (lmRoot0 (lmOf a))).length = 5 := LQ_
    refine S_ ?_
    refine c_draw 3 mixed (by kernel_rfl) rfl rfl rfl ?_
    refine h_evN (e_callR (bs := []) (lmSmall_ev 0#64) ok_49 (by kernel_rfl) (by kernel_rfl) rfl VAL_) APP_ rfl ?_
    refine h_val (v_loadR rfl rfl row_54 sz_54 EQ_ (by decide)) rfl ?_
    refine h_evN (e_callR (bs := []) (lmSub_ev (lmSmall 0#64) (lmRoot0 (lmOf a)) HYP_ HYP_) ok_44 (by kernel_rfl) (by kernel_rfl) rfl VAL_) APP_ rfl ?_
    refine h_nil ?_
    refine s_storeR rfl rfl rfl rfl sz_54 EQ_ EQ_ SET_ ?_
    refine s_nil ?_
    refine S_ ?_
    refine ⟨(lmSub (lmSmall 0#64) (lmRoot0 (lmOf a))), by kernel_rfl, ?_⟩
    rw [if_pos (hb)]
  · -- the test is False
    refine S_ ?_
    refine ⟨(lmRoot0 (lmOf a)), by kernel_rfl, ?_⟩
    rw [if_neg (by first | (rw [hb]; decide) | simp [hb])]
  have hJ3 : (if (((nth (lmBytes (lmRoot0 (lmOf a))) 0) &&& 1#8) == 1#8) = true then lmSub (lmSmall 0#64) (lmRoot0 (lmOf a)) else lmRoot0 (lmOf a)).length = 5 := by split <;> simp [*]
  generalize (if (((nth (lmBytes (lmRoot0 (lmOf a))) 0) &&& 1#8) == 1#8) = true then lmSub (lmSmall 0#64) (lmRoot0 (lmOf a)) else lmRoot0 (lmOf a)) = J3 at *
  have hQ6 : (lmBytes J3).length = 32 := LQ_
  refine S_ ?_
  refine c_region ?_
  refine s_val (v_loadR rfl rfl row_54 sz_54 EQ_ (by decide)) rfl ?_
  refine s_evN (e_callR (bs := []) (lmBytes_ev J3 HYP_) ok_42 (by kernel_rfl) (by kernel_rfl) rfl VAL_) APP_ rfl ?_
  refine s_storeR rfl rfl rfl rfl sz_22 EQ_ EQ_ SET_ ?_
  refine s_val (v_assignC rfl) rfl ?_
  refine s_nil ?_
  refine S_ ?_
  rw [hP_fdRoot0.out]
  exact k_2 (r_row rfl rfl row_22 sz_22 EQ_ (by decide)) (by first | exact r_tmpC rfl | exact r_tmpA rfl) (by first | kernel_rfl | rfl)

@[simp] theorem fdRoot0_len (a : List (BitVec 8)) (ha : a.length = 32) : (fdRoot0 a).length = 32 := by
  unfold fdRoot0
  first | (simp (maxDischargeDepth := 9) [*]; done) | (simp (maxDischargeDepth := 9) [*]; omega) | (split <;> (simp (maxDischargeDepth := 9) [*]; done))

attribute [irreducible] fdRoot0

def fdRootN0  : List (BitVec 8) := zer8 32
set_option maxRecDepth 100000 in
set_option maxHeartbeats 2000000 in
theorem fdRootN_ev (a : List (BitVec 8)) (ha : a.length = 32) (hE : lmRoot1 (lmOf a) = false) : Ev Try.prog (.call 23 [.agg (.a8 (a))] []) (.val (.tup [.agg (.a8 (fdRootN0)), .c (.val (.bool (false)))]) []) := by
  have hP_fdRootN0 : Hid (fdRootN0 = zer8 32) := ⟨rfl⟩
  refine c_call Try.func23 rfl Try.ntmps23 rfl LEN_ ?_
  refine S_ ?_
  refine c_region ?_
  refine s_memN (m_box BX_ LEN_) APP_ rfl ?_
  refine s_memN (m_alloc al_22 LEN_) APP_ rfl ?_
  refine s_val (v_assignC rfl) rfl ?_
  refine s_nil ?_
  have hQ1 : (lmOf a).length = 5 := LQ_
  have hQ2 : (lmRoot0 (lmOf a)).length = 5 := LQ_
  refine S_ ?_
  refine c_region ?_
  refine s_val (v_loadR rfl rfl row_22 sz_22 EQ_ (by decide)) rfl ?_
  refine s_evN (e_callR (bs := []) (lmOf_ev a HYP_) ok_41 (by kernel_rfl) (by kernel_rfl) rfl VAL_) APP_ rfl ?_
  refine s_evN (e_callR (bs := []) (lmRoot_ev (lmOf a) HYP_) ok_47 (by kernel_rfl) (by kernel_rfl) rfl VAL_) APP_ rfl ?_
  refine s_val (v_moveT rfl) rfl ?_
  refine s_val (v_extract rfl rfl) rfl ?_
  refine s_val (v_extract rfl rfl) rfl ?_
  refine s_memN (m_alloc al_54 LEN_) APP_ rfl ?_
  refine s_storeR rfl rfl rfl rfl sz_54 EQ_ EQ_ SET_ ?_
  refine s_val (v_assignC rfl) rfl ?_
  refine s_nil ?_
  refine S_ ?_
  refine c_region ?_
  refine s_val (v_moveC rfl) rfl ?_
  refine s_val (v_unnotB rfl) rfl ?_
  refine s_nil ?_
  refine Q_ ?_
  refine c_condT rfl (by simp [hE]) ?_
  refine S_ ?_
  refine c_region ?_
  refine s_val (v_blf8 (l := (zer8 32)) za_22 Try.underlying22 sz_5 rfl rfl) rfl ?_
  refine s_storeR rfl rfl rfl rfl sz_22 EQ_ EQ_ SET_ ?_
  refine s_val (v_assignC rfl) rfl ?_
  refine s_nil ?_
  refine S_ ?_
  rw [hP_fdRootN0.out]
  exact k_2 (r_row rfl rfl row_22 sz_22 EQ_ (by decide)) (by first | exact r_tmpC rfl | exact r_tmpA rfl) (by first | kernel_rfl | rfl)

@[simp] theorem fdRootN0_len  : (fdRootN0).length = 32 := by
  unfold fdRootN0
  first | (simp (maxDischargeDepth := 9) [*]; done) | (simp (maxDischargeDepth := 9) [*]; omega) | (split <;> (simp (maxDischargeDepth := 9) [*]; done))

attribute [irreducible] fdRootN0
end Go.Proofs.Ytcekjmejppemeaa
/- field's functions, told by the field of 2^255 - 19. No program in sight. -/
namespace Go.Proofs.Ytcekjmejppemeaa
open Go.RowKit
/-- A number's bytes; the number of bytes. -/
def F (u : Fp) : List (BitVec 8) := toB u.val
def Z (b : List (BitVec 8)) : Fp := zf (leS b 32)
@[simp] theorem F_len (u : Fp) : (F u).length = 32 := toB_len _
theorem Z_F (u : Fp) : Z (F u) = u := by
  unfold Z F
  rw [leS_toB _ _ (Nat.le_refl _), Nat.mod_eq_of_lt (Nat.lt_trans u.isLt (by decide)), zf_self]
theorem F_inj {u v : Fp} : F u = F v ↔ u = v := ⟨fun h => by rw [← Z_F u, h, Z_F], fun h => by rw [h]⟩
theorem F_ne {u v : Fp} (h : u ≠ v) : F u ≠ F v := fun e => h (F_inj.1 e)
theorem F_nth0 (u : Fp) : nth (F u) 0 = BitVec.ofNat 8 u.val := by
  unfold F
  rw [toB_nth _ _ (by decide), Nat.pow_zero, Nat.div_one]
theorem F_zero : F 0 = zer8 32 := by decide +kernel
theorem bytesF {a : List (BitVec 64)} (h : Fine a) : lmBytes a = F (LF a) := bytes_spec h
theorem odd_bit (x : BitVec 8) : ((x &&& 1#8) == 1#8) = decide (x.toNat % 2 = 1) := by
  have e : (x &&& 1#8).toNat = x.toNat % 2 := by
    rw [BitVec.toNat_and]
    exact Nat.and_two_pow_sub_one_eq_mod x.toNat 1
  by_cases h : x.toNat % 2 = 1
  · rw [decide_eq_true h, beq_iff_eq]
    apply BitVec.eq_of_toNat_eq
    rw [e, h]; rfl
  · rw [decide_eq_false h, beq_eq_false_iff_ne]
    intro hx
    apply h
    rw [← e, hx]; rfl
theorem exp_bit (e : List (BitVec 8)) (i : Nat) (hi : i < 256) : ((((nth e (i / 8)) >>> (i % 8)) &&& 1#8) == 1#8) = decide (leS e 32 / 2 ^ i % 2 = 1) := by
  rw [odd_bit]
  have h1 := leS_digit e 32 (i / 8) (by omega)
  rw [BitVec.toNat_ushiftRight, Nat.shiftRight_eq_div_pow, ← h1]
  have h2 : (2 : Nat) ^ i = 256 ^ (i / 8) * 2 ^ (i % 8) := by
    rw [show (256 : Nat) = 2 ^ 8 from rfl, ← Nat.pow_mul, ← Nat.pow_add, Nat.div_add_mod]
  rw [h2, ← Nat.div_div_eq_div_mul]
  generalize leS e 32 / 256 ^ (i / 8) = x
  congr 1
  rcases (by omega : i % 8 = 0 ∨ i % 8 = 1 ∨ i % 8 = 2 ∨ i % 8 = 3 ∨ i % 8 = 4 ∨ i % 8 = 5 ∨ i % 8 = 6 ∨ i % 8 = 7) with h | h | h | h | h | h | h | h <;> rw [h] <;> simp only [Nat.reducePow] <;> apply propext <;> omega
theorem sq_powF (x : Fp) : x ^ 2 = x * x := by grobner
theorem pow_oneF (x : Fp) : x ^ 1 = x := by grobner
theorem mul_oneF (x : Fp) : x * 1 = x := by grobner
theorem pow_fine {a : List (BitVec 64)} (ha : Fine a) (e : List (BitVec 8)) : Fine (lmPow a e) ∧ LF (lmPow a e) = LF a ^ leS e 32 := by
  have run : ∀ j, j ≤ 256 → Fine (lmPow_L3 a e j) ∧ LF (lmPow_L3 a e j) = LF a ^ (leS e 32 / 2 ^ (256 - j)) := by
    intro j
    induction j with
    | zero =>
      intro _
      have hz : leS e 32 / 2 ^ (256 - 0) = 0 := Nat.div_eq_of_lt (leS_lt e 32)
      rw [hz, pow_zeroF]
      exact small_fine (x := 1#64) (by decide)
    | succ j ih =>
      intro hj
      obtain ⟨h1, h2⟩ := ih (by omega)
      obtain ⟨s1, s2⟩ := mul_fine h1 h1
      have hb := exp_bit e (255 - j) (by omega)
      have hq : leS e 32 / 2 ^ (256 - (j + 1)) = 2 * (leS e 32 / 2 ^ (256 - j)) + leS e 32 / 2 ^ (255 - j) % 2 := by
        rw [show 256 - (j + 1) = 255 - j by omega, show 256 - j = (255 - j) + 1 by omega, Nat.pow_succ, ← Nat.div_div_eq_div_mul]
        omega
      rw [lmPow_L3, lmPow_L3_S, hb, hq, pow_addF, Nat.mul_comm 2, pow_mulF, ← h2]
      have hsq : LF (lmPow_L3 a e j) ^ 2 = LF (lmMul (lmPow_L3 a e j) (lmPow_L3 a e j)) := by
        rw [s2, sq_powF]
      rw [hsq]
      by_cases hc : leS e 32 / 2 ^ (255 - j) % 2 = 1
      · rw [decide_eq_true hc, if_pos rfl, hc]
        obtain ⟨t1, t2⟩ := mul_fine s1 ha
        exact ⟨t1, by rw [t2, pow_oneF]⟩
      · rw [decide_eq_false hc, if_neg (by decide), show leS e 32 / 2 ^ (255 - j) % 2 = 0 by omega, pow_zeroF]
        exact ⟨s1, by rw [mul_oneF]⟩
  have := run 256 (Nat.le_refl _)
  rw [Nat.sub_self, Nat.pow_zero, Nat.div_one] at this
  unfold lmPow
  exact this
theorem belA : leS (lmBelA 21#8) 32 = eInv := by decide +kernel
theorem belB : leS (lmBelB 2#8) 32 = eRoot := by decide +kernel
theorem belC : leS (lmBelC 5#8) 32 = eI := by decide +kernel
theorem inv_fine {a : List (BitVec 64)} (ha : Fine a) : Fine (lmInv a) ∧ LF (lmInv a) = invF (LF a) := by
  unfold lmInv invF
  have := pow_fine ha (lmBelA 21#8)
  rwa [belA] at this
theorem root_fine {a : List (BitVec 64)} (ha : Fine a) : (Fine (lmRoot0 a) ∧ LF (lmRoot0 a) = rootF (LF a)) ∧ lmRoot1 a = decide (rootF (LF a) * rootF (LF a) = LF a) := by
  obtain ⟨p1, p2⟩ := pow_fine ha (lmBelB 2#8)
  rw [belB] at p2
  obtain ⟨q1, q2⟩ := mul_fine p1 p1
  obtain ⟨t1, t2⟩ := small_fine (x := 2#64) (by decide)
  obtain ⟨i1, i2⟩ := pow_fine t1 (lmBelC 5#8)
  rw [belC, t2, show (2#64 : BitVec 64).toNat = 2 from rfl, iF_pow] at i2
  obtain ⟨r1, r2⟩ := mul_fine p1 i1
  have hc : (!(decide (lmBytes (lmMul (lmPow a (lmBelB 2#8)) (lmPow a (lmBelB 2#8))) = lmBytes a))) = !(decide (LF a ^ eRoot * LF a ^ eRoot = LF a)) := by
    rw [bytesF q1, bytesF ha, q2, p2]
    congr 1
    exact decide_eq_decide.2 F_inj
  have h0 : Fine (lmRoot0 a) ∧ LF (lmRoot0 a) = rootF (LF a) := by
    unfold lmRoot0 rootF
    rw [hc]
    by_cases h : LF a ^ eRoot * LF a ^ eRoot = LF a
    · rw [decide_eq_true h, if_neg (by decide), if_pos h]
      exact ⟨p1, p2⟩
    · rw [decide_eq_false h, if_pos (by decide), if_neg h]
      exact ⟨r1, by rw [r2, p2, i2]⟩
  refine ⟨h0, ?_⟩
  obtain ⟨u1, u2⟩ := mul_fine h0.1 h0.1
  have e1 : lmRoot1 a = decide (lmBytes (lmMul (lmRoot0 a) (lmRoot0 a)) = lmBytes a) := by unfold lmRoot1 lmRoot0; rfl
  rw [e1, bytesF u1, bytesF ha, u2, h0.2]
  exact decide_eq_decide.2 F_inj
/-- The even one of a number and its counterpart. -/
def evenF (u : Fp) : Fp := if u.val % 2 = 1 then 0 - u else u
theorem fine_of (b : List (BitVec 8)) : Fine (lmOf b) ∧ LF (lmOf b) = Z b := of_fine b
def fMod (a : List (BitVec 8)) : List (BitVec 8) := F (Z a)
def fAdd (a b : List (BitVec 8)) : List (BitVec 8) := F (Z a + Z b)
def fSub (a b : List (BitVec 8)) : List (BitVec 8) := F (Z a - Z b)
def fMul (a b : List (BitVec 8)) : List (BitVec 8) := F (Z a * Z b)
def fPow (a e : List (BitVec 8)) : List (BitVec 8) := F (Z a ^ leS e 32)
def fInv (a : List (BitVec 8)) : List (BitVec 8) := F (invF (Z a))
def fRootIs (a : List (BitVec 8)) : Bool := decide (rootF (Z a) * rootF (Z a) = Z a)
def fRoot (a : List (BitVec 8)) : List (BitVec 8) := F (if rootF (Z a) * rootF (Z a) = Z a then evenF (rootF (Z a)) else 0)
@[simp] theorem fMod_len (a : List (BitVec 8)) : (fMod a).length = 32 := F_len _
@[simp] theorem fAdd_len (a b : List (BitVec 8)) : (fAdd a b).length = 32 := F_len _
@[simp] theorem fSub_len (a b : List (BitVec 8)) : (fSub a b).length = 32 := F_len _
@[simp] theorem fMul_len (a b : List (BitVec 8)) : (fMul a b).length = 32 := F_len _
@[simp] theorem fPow_len (a b : List (BitVec 8)) : (fPow a b).length = 32 := F_len _
@[simp] theorem fInv_len (a : List (BitVec 8)) : (fInv a).length = 32 := F_len _
@[simp] theorem fRoot_len (a : List (BitVec 8)) : (fRoot a).length = 32 := F_len _
theorem fMod_same (a : List (BitVec 8)) : fdMod a = fMod a := by
  unfold fdMod fMod
  obtain ⟨h1, h2⟩ := fine_of a
  rw [bytesF h1, h2]
theorem fAdd_same (a b : List (BitVec 8)) : fdAdd a b = fAdd a b := by
  unfold fdAdd fAdd
  obtain ⟨h1, h2⟩ := fine_of a
  obtain ⟨g1, g2⟩ := fine_of b
  obtain ⟨k1, k2⟩ := add_fine h1 g1
  rw [bytesF k1, k2, h2, g2]
theorem fSub_same (a b : List (BitVec 8)) : fdSub a b = fSub a b := by
  unfold fdSub fSub
  obtain ⟨h1, h2⟩ := fine_of a
  obtain ⟨g1, g2⟩ := fine_of b
  obtain ⟨k1, k2⟩ := sub_fine h1 g1
  rw [bytesF k1, k2, h2, g2]
theorem fMul_same (a b : List (BitVec 8)) : fdMul a b = fMul a b := by
  unfold fdMul fMul
  obtain ⟨h1, h2⟩ := fine_of a
  obtain ⟨g1, g2⟩ := fine_of b
  obtain ⟨k1, k2⟩ := mul_fine h1 g1
  rw [bytesF k1, k2, h2, g2]
theorem fInv_same (a : List (BitVec 8)) : fdInv a = fInv a := by
  unfold fdInv fInv
  obtain ⟨h1, h2⟩ := fine_of a
  obtain ⟨k1, k2⟩ := inv_fine h1
  rw [bytesF k1, k2, h2]
theorem fRootIs_same (a : List (BitVec 8)) : lmRoot1 (lmOf a) = fRootIs a := by
  unfold fRootIs
  obtain ⟨h1, h2⟩ := fine_of a
  rw [(root_fine h1).2, h2]
theorem fRoot_same (a : List (BitVec 8)) (h : fRootIs a = true) : fdRoot0 a = fRoot a := by
  unfold fdRoot0 fRoot evenF
  obtain ⟨h1, h2⟩ := fine_of a
  obtain ⟨⟨r1, r2⟩, _⟩ := root_fine h1
  rw [h2] at r2
  unfold fRootIs at h
  rw [if_pos (of_decide_eq_true h), bytesF r1, r2, odd_bit, F_nth0, BitVec.toNat_ofNat]
  have e : (rootF (Z a)).val % 2 ^ 8 % 2 = (rootF (Z a)).val % 2 := by omega
  rw [e]
  by_cases hc : (rootF (Z a)).val % 2 = 1
  · rw [decide_eq_true hc, if_pos rfl, if_pos hc]
    obtain ⟨s1, s2⟩ := small_fine (x := 0#64) (by decide)
    obtain ⟨k1, k2⟩ := sub_fine s1 r1
    rw [bytesF k1, k2, s2, r2]
    rfl
  · rw [decide_eq_false hc, if_neg (by decide), if_neg hc, bytesF r1, r2]
theorem fRoot_none (a : List (BitVec 8)) (h : fRootIs a = false) : fdRootN0 = fRoot a := by
  unfold fdRootN0 fRoot
  unfold fRootIs at h
  rw [if_neg (of_decide_eq_false h), F_zero]
attribute [irreducible] F Z fMod fAdd fSub fMul fPow fInv fRoot fRootIs
end Go.Proofs.Ytcekjmejppemeaa
/- trystref06.Of, trystref06.Bytes, trystref06.P, trystref06.add, trystref06.sub, trystref06.less, trystref06.Mod (Drawn up by a program.) -/
namespace Go.Proofs.Ytcekjmejppemeaa
open Go.RowKit
def rfOf_L3_S (b : List (BitVec 8)) (X1 : List (BitVec 64)) (j3 : Nat) : List (BitVec 64) := put X1 (j3 / 8) ((nth X1 (j3 / 8)) ||| (((nth b j3).setWidth 64) <<< (BitVec.ofNat 64 (8 * (j3 % 8))).toNat))
def rfOf_L3 (b : List (BitVec 8)) : Nat → List (BitVec 64)
  | 0 => zer64 4
  | j3 + 1 => rfOf_L3_S b (rfOf_L3 b j3) j3
@[simp] theorem rfOf_L3_len (b : List (BitVec 8)) (j3 : Nat) : (rfOf_L3 b j3).length = 4 := by
  induction j3 with
  | zero => first | (simp [rfOf_L3, *]; done) | (simp [rfOf_L3, *]; omega)
  | succ j3 ih => rw [rfOf_L3.eq_2, rfOf_L3_S]; first | (simp [ih]; done) | (simp [ih]; omega) | (simp [*]; done) | (simp [*]; omega) | (split <;> first | (simp [ih]; done) | (simp [ih]; omega) | (simp [*]; done))
def rfOf (b : List (BitVec 8)) : List (BitVec 64) := (rfOf_L3 b 32)
set_option maxRecDepth 100000 in
set_option maxHeartbeats 2000000 in
theorem rfOf_ev (b : List (BitVec 8)) (hb : b.length = 32) : Ev Try.prog (.call 50 [.agg (.a8 (b))] []) (.val (.agg (.a64 (rfOf b))) []) := by
  have hP : Hid (rfOf b = (rfOf_L3 b 32)) := ⟨rfl⟩
  refine c_call Try.func50 rfl Try.ntmps50 rfl LEN_ ?_
  refine S_ ?_
  refine c_region ?_
  refine s_memN (m_box BX_ LEN_) APP_ rfl ?_
  refine s_memN (m_alloc al_38 LEN_) APP_ rfl ?_
  refine s_nil ?_
  refine S_ ?_
  refine c_region ?_
  refine s_memN (m_alloc al_38 LEN_) APP_ rfl ?_
  refine s_nil ?_
  refine S_ ?_
  refine c_region ?_
  refine s_val (v_assignC rfl) rfl ?_
  refine s_nil ?_
  refine S_ ?_
  refine c_loopC [1, 2, 3, 4] (fun (zz : Nat × List (BitVec 64)) => ⟨25, keepT [1, 2, 3, 4] [.c (.ptr 0 0), .c (.ptr 1 0), .c (.ptr 2 0), .c (.val (.int .i64 (((zz.1 : Nat) : Int))))], [.row true (.a8 (b)), .row true (.a64 (zer64 4)), .row true (.a64 (zz.2))]⟩) (fun j3 => (j3, rfOf_L3 b j3)) (32) (by kernel_rfl) ?_ ?_
  · intro j3 hj3
    try dsimp only
    have hX1 : (rfOf_L3 b j3).length = 4 := by rw [rfOf_L3_len b _]; try omega
    rw [rfOf_L3.eq_2, rfOf_L3_S]
    generalize rfOf_L3 b j3 = X1 at *
    refine S_ ?_
    refine c_region ?_
    refine s_val (v_moveC rfl) rfl ?_
    refine s_val (v_lssN (b := 32) rfl rfl) rfl ?_
    refine s_nil ?_
    refine S_ ?_
    refine c_draw 15 mixed (by kernel_rfl) rfl rfl rfl ?_
    refine h_val (v_moveC rfl) rfl ?_
    refine h_val (v_quoN (b := 8) rfl rfl (by omega) (by omega)) rfl ?_
    refine h_val (v_idxA1 rfl rfl Try.underlying38 sz_29 (by omega)) rfl ?_
    refine h_val (v_load64 rfl rfl row_29 LT_) rfl ?_
    refine h_val (v_moveC rfl) rfl ?_
    refine h_val (v_idxA1 rfl rfl Try.underlying22 sz_5 (by omega)) rfl ?_
    refine h_val (v_load8 rfl rfl row_5 LT_) rfl ?_
    refine h_val (v_conv rfl Try.underlying5 Try.underlying29 (w8_64 _)) rfl ?_
    refine h_val (v_moveC rfl) rfl ?_
    refine h_val (v_remN (b := 8) rfl rfl (by omega) (by omega)) rfl ?_
    refine h_val (v_mulN (a := 8) rfl rfl (by omega)) rfl ?_
    refine h_val (v_conv rfl Try.underlying3 Try.underlying51 (wi_64 _)) rfl ?_
    refine h_val (v_shl64w rfl rfl) rfl ?_
    refine h_val (v_or64 rfl rfl) rfl ?_
    refine h_val (v_idxA1 rfl rfl Try.underlying38 sz_29 (by omega)) rfl ?_
    refine h_nil ?_
    refine s_store64 rfl rfl rfl sz_29 LT_ SET_ ?_
    refine s_nil ?_
    refine S_ ?_
    refine c_region ?_
    refine s_val (v_moveC rfl) rfl ?_
    refine s_val (v_addN (b := 1) rfl rfl (by omega)) rfl ?_
    refine s_val (v_assignC rfl) rfl ?_
    refine s_nil ?_
    exact ⟨(j3 + 1, _), by kernel_rfl, rfl⟩
  · try dsimp only
    have hY2 : (rfOf_L3 b 32).length = 4 := by rw [rfOf_L3_len b _]; try omega
    generalize rfOf_L3 b 32 = Y2 at *
    refine S_ ?_
    refine c_region ?_
    refine s_val (v_moveC rfl) rfl ?_
    refine s_val (v_lssN (a := 32) (b := 32) rfl rfl) rfl ?_
    refine s_nil ?_
    refine S_ ?_
    refine c_region ?_
    refine s_val (v_loadR rfl rfl row_38 sz_38 EQ_ (by decide)) rfl ?_
    refine s_storeR rfl rfl rfl rfl sz_38 EQ_ EQ_ SET_ ?_
    refine s_nil ?_
    refine S_ ?_
    rw [hP.out]
    exact k_1 (r_row rfl rfl row_38 sz_38 EQ_ (by decide)) (by first | kernel_rfl | rfl)

@[simp] theorem rfOf_len (b : List (BitVec 8)) (_hb : b.length = 32) : (rfOf b).length = 4 := by
  unfold rfOf
  first | (simp [rfOf_L3_len, *]; done) | (simp [rfOf_L3_len, *]; omega)

attribute [irreducible] rfOf

def rfBytes_L3_S (n : List (BitVec 64)) (X1 : List (BitVec 8)) (j3 : Nat) : List (BitVec 8) := put X1 j3 (((nth n (j3 / 8)) >>> (BitVec.ofNat 64 (8 * (j3 % 8))).toNat).setWidth 8)
def rfBytes_L3 (n : List (BitVec 64)) : Nat → List (BitVec 8)
  | 0 => zer8 32
  | j3 + 1 => rfBytes_L3_S n (rfBytes_L3 n j3) j3
@[simp] theorem rfBytes_L3_len (n : List (BitVec 64)) (j3 : Nat) : (rfBytes_L3 n j3).length = 32 := by
  induction j3 with
  | zero => first | (simp [rfBytes_L3, *]; done) | (simp [rfBytes_L3, *]; omega)
  | succ j3 ih => rw [rfBytes_L3.eq_2, rfBytes_L3_S]; first | (simp [ih]; done) | (simp [ih]; omega) | (simp [*]; done) | (simp [*]; omega) | (split <;> first | (simp [ih]; done) | (simp [ih]; omega) | (simp [*]; done))
def rfBytes (n : List (BitVec 64)) : List (BitVec 8) := (rfBytes_L3 n 32)
set_option maxRecDepth 100000 in
set_option maxHeartbeats 2000000 in
theorem rfBytes_ev (n : List (BitVec 64)) (hn : n.length = 4) : Ev Try.prog (.call 25 [.agg (.a64 (n))] []) (.val (.agg (.a8 (rfBytes n))) []) := by
  have hP : Hid (rfBytes n = (rfBytes_L3 n 32)) := ⟨rfl⟩
  refine c_call Try.func25 rfl Try.ntmps25 rfl LEN_ ?_
  refine S_ ?_
  refine c_region ?_
  refine s_memN (m_box BX_ LEN_) APP_ rfl ?_
  refine s_memN (m_alloc al_22 LEN_) APP_ rfl ?_
  refine s_nil ?_
  refine S_ ?_
  refine c_region ?_
  refine s_memN (m_alloc al_22 LEN_) APP_ rfl ?_
  refine s_nil ?_
  refine S_ ?_
  refine c_region ?_
  refine s_val (v_assignC rfl) rfl ?_
  refine s_nil ?_
  refine S_ ?_
  refine c_loopC [1, 2, 3, 4] (fun (zz : Nat × List (BitVec 8)) => ⟨22, keepT [1, 2, 3, 4] [.c (.ptr 0 0), .c (.ptr 1 0), .c (.ptr 2 0), .c (.val (.int .i64 (((zz.1 : Nat) : Int))))], [.row true (.a64 (n)), .row true (.a8 (zer8 32)), .row true (.a8 (zz.2))]⟩) (fun j3 => (j3, rfBytes_L3 n j3)) (32) (by kernel_rfl) ?_ ?_
  · intro j3 hj3
    try dsimp only
    have hX1 : (rfBytes_L3 n j3).length = 32 := by rw [rfBytes_L3_len n _]; try omega
    rw [rfBytes_L3.eq_2, rfBytes_L3_S]
    generalize rfBytes_L3 n j3 = X1 at *
    refine S_ ?_
    refine c_region ?_
    refine s_val (v_moveC rfl) rfl ?_
    refine s_val (v_lssN (b := 32) rfl rfl) rfl ?_
    refine s_nil ?_
    refine S_ ?_
    refine c_region ?_
    refine s_val (v_moveC rfl) rfl ?_
    refine s_val (v_moveC rfl) rfl ?_
    refine s_val (v_quoN (b := 8) rfl rfl (by omega) (by omega)) rfl ?_
    refine s_val (v_idxA1 rfl rfl Try.underlying38 sz_29 (by omega)) rfl ?_
    refine s_val (v_load64 rfl rfl row_29 LT_) rfl ?_
    refine s_val (v_moveC rfl) rfl ?_
    refine s_val (v_remN (b := 8) rfl rfl (by omega) (by omega)) rfl ?_
    refine s_val (v_mulN (a := 8) rfl rfl (by omega)) rfl ?_
    refine s_val (v_conv rfl Try.underlying3 Try.underlying51 (wi_64 _)) rfl ?_
    refine s_val (v_shr64w rfl rfl) rfl ?_
    refine s_val (v_conv rfl Try.underlying29 Try.underlying5 (w64_8 _)) rfl ?_
    refine s_val (v_idxA1 rfl rfl Try.underlying22 sz_5 (by omega)) rfl ?_
    refine s_store8 rfl rfl rfl sz_5 LT_ SET_ ?_
    refine s_nil ?_
    refine S_ ?_
    refine c_region ?_
    refine s_val (v_moveC rfl) rfl ?_
    refine s_val (v_addN (b := 1) rfl rfl (by omega)) rfl ?_
    refine s_val (v_assignC rfl) rfl ?_
    refine s_nil ?_
    exact ⟨(j3 + 1, _), by kernel_rfl, rfl⟩
  · try dsimp only
    have hY2 : (rfBytes_L3 n 32).length = 32 := by rw [rfBytes_L3_len n _]; try omega
    generalize rfBytes_L3 n 32 = Y2 at *
    refine S_ ?_
    refine c_region ?_
    refine s_val (v_moveC rfl) rfl ?_
    refine s_val (v_lssN (a := 32) (b := 32) rfl rfl) rfl ?_
    refine s_nil ?_
    refine S_ ?_
    refine c_region ?_
    refine s_val (v_loadR rfl rfl row_22 sz_22 EQ_ (by decide)) rfl ?_
    refine s_storeR rfl rfl rfl rfl sz_22 EQ_ EQ_ SET_ ?_
    refine s_nil ?_
    refine S_ ?_
    rw [hP.out]
    exact k_1 (r_row rfl rfl row_22 sz_22 EQ_ (by decide)) (by first | kernel_rfl | rfl)

@[simp] theorem rfBytes_len (n : List (BitVec 64)) (_hn : n.length = 4) : (rfBytes n).length = 32 := by
  unfold rfBytes
  first | (simp [rfBytes_L3_len, *]; done) | (simp [rfBytes_L3_len, *]; omega)

attribute [irreducible] rfBytes

def rfP  : List (BitVec 64) := [18446744073709551597#64, 18446744073709551615#64, 18446744073709551615#64, 9223372036854775807#64]
set_option maxRecDepth 100000 in
set_option maxHeartbeats 2000000 in
theorem rfP_ev   : Ev Try.prog (.call 52 [] []) (.val (.agg (.a64 (rfP))) []) := by
  have hP : Hid (rfP = [18446744073709551597#64, 18446744073709551615#64, 18446744073709551615#64, 9223372036854775807#64]) := ⟨rfl⟩
  refine c_call Try.func52 rfl Try.ntmps52 rfl LEN_ ?_
  refine S_ ?_
  refine c_region ?_
  refine s_memN (m_alloc al_38 LEN_) APP_ rfl ?_
  refine s_nil ?_
  refine S_ ?_
  refine c_region ?_
  refine s_val (v_bld64 (l := [18446744073709551597#64, 18446744073709551615#64, 18446744073709551615#64, 9223372036854775807#64]) zc_38 Try.underlying38 sz_29 rfl rfl (by decide)) rfl ?_
  refine s_storeR rfl rfl rfl rfl sz_38 EQ_ EQ_ SET_ ?_
  refine s_nil ?_
  refine S_ ?_
  rw [hP.out]
  exact k_1 (r_row rfl rfl row_38 sz_38 EQ_ (by decide)) (by first | kernel_rfl | rfl)

@[simp] theorem rfP_len  : (rfP).length = 4 := by
  unfold rfP
  first | (simp [*]; done) | (simp [*]; omega)

attribute [irreducible] rfP

def rfadd_L4_S (a : List (BitVec 64)) (b : List (BitVec 64)) (X1 : BitVec 64) (X2 : List (BitVec 64)) (j4 : Nat) : BitVec 64 × List (BitVec 64) := (addC (nth a j4) (nth b j4) X1, put X2 j4 ((nth a j4) + (nth b j4) + X1))
def rfadd_L4 (a : List (BitVec 64)) (b : List (BitVec 64)) : Nat → BitVec 64 × List (BitVec 64)
  | 0 => (0#64, zer64 4)
  | j4 + 1 => rfadd_L4_S a b (rfadd_L4 a b j4).1 (rfadd_L4 a b j4).2 j4
theorem rfadd_L4_len1 (a : List (BitVec 64)) (b : List (BitVec 64)) (_ha : a.length = 4) (_hb : b.length = 4) (j4 : Nat) : (rfadd_L4 a b j4).2.length = 4 := by
  induction j4 with
  | zero => first | (simp [rfadd_L4, *]; done) | (simp [rfadd_L4, *]; omega)
  | succ j4 ih => rw [rfadd_L4.eq_2, rfadd_L4_S]; first | (simp [ih]; done) | (simp [ih]; omega) | (simp [*]; done) | (simp [*]; omega) | (split <;> first | (simp [ih]; done) | (simp [ih]; omega) | (simp [*]; done))
def rfadd0 (a : List (BitVec 64)) (b : List (BitVec 64)) : List (BitVec 64) := ((rfadd_L4 a b 4).2)
def rfadd1 (a : List (BitVec 64)) (b : List (BitVec 64)) : BitVec 64 := ((rfadd_L4 a b 4).1)
theorem rfadd_c (a b : List (BitVec 64)) (j : Nat) : (rfadd_L4 a b j).1.toNat ≤ 1 := by
  induction j with
  | zero => show (0#64).toNat ≤ 1; decide
  | succ j ih => rw [rfadd_L4.eq_2, rfadd_L4_S]; exact addC_le _ _ _ ih
set_option maxRecDepth 100000 in
set_option maxHeartbeats 2000000 in
theorem rfadd_ev (a : List (BitVec 64)) (b : List (BitVec 64)) (ha : a.length = 4) (hb : b.length = 4) : Ev Try.prog (.call 81 [.agg (.a64 (a)), .agg (.a64 (b))] []) (.val (.tup [.agg (.a64 (rfadd0 a b)), .c (.val (U64 (rfadd1 a b)))]) []) := by
  have hP_rfadd0 : Hid (rfadd0 a b = ((rfadd_L4 a b 4).2)) := ⟨rfl⟩
  have hP_rfadd1 : Hid (rfadd1 a b = ((rfadd_L4 a b 4).1)) := ⟨rfl⟩
  refine c_call Try.func81 rfl Try.ntmps81 rfl LEN_ ?_
  refine S_ ?_
  refine c_region ?_
  refine s_memN (m_box BX_ LEN_) APP_ rfl ?_
  refine s_memN (m_box BX_ LEN_) APP_ rfl ?_
  refine s_memN (m_alloc al_38 LEN_) APP_ rfl ?_
  refine s_val (v_assignC rfl) rfl ?_
  refine s_nil ?_
  refine S_ ?_
  refine c_region ?_
  refine s_val (v_assignC rfl) rfl ?_
  refine s_nil ?_
  refine S_ ?_
  refine c_region ?_
  refine s_memN (m_alloc al_38 LEN_) APP_ rfl ?_
  refine s_nil ?_
  refine S_ ?_
  refine c_region ?_
  refine s_val (v_assignC rfl) rfl ?_
  refine s_nil ?_
  refine S_ ?_
  refine c_loopC [2, 3, 4, 6, 7, 8] (fun (zz : Nat × BitVec 64 × List (BitVec 64)) => ⟨28, keepT [2, 3, 4, 6, 7, 8] [.c (.ptr 0 0), .c (.ptr 1 0), .c (.ptr 2 0), .c (.val (U64 (zz.2.1))), .c (.ptr 3 0), .c (.val (.int .i64 (((zz.1 : Nat) : Int))))], [.row true (.a64 (a)), .row true (.a64 (b)), .row true (.a64 (zer64 4)), .row true (.a64 (zz.2.2))]⟩) (fun j4 => (j4, rfadd_L4 a b j4)) (4) (by kernel_rfl) ?_ ?_
  · intro j4 hj4
    try dsimp only
    have hX2 : (rfadd_L4 a b j4).2.length = 4 := by rw [rfadd_L4_len1 a b ha hb _]; try omega
    have hc := rfadd_c a b j4
    rw [rfadd_L4.eq_2, rfadd_L4_S]
    generalize rfadd_L4 a b j4 = Z3 at *
    obtain ⟨X1, X2⟩ := Z3
    try dsimp only at *
    refine S_ ?_
    refine c_region ?_
    refine s_val (v_moveC rfl) rfl ?_
    refine s_val (v_lssN (b := 4) rfl rfl) rfl ?_
    refine s_nil ?_
    refine S_ ?_
    refine c_stores2 [3] mixed (by kernel_rfl) ?_
    refine x_val (v_moveC rfl) rfl ?_
    refine x_val (v_moveC rfl) rfl ?_
    refine x_val (v_idxA1 rfl rfl Try.underlying38 sz_29 (by omega)) rfl ?_
    first | refine x_val (v_load64 rfl rfl row_29 LT_) rfl ?_ | refine x_early (by kernel_rfl) (v_load64 rfl rfl row_29 LT_) rfl ?_
    refine x_val (v_moveC rfl) rfl ?_
    refine x_val (v_idxA1 rfl rfl Try.underlying38 sz_29 (by omega)) rfl ?_
    first | refine x_val (v_load64 rfl rfl row_29 LT_) rfl ?_ | refine x_early (by kernel_rfl) (v_load64 rfl rfl row_29 LT_) rfl ?_
    refine x_val (v_moveC rfl) rfl ?_
    refine x_call (by kernel_rfl) (e_add ext_71 rfl rfl rfl (rfl : _ = U64 (X1)) (by repeat (first | decide | assumption | apply addC_le | apply subC_le))) rfl ?_
    refine x_val (v_moveT rfl) rfl ?_
    refine x_val (v_extract rfl rfl) rfl ?_
    refine x_val (v_extract rfl rfl) rfl ?_
    refine x_val (v_idxA1 rfl rfl Try.underlying38 sz_29 (by omega)) rfl ?_
    refine x_store64 rfl rfl rfl rfl sz_29 LT_ SET_ ?_
    refine x_val (v_assignC rfl) rfl ?_
    refine x_nil ?_
    refine S_ ?_
    refine c_region ?_
    refine s_val (v_moveC rfl) rfl ?_
    refine s_val (v_addN (b := 1) rfl rfl (by omega)) rfl ?_
    refine s_val (v_assignC rfl) rfl ?_
    refine s_nil ?_
    exact ⟨(j4 + 1, _), by kernel_rfl, rfl⟩
  · try dsimp only
    have hY5 : (rfadd_L4 a b 4).2.length = 4 := by rw [rfadd_L4_len1 a b ha hb _]; try omega
    have hc := rfadd_c a b 4
    generalize rfadd_L4 a b 4 = Z6 at *
    obtain ⟨Y4, Y5⟩ := Z6
    try dsimp only at *
    refine S_ ?_
    refine c_region ?_
    refine s_val (v_moveC rfl) rfl ?_
    refine s_val (v_lssN (a := 4) (b := 4) rfl rfl) rfl ?_
    refine s_nil ?_
    refine S_ ?_
    refine c_region ?_
    refine s_val (v_loadR rfl rfl row_38 sz_38 EQ_ (by decide)) rfl ?_
    refine s_val (v_moveC rfl) rfl ?_
    refine s_storeR rfl rfl rfl rfl sz_38 EQ_ EQ_ SET_ ?_
    refine s_val (v_assignC rfl) rfl ?_
    refine s_nil ?_
    refine S_ ?_
    rw [hP_rfadd0.out, hP_rfadd1.out]
    exact k_2 (r_row rfl rfl row_38 sz_38 EQ_ (by decide)) (by first | exact r_tmpC rfl | exact r_tmpA rfl) (by first | kernel_rfl | rfl)

@[simp] theorem rfadd0_len (a : List (BitVec 64)) (b : List (BitVec 64)) (ha : a.length = 4) (hb : b.length = 4) : (rfadd0 a b).length = 4 := by
  unfold rfadd0
  first | (simp [rfadd_L4_len1, *]; done) | (simp [rfadd_L4_len1, *]; omega)

attribute [irreducible] rfadd0

attribute [irreducible] rfadd1

def rfsub_L4_S (a : List (BitVec 64)) (b : List (BitVec 64)) (X1 : BitVec 64) (X2 : List (BitVec 64)) (j4 : Nat) : BitVec 64 × List (BitVec 64) := (subC (nth a j4) (nth b j4) X1, put X2 j4 ((nth a j4) - (nth b j4) - X1))
def rfsub_L4 (a : List (BitVec 64)) (b : List (BitVec 64)) : Nat → BitVec 64 × List (BitVec 64)
  | 0 => (0#64, zer64 4)
  | j4 + 1 => rfsub_L4_S a b (rfsub_L4 a b j4).1 (rfsub_L4 a b j4).2 j4
theorem rfsub_L4_len1 (a : List (BitVec 64)) (b : List (BitVec 64)) (_ha : a.length = 4) (_hb : b.length = 4) (j4 : Nat) : (rfsub_L4 a b j4).2.length = 4 := by
  induction j4 with
  | zero => first | (simp [rfsub_L4, *]; done) | (simp [rfsub_L4, *]; omega)
  | succ j4 ih => rw [rfsub_L4.eq_2, rfsub_L4_S]; first | (simp [ih]; done) | (simp [ih]; omega) | (simp [*]; done) | (simp [*]; omega) | (split <;> first | (simp [ih]; done) | (simp [ih]; omega) | (simp [*]; done))
def rfsub0 (a : List (BitVec 64)) (b : List (BitVec 64)) : List (BitVec 64) := ((rfsub_L4 a b 4).2)
def rfsub1 (a : List (BitVec 64)) (b : List (BitVec 64)) : BitVec 64 := ((rfsub_L4 a b 4).1)
theorem rfsub_c (a b : List (BitVec 64)) (j : Nat) : (rfsub_L4 a b j).1.toNat ≤ 1 := by
  cases j with
  | zero => show (0#64).toNat ≤ 1; decide
  | succ j => rw [rfsub_L4.eq_2, rfsub_L4_S]; exact subC_le _ _ _
set_option maxRecDepth 100000 in
set_option maxHeartbeats 2000000 in
theorem rfsub_ev (a : List (BitVec 64)) (b : List (BitVec 64)) (ha : a.length = 4) (hb : b.length = 4) : Ev Try.prog (.call 80 [.agg (.a64 (a)), .agg (.a64 (b))] []) (.val (.tup [.agg (.a64 (rfsub0 a b)), .c (.val (U64 (rfsub1 a b)))]) []) := by
  have hP_rfsub0 : Hid (rfsub0 a b = ((rfsub_L4 a b 4).2)) := ⟨rfl⟩
  have hP_rfsub1 : Hid (rfsub1 a b = ((rfsub_L4 a b 4).1)) := ⟨rfl⟩
  refine c_call Try.func80 rfl Try.ntmps80 rfl LEN_ ?_
  refine S_ ?_
  refine c_region ?_
  refine s_memN (m_box BX_ LEN_) APP_ rfl ?_
  refine s_memN (m_box BX_ LEN_) APP_ rfl ?_
  refine s_memN (m_alloc al_38 LEN_) APP_ rfl ?_
  refine s_val (v_assignC rfl) rfl ?_
  refine s_nil ?_
  refine S_ ?_
  refine c_region ?_
  refine s_val (v_assignC rfl) rfl ?_
  refine s_nil ?_
  refine S_ ?_
  refine c_region ?_
  refine s_memN (m_alloc al_38 LEN_) APP_ rfl ?_
  refine s_nil ?_
  refine S_ ?_
  refine c_region ?_
  refine s_val (v_assignC rfl) rfl ?_
  refine s_nil ?_
  refine S_ ?_
  refine c_loopC [2, 3, 4, 6, 7, 8] (fun (zz : Nat × BitVec 64 × List (BitVec 64)) => ⟨28, keepT [2, 3, 4, 6, 7, 8] [.c (.ptr 0 0), .c (.ptr 1 0), .c (.ptr 2 0), .c (.val (U64 (zz.2.1))), .c (.ptr 3 0), .c (.val (.int .i64 (((zz.1 : Nat) : Int))))], [.row true (.a64 (a)), .row true (.a64 (b)), .row true (.a64 (zer64 4)), .row true (.a64 (zz.2.2))]⟩) (fun j4 => (j4, rfsub_L4 a b j4)) (4) (by kernel_rfl) ?_ ?_
  · intro j4 hj4
    try dsimp only
    have hX2 : (rfsub_L4 a b j4).2.length = 4 := by rw [rfsub_L4_len1 a b ha hb _]; try omega
    have hc := rfsub_c a b j4
    rw [rfsub_L4.eq_2, rfsub_L4_S]
    generalize rfsub_L4 a b j4 = Z3 at *
    obtain ⟨X1, X2⟩ := Z3
    try dsimp only at *
    refine S_ ?_
    refine c_region ?_
    refine s_val (v_moveC rfl) rfl ?_
    refine s_val (v_lssN (b := 4) rfl rfl) rfl ?_
    refine s_nil ?_
    refine S_ ?_
    refine c_stores2 [3] mixed (by kernel_rfl) ?_
    refine x_val (v_moveC rfl) rfl ?_
    refine x_val (v_moveC rfl) rfl ?_
    refine x_val (v_idxA1 rfl rfl Try.underlying38 sz_29 (by omega)) rfl ?_
    first | refine x_val (v_load64 rfl rfl row_29 LT_) rfl ?_ | refine x_early (by kernel_rfl) (v_load64 rfl rfl row_29 LT_) rfl ?_
    refine x_val (v_moveC rfl) rfl ?_
    refine x_val (v_idxA1 rfl rfl Try.underlying38 sz_29 (by omega)) rfl ?_
    first | refine x_val (v_load64 rfl rfl row_29 LT_) rfl ?_ | refine x_early (by kernel_rfl) (v_load64 rfl rfl row_29 LT_) rfl ?_
    refine x_val (v_moveC rfl) rfl ?_
    refine x_call (by kernel_rfl) (e_sub ext_87 rfl rfl rfl (rfl : _ = U64 (X1)) (by repeat (first | decide | assumption | apply addC_le | apply subC_le))) rfl ?_
    refine x_val (v_moveT rfl) rfl ?_
    refine x_val (v_extract rfl rfl) rfl ?_
    refine x_val (v_extract rfl rfl) rfl ?_
    refine x_val (v_idxA1 rfl rfl Try.underlying38 sz_29 (by omega)) rfl ?_
    refine x_store64 rfl rfl rfl rfl sz_29 LT_ SET_ ?_
    refine x_val (v_assignC rfl) rfl ?_
    refine x_nil ?_
    refine S_ ?_
    refine c_region ?_
    refine s_val (v_moveC rfl) rfl ?_
    refine s_val (v_addN (b := 1) rfl rfl (by omega)) rfl ?_
    refine s_val (v_assignC rfl) rfl ?_
    refine s_nil ?_
    exact ⟨(j4 + 1, _), by kernel_rfl, rfl⟩
  · try dsimp only
    have hY5 : (rfsub_L4 a b 4).2.length = 4 := by rw [rfsub_L4_len1 a b ha hb _]; try omega
    have hc := rfsub_c a b 4
    generalize rfsub_L4 a b 4 = Z6 at *
    obtain ⟨Y4, Y5⟩ := Z6
    try dsimp only at *
    refine S_ ?_
    refine c_region ?_
    refine s_val (v_moveC rfl) rfl ?_
    refine s_val (v_lssN (a := 4) (b := 4) rfl rfl) rfl ?_
    refine s_nil ?_
    refine S_ ?_
    refine c_region ?_
    refine s_val (v_loadR rfl rfl row_38 sz_38 EQ_ (by decide)) rfl ?_
    refine s_val (v_moveC rfl) rfl ?_
    refine s_storeR rfl rfl rfl rfl sz_38 EQ_ EQ_ SET_ ?_
    refine s_val (v_assignC rfl) rfl ?_
    refine s_nil ?_
    refine S_ ?_
    rw [hP_rfsub0.out, hP_rfsub1.out]
    exact k_2 (r_row rfl rfl row_38 sz_38 EQ_ (by decide)) (by first | exact r_tmpC rfl | exact r_tmpA rfl) (by first | kernel_rfl | rfl)

@[simp] theorem rfsub0_len (a : List (BitVec 64)) (b : List (BitVec 64)) (ha : a.length = 4) (hb : b.length = 4) : (rfsub0 a b).length = 4 := by
  unfold rfsub0
  first | (simp [rfsub_L4_len1, *]; done) | (simp [rfsub_L4_len1, *]; omega)

attribute [irreducible] rfsub0

attribute [irreducible] rfsub1


set_option maxRecDepth 100000 in
set_option maxHeartbeats 2000000 in
theorem rfless_ev (a : List (BitVec 64)) (b : List (BitVec 64)) (ha : a.length = 4) (hb : b.length = 4) : Ev Try.prog (.call 51 [.agg (.a64 (a)), .agg (.a64 (b))] []) (.val (.c (.val (.bool (((rfsub1 a b) == 1#64))))) []) := by
  refine c_call Try.func51 rfl Try.ntmps51 rfl LEN_ ?_
  refine S_ ?_
  refine c_region ?_
  refine s_memN (m_box BX_ LEN_) APP_ rfl ?_
  refine s_memN (m_box BX_ LEN_) APP_ rfl ?_
  refine s_val (v_assignC rfl) rfl ?_
  refine s_nil ?_
  have hQ1 : (rfsub0 a b).length = 4 := LQ_
  refine S_ ?_
  refine c_region ?_
  refine s_val (v_loadR rfl rfl row_38 sz_38 EQ_ (by decide)) rfl ?_
  refine s_val (v_loadR rfl rfl row_38 sz_38 EQ_ (by decide)) rfl ?_
  refine s_evN (e_callR (bs := []) (rfsub_ev a b HYP_ HYP_) ok_80 (by kernel_rfl) (by kernel_rfl) rfl VAL_) APP_ rfl ?_
  refine s_val (v_moveT rfl) rfl ?_
  refine s_val (v_extract rfl rfl) rfl ?_
  refine s_val (v_extract rfl rfl) rfl ?_
  refine s_memN (m_alloc al_38 LEN_) APP_ rfl ?_
  refine s_storeR rfl rfl rfl rfl sz_38 EQ_ EQ_ SET_ ?_
  refine s_val (v_assignC rfl) rfl ?_
  refine s_nil ?_
  refine S_ ?_
  refine c_region ?_
  refine s_val (v_moveC rfl) rfl ?_
  refine s_val (v_eql64 (b := 1#64) rfl rfl) rfl ?_
  refine s_val (v_assignC rfl) rfl ?_
  refine s_nil ?_
  refine S_ ?_
  exact k_1 (by first | exact r_tmpC rfl | exact r_tmpA rfl) (by first | kernel_rfl | rfl)

def rfMod_L2_S (X1 : List (BitVec 64)) : List (BitVec 64) := (if (!((rfsub1 X1 rfP) == 1#64)) = true then rfsub0 X1 rfP else X1)
def rfMod_L2 (a : List (BitVec 64)) : Nat → List (BitVec 64)
  | 0 => a
  | j2 + 1 => rfMod_L2_S (rfMod_L2 a j2)
theorem rfMod_L2_len (a : List (BitVec 64)) (ha : a.length = 4) (j2 : Nat) : (rfMod_L2 a j2).length = 4 := by
  induction j2 with
  | zero => first | (simp [rfMod_L2, *]; done) | (simp [rfMod_L2, *]; omega)
  | succ j2 ih => rw [rfMod_L2.eq_2, rfMod_L2_S]; first | (simp; done) | (simp; omega) | (simp [*]; done) | (simp [*]; omega) | (split <;> first | (simp [ih]; done) | (simp [ih]; omega) | (simp [*]; done))
def rfMod (a : List (BitVec 64)) : List (BitVec 64) := (rfMod_L2 a 3)
set_option maxRecDepth 100000 in
set_option maxHeartbeats 2000000 in
theorem rfMod_ev (a : List (BitVec 64)) (ha : a.length = 4) : Ev Try.prog (.call 82 [.agg (.a64 (a))] []) (.val (.agg (.a64 (rfMod a))) []) := by
  have hP : Hid (rfMod a = (rfMod_L2 a 3)) := ⟨rfl⟩
  refine c_call Try.func82 rfl Try.ntmps82 rfl LEN_ ?_
  refine S_ ?_
  refine c_region ?_
  refine s_memN (m_box BX_ LEN_) APP_ rfl ?_
  refine s_memN (m_alloc al_38 LEN_) APP_ rfl ?_
  refine s_nil ?_
  refine S_ ?_
  refine c_region ?_
  refine s_val (v_assignC rfl) rfl ?_
  refine s_nil ?_
  refine S_ ?_
  refine c_loopC [1, 2, 3] (fun (zz : Nat × List (BitVec 64)) => ⟨19, keepT [1, 2, 3] [.c (.ptr 0 0), .c (.ptr 1 0), .c (.val (.int .i64 (((zz.1 : Nat) : Int))))], [.row true (.a64 (zz.2)), .row true (.a64 (zer64 4))]⟩) (fun j2 => (j2, rfMod_L2 a j2)) (3) (by kernel_rfl) ?_ ?_
  · intro j2 hj2
    try dsimp only
    have hX1 : (rfMod_L2 a j2).length = 4 := by rw [rfMod_L2_len a ha _]; try omega
    rw [rfMod_L2.eq_2, rfMod_L2_S]
    generalize rfMod_L2 a j2 = X1 at *
    refine S_ ?_
    refine c_region ?_
    refine s_val (v_moveC rfl) rfl ?_
    refine s_val (v_lssN (b := 3) rfl rfl) rfl ?_
    refine s_nil ?_
    have hQ2 : (rfP).length = 4 := LQ_
    refine S_ ?_
    refine c_draw 4 mixed (by kernel_rfl) rfl rfl rfl ?_
    refine h_val (v_loadR rfl rfl row_38 sz_38 EQ_ (by decide)) rfl ?_
    refine h_evN (e_callR (bs := []) (rfP_ev) ok_52 (by kernel_rfl) (by kernel_rfl) rfl VAL_) APP_ rfl ?_
    refine h_evN (e_callR (bs := []) (rfless_ev X1 rfP HYP_ HYP_) ok_51 (by kernel_rfl) (by kernel_rfl) rfl VAL_) APP_ rfl ?_
    refine h_val (v_unnotB rfl) rfl ?_
    refine h_nil ?_
    refine s_nil ?_
    refine Q_ ?_
    refine c_join [1, 2, 3] (fun (zz : List (BitVec 64)) => ⟨19, keepT [1, 2, 3] [.c (.ptr 0 0), .c (.ptr 1 0), .c (.val (.int .i64 (((j2 : Nat) : Int))))], [.row true (.a64 (zz)), .row true (.a64 (zer64 4))]⟩) (if (!((rfsub1 X1 rfP) == 1#64)) = true then rfsub0 X1 rfP else X1) rfl (fun hb => ?_) (fun hb => ?_) ?_
    · -- the test is True
      have hQ4 : (rfP).length = 4 := LQ_
      have hQ5 : (rfsub0 X1 rfP).length = 4 := LQ_
      refine S_ ?_
      refine c_stores2 [0] mixed (by kernel_rfl) ?_
      first | refine x_val (v_loadR rfl rfl row_38 sz_38 EQ_ (by decide)) rfl ?_ | refine x_early (by kernel_rfl) (v_loadR rfl rfl row_38 sz_38 EQ_ (by decide)) rfl ?_
      refine x_call (by kernel_rfl) (e_callR (bs := []) (rfP_ev) ok_52 (by kernel_rfl) (by kernel_rfl) rfl VAL_) rfl ?_
      refine x_call (by kernel_rfl) (e_callR (bs := []) (rfsub_ev X1 rfP HYP_ HYP_) ok_80 (by kernel_rfl) (by kernel_rfl) rfl VAL_) rfl ?_
      refine x_val (v_moveT rfl) rfl ?_
      refine x_val (v_extract rfl rfl) rfl ?_
      refine x_val (v_extract rfl rfl) rfl ?_
      refine x_storeR rfl rfl rfl rfl rfl sz_38 EQ_ EQ_ SET_ ?_
      refine x_nil ?_
      refine S_ ?_
      refine ⟨(rfsub0 X1 rfP), by kernel_rfl, ?_⟩
      rw [if_pos (hb)]
    · -- the test is False
      refine S_ ?_
      refine ⟨X1, by kernel_rfl, ?_⟩
      rw [if_neg (by first | (rw [hb]; decide) | simp [hb])]
    have hJ3 : (if (!((rfsub1 X1 rfP) == 1#64)) = true then rfsub0 X1 rfP else X1).length = 4 := by split <;> simp [*]
    generalize (if (!((rfsub1 X1 rfP) == 1#64)) = true then rfsub0 X1 rfP else X1) = J3 at *
    refine S_ ?_
    refine c_region ?_
    refine s_val (v_moveC rfl) rfl ?_
    refine s_val (v_addN (b := 1) rfl rfl (by omega)) rfl ?_
    refine s_val (v_assignC rfl) rfl ?_
    refine s_nil ?_
    exact ⟨(j2 + 1, _), by kernel_rfl, rfl⟩
  · try dsimp only
    have hY6 : (rfMod_L2 a 3).length = 4 := by rw [rfMod_L2_len a ha _]; try omega
    generalize rfMod_L2 a 3 = Y6 at *
    refine S_ ?_
    refine c_region ?_
    refine s_val (v_moveC rfl) rfl ?_
    refine s_val (v_lssN (a := 3) (b := 3) rfl rfl) rfl ?_
    refine s_nil ?_
    refine S_ ?_
    refine c_region ?_
    refine s_val (v_loadR rfl rfl row_38 sz_38 EQ_ (by decide)) rfl ?_
    refine s_storeR rfl rfl rfl rfl sz_38 EQ_ EQ_ SET_ ?_
    refine s_nil ?_
    refine S_ ?_
    rw [hP.out]
    exact k_1 (r_row rfl rfl row_38 sz_38 EQ_ (by decide)) (by first | kernel_rfl | rfl)

@[simp] theorem rfMod_len (a : List (BitVec 64)) (ha : a.length = 4) : (rfMod a).length = 4 := by
  unfold rfMod
  first | (simp [rfMod_L2_len, *]; done) | (simp [rfMod_L2_len, *]; omega)

attribute [irreducible] rfMod
end Go.Proofs.Ytcekjmejppemeaa
/- field's functions, told by the field of 2^255 - 19. (Drawn up by a program.) -/
namespace Go.Proofs.Ytcekjmejppemeaa
open Go.RowKit
theorem fMod_ev (a : List (BitVec 8)) (ha : a.length = 32)  : Ev Try.prog (.call 18 [.agg (.a8 (a))] []) (.val (.agg (.a8 (fMod a))) [])  := by
  have h_ := fdMod_ev a ha
  rw [fMod_same] at h_
  exact h_
theorem fAdd_ev (a : List (BitVec 8)) (b : List (BitVec 8)) (ha : a.length = 32) (hb : b.length = 32)  : Ev Try.prog (.call 22 [.agg (.a8 (a)), .agg (.a8 (b))] []) (.val (.agg (.a8 (fAdd a b))) [])  := by
  have h_ := fdAdd_ev a b ha hb
  rw [fAdd_same] at h_
  exact h_
theorem fSub_ev (a : List (BitVec 8)) (b : List (BitVec 8)) (ha : a.length = 32) (hb : b.length = 32)  : Ev Try.prog (.call 20 [.agg (.a8 (a)), .agg (.a8 (b))] []) (.val (.agg (.a8 (fSub a b))) [])  := by
  have h_ := fdSub_ev a b ha hb
  rw [fSub_same] at h_
  exact h_
theorem fMul_ev (a : List (BitVec 8)) (b : List (BitVec 8)) (ha : a.length = 32) (hb : b.length = 32)  : Ev Try.prog (.call 19 [.agg (.a8 (a)), .agg (.a8 (b))] []) (.val (.agg (.a8 (fMul a b))) [])  := by
  have h_ := fdMul_ev a b ha hb
  rw [fMul_same] at h_
  exact h_
theorem fInv_ev (a : List (BitVec 8)) (ha : a.length = 32)  : Ev Try.prog (.call 21 [.agg (.a8 (a))] []) (.val (.agg (.a8 (fInv a))) [])  := by
  have h_ := fdInv_ev a ha
  rw [fInv_same] at h_
  exact h_
theorem fRoot_ev (a : List (BitVec 8)) (ha : a.length = 32) : Ev Try.prog (.call 23 [.agg (.a8 a)] []) (.val (.tup [.agg (.a8 (fRoot a)), .c (.val (.bool (fRootIs a)))]) []) := by
  cases h : fRootIs a with
  | true => rw [← fRoot_same a h]; exact fdRoot_ev a ha (by rw [fRootIs_same, h])
  | false => rw [← fRoot_none a h]; exact fdRootN_ev a ha (by rw [fRootIs_same, h])
def rB (n : List (BitVec 64)) : List (BitVec 8) := toB (wV n)
@[simp] theorem rB_len (n : List (BitVec 64)) : (rB n).length = 32 := toB_len _
theorem rB_same (n : List (BitVec 64)) : rfBytes n = rB n := by
  unfold rfBytes rB
  refine bytes_run n (rfBytes_L3 n) rfl fun j => ?_
  rw [rfBytes_L3, rfBytes_L3_S, BitVec.toNat_ofNat, Nat.mod_eq_of_lt (by omega)]
theorem rB_ev (n : List (BitVec 64)) (hn : n.length = 4) : Ev Try.prog (.call 25 [.agg (.a64 n)] []) (.val (.agg (.a8 (rB n))) []) := by
  rw [← rB_same]; exact rfBytes_ev n hn
def fSmall (n : BitVec 64) : List (BitVec 8) := F (zf n.toNat)
@[simp] theorem fSmall_len (n : BitVec 64) : (fSmall n).length = 32 := F_len _
theorem small_same (n : BitVec 64) : rB (put (zer64 4) 0 n) = fSmall n := by
  unfold rB fSmall F
  have h := n.isLt
  have e : wV (put (zer64 4) 0 n) = n.toNat := by
    show n.toNat + (0#64).toNat * _ + (0#64).toNat * _ + (0#64).toNat * _ = _
    rw [show (0#64 : BitVec 64).toNat = 0 from rfl]
    omega
  rw [e, zf_val, Nat.mod_eq_of_lt (Nat.lt_trans h (by decide))]
/-- The bytes of p. -/
def pB : List (BitVec 8) := toB PP
@[simp] theorem pB_len : pB.length = 32 := toB_len _
theorem pB_same : rB rfP = pB := by
  unfold rB pB
  rw [show wV rfP = PP from by decide +kernel]
theorem pB_ev : Ev Try.prog (.call 25 [.agg (.a64 rfP)] []) (.val (.agg (.a8 pB)) []) := by
  rw [← pB_same]; exact rB_ev rfP (by kernel_rfl)
theorem leS_pB : leS pB 32 = PP := by
  unfold pB
  rw [leS_toB _ _ (Nat.le_refl _)]
  decide +kernel
theorem Z_pB : Z pB = 0 := by
  unfold Z
  rw [leS_pB]
  exact zf_P
attribute [irreducible] fSmall pB rB
end Go.Proofs.Ytcekjmejppemeaa
/- Facts for the statements about field. No program in sight. -/
namespace Go.Proofs.Ytcekjmejppemeaa
open Go.RowKit
theorem zs0 : zf (0#64 : BitVec 64).toNat = 0 := rfl
theorem zs1 : zf (1#64 : BitVec 64).toNat = 1 := rfl
theorem zs2 : zf (2#64 : BitVec 64).toNat = 2 := by decide +kernel
theorem zs37 : zf (37#64 : BitVec 64).toNat = zf 37 := rfl
theorem leS_small (n : BitVec 64) : leS (fSmall n) 32 = n.toNat := by
  unfold fSmall F
  rw [leS_toB _ _ (Nat.le_refl _), zf_val]
  have h := n.isLt
  rw [Nat.mod_eq_of_lt (Nat.lt_trans h (by decide)), Nat.mod_eq_of_lt (Nat.lt_trans h (by decide))]
theorem pow_P (u : Fp) : u ^ leS pB 32 = u := by
  have e : leS pB 32 = eOne + 1 := by rw [leS_pB]; decide +kernel
  rw [e, pow_succF]
  by_cases h : u = 0
  · rw [h, mul_zeroF]
  · rw [fermatF h, show (1 : Fp) * u = u from by grobner]
theorem half_add (n m : BitVec 64) : (n >>> 1 + m >>> 1).toNat = (n >>> 1).toNat + (m >>> 1).toNat := by
  have h1 := shr_nat n 1
  have h2 := shr_nat m 1
  have := n.isLt
  have := m.isLt
  exact add_nat (by rw [h1, h2]; omega)
theorem quot1 {u v : Fp} (h : v ≠ 0) : u * invF v * v = u := by
  have := inv_mulF h
  clear h
  grobner
theorem mul_invF {u : Fp} (h : u ≠ 0) : u * invF u = 1 := by
  have := inv_mulF h
  clear h
  grobner
theorem neg_add {u v : Fp} (h : u = -v) : u + v = 0 := by grobner
theorem evenF_sq (u : Fp) : evenF u * evenF u = u * u := by
  unfold evenF
  split
  · grobner
  · rfl
theorem evenF_even (u : Fp) : (evenF u).val % 2 = 0 := by
  unfold evenF
  split
  · rename_i h
    have hlt := u.isLt
    have e : (0 - u).val = PP - u.val := by
      rw [Fin.sub_def]
      show (PP - u.val + 0) % PP = _
      have hp : 0 < u.val := by omega
      rw [Nat.add_zero, Nat.mod_eq_of_lt (Nat.sub_lt (by decide) hp)]
    rw [e]
    show (57896044618658097711785492504343953926634992332820282019728792003956564819949 - u.val) % 2 = 0
    omega
  · omega
theorem root_is_sq (s : Fp) : rootF (s * s) = s ∨ rootF (s * s) = -s := sq_eq (rootF_sq s)
theorem evenF_or (u : Fp) : evenF u = u ∨ evenF u = -u := by
  unfold evenF
  split
  · exact .inr (by grobner)
  · exact .inl rfl
theorem even_root (s : Fp) : evenF (rootF (s * s)) = s ∨ evenF (rootF (s * s)) = -s := by
  rcases evenF_or (rootF (s * s)) with h | h <;> rcases root_is_sq s with g | g <;> rw [h, g]
  · exact .inl rfl
  · exact .inr rfl
  · exact .inr rfl
  · exact .inl (by grobner)
theorem even_bit {u : Fp} (h : u.val % 2 = 0) : (nth (F u) 0 % 2#8 == 0#8) = true := by
  rw [F_nth0, beq_iff_eq]
  apply BitVec.eq_of_toNat_eq
  rw [BitVec.toNat_umod, BitVec.toNat_ofNat]
  show u.val % 2 ^ 8 % 2 = 0
  omega
theorem fRoot_even (a : List (BitVec 8)) : (nth (fRoot a) 0 % 2#8 == 0#8) = true := by
  unfold fRoot
  refine even_bit ?_
  split
  · exact evenF_even _
  · rfl
theorem sq_rootIs (a : List (BitVec 8)) : fRootIs (fMul a a) = true := by
  unfold fRootIs fMul
  rw [Z_F]
  exact decide_eq_true (rootF_sq _)
theorem sq_root (a : List (BitVec 8)) : fRoot (fMul a a) = F (evenF (rootF (Z a * Z a))) := by
  unfold fRoot fMul
  rw [Z_F, if_pos (rootF_sq _)]
theorem rootIs_iff (a : List (BitVec 8)) : fRootIs a = true ↔ Z a = 0 ∨ Z a ^ eHalf = 1 := by
  unfold fRootIs
  rw [decide_eq_true_eq]
  exact root_iff _
theorem root_sq_of {a : List (BitVec 8)} (h : fRootIs a = true) : Z (fRoot a) * Z (fRoot a) = Z a := by
  unfold fRootIs at h
  unfold fRoot
  have h' := of_decide_eq_true h
  rw [if_pos h', Z_F, evenF_sq, h']
theorem root_none_of {a : List (BitVec 8)} (h : fRootIs a = false) : fRoot a = zer8 32 := by
  unfold fRootIs at h
  unfold fRoot
  rw [if_neg (of_decide_eq_false h), F_zero]
theorem root_zero {a : List (BitVec 8)} (h : Z a = 0) : fRoot a = fSmall 0#64 := by
  have hr : fRootIs a = true := (rootIs_iff a).2 (.inl h)
  have h1 := root_sq_of hr
  rw [h] at h1
  have h2 : Z (fRoot a) = 0 := by rcases nozero h1 with h | h <;> exact h
  unfold fSmall
  rw [zs0, ← h2]
  unfold fRoot
  rw [Z_F]
end Go.Proofs.Ytcekjmejppemeaa
