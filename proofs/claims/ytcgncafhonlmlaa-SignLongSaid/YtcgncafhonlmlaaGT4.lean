/- The texts CvProd, CvScal, CvShift, CvShift2, CvSh, CvRed, CvMod, PlainL, FBytes, FPrime, FNum, FOf, FCarried, FLBytes, FAddSub, FLimb, FMul, FLMul, FRfAdd, FRfPlain, merged into one. -/
import Derived.Test.YtcgncafhonlmlaaGT3
import Derived.Lib.Mul64
namespace Go.Proofs.Ytcgncafhonlmlaa
open Go.RowKit
def scProd_L7_S (a : List (BitVec 64)) (b : List (BitVec 64)) (j3 : Nat) (X2 : BitVec 64) (X3 : List (BitVec 64)) (j7 : Nat) : BitVec 64 × List (BitVec 64) := (((mul640 (nth a j3) (nth b j7)) + (addC (nth X3 (j3 + j7)) (mul641 (nth a j3) (nth b j7)) 0#64)) + (addC (nth (put X3 (j3 + j7) ((nth X3 (j3 + j7)) + (mul641 (nth a j3) (nth b j7)) + 0#64)) (j3 + j7)) X2 0#64), put (put X3 (j3 + j7) ((nth X3 (j3 + j7)) + (mul641 (nth a j3) (nth b j7)) + 0#64)) (j3 + j7) ((nth (put X3 (j3 + j7) ((nth X3 (j3 + j7)) + (mul641 (nth a j3) (nth b j7)) + 0#64)) (j3 + j7)) + X2 + 0#64))
def scProd_L7 (a : List (BitVec 64)) (b : List (BitVec 64)) (X1 : List (BitVec 64)) (j3 : Nat) : Nat → BitVec 64 × List (BitVec 64)
  | 0 => (0#64, X1)
  | j7 + 1 => scProd_L7_S a b j3 (scProd_L7 a b X1 j3 j7).1 (scProd_L7 a b X1 j3 j7).2 j7
theorem scProd_L7_len1 (a : List (BitVec 64)) (b : List (BitVec 64)) (X1 : List (BitVec 64)) (j3 : Nat) (ha : a.length = 4) (hb : b.length = 4) (hX1 : X1.length = 9) (j7 : Nat) : (scProd_L7 a b X1 j3 j7).2.length = 9 := by
  induction j7 with
  | zero => first | (simp (maxDischargeDepth := 9) [scProd_L7, *]; done) | (simp (maxDischargeDepth := 9) [scProd_L7, *]; omega)
  | succ j7 ih => rw [scProd_L7.eq_2, scProd_L7_S]; first | (simp (maxDischargeDepth := 9) [ih]; done) | (simp (maxDischargeDepth := 9) [ih]; omega) | (simp (maxDischargeDepth := 9) [*]; done) | (simp (maxDischargeDepth := 9) [*]; omega) | (split <;> first | (simp (maxDischargeDepth := 9) [ih]; done) | (simp (maxDischargeDepth := 9) [ih]; omega) | (simp (maxDischargeDepth := 9) [*]; done))
def scProd_L3_S (a : List (BitVec 64)) (b : List (BitVec 64)) (X1 : List (BitVec 64)) (j3 : Nat) : List (BitVec 64) := put ((scProd_L7 a b X1 j3 4).2) (j3 + 4) ((scProd_L7 a b X1 j3 4).1)
def scProd_L3 (a : List (BitVec 64)) (b : List (BitVec 64)) : Nat → List (BitVec 64)
  | 0 => zer64 9
  | j3 + 1 => scProd_L3_S a b (scProd_L3 a b j3) j3
theorem scProd_L3_len (a : List (BitVec 64)) (b : List (BitVec 64)) (ha : a.length = 4) (hb : b.length = 4) (j3 : Nat) : (scProd_L3 a b j3).length = 9 := by
  induction j3 with
  | zero => first | (simp (maxDischargeDepth := 9) [scProd_L3, *]; done) | (simp (maxDischargeDepth := 9) [scProd_L3, *]; omega)
  | succ j3 ih => rw [scProd_L3.eq_2, scProd_L3_S]; first | (simp (maxDischargeDepth := 9) [ih]; done) | (simp (maxDischargeDepth := 9) [ih]; omega) | (simp (maxDischargeDepth := 9) [scProd_L7_len1, *]; done) | (simp (maxDischargeDepth := 9) [scProd_L7_len1, *]; omega) | (split <;> first | (simp (maxDischargeDepth := 9) [ih]; done) | (simp (maxDischargeDepth := 9) [ih]; omega) | (simp (maxDischargeDepth := 9) [scProd_L7_len1, *]; done))
def scProd_L19_S (c : List (BitVec 64)) (X9 : BitVec 64) (X10 : List (BitVec 64)) (j19 : Nat) : BitVec 64 × List (BitVec 64) := (addC (nth X10 j19) (if j19 < 4 then nth c j19 else 0#64) X9, put X10 j19 ((nth X10 j19) + (if j19 < 4 then nth c j19 else 0#64) + X9))
def scProd_L19 (c : List (BitVec 64)) (Y8 : List (BitVec 64)) : Nat → BitVec 64 × List (BitVec 64)
  | 0 => (0#64, Y8)
  | j19 + 1 => scProd_L19_S c (scProd_L19 c Y8 j19).1 (scProd_L19 c Y8 j19).2 j19
theorem scProd_L19_len1 (c : List (BitVec 64)) (Y8 : List (BitVec 64)) (hc : c.length = 4) (hY8 : Y8.length = 9) (j19 : Nat) : (scProd_L19 c Y8 j19).2.length = 9 := by
  induction j19 with
  | zero => first | (simp (maxDischargeDepth := 9) [scProd_L19, *]; done) | (simp (maxDischargeDepth := 9) [scProd_L19, *]; omega)
  | succ j19 ih => rw [scProd_L19.eq_2, scProd_L19_S]; first | (simp (maxDischargeDepth := 9) [ih]; done) | (simp (maxDischargeDepth := 9) [ih]; omega) | (simp (maxDischargeDepth := 9) [scProd_L7_len1, scProd_L3_len, *]; done) | (simp (maxDischargeDepth := 9) [scProd_L7_len1, scProd_L3_len, *]; omega) | (split <;> first | (simp (maxDischargeDepth := 9) [ih]; done) | (simp (maxDischargeDepth := 9) [ih]; omega) | (simp (maxDischargeDepth := 9) [scProd_L7_len1, scProd_L3_len, *]; done))
def scProd_L28_S (Y14 : List (BitVec 64)) (X16 : List (BitVec 8)) (j28 : Nat) : List (BitVec 8) := X16 ++ [((nth Y14 (j28 / 8)) >>> (8 * (j28 % 8))).setWidth 8]
def scProd_L28 (Y14 : List (BitVec 64)) : Nat → List (BitVec 8)
  | 0 => []
  | j28 + 1 => scProd_L28_S Y14 (scProd_L28 Y14 j28) j28
theorem scProd_L28_len (Y14 : List (BitVec 64)) (hY14 : Y14.length = 9) (j28 : Nat) : (scProd_L28 Y14 j28).length = j28 := by
  induction j28 with
  | zero => first | (simp (maxDischargeDepth := 9) [scProd_L28, *]; done) | (simp (maxDischargeDepth := 9) [scProd_L28, *]; omega)
  | succ j28 ih => rw [scProd_L28.eq_2, scProd_L28_S]; first | (simp (maxDischargeDepth := 9) [ih]; done) | (simp (maxDischargeDepth := 9) [ih]; omega) | (simp (maxDischargeDepth := 9) [scProd_L7_len1, scProd_L3_len, scProd_L19_len1, *]; done) | (simp (maxDischargeDepth := 9) [scProd_L7_len1, scProd_L3_len, scProd_L19_len1, *]; omega) | (split <;> first | (simp (maxDischargeDepth := 9) [ih]; done) | (simp (maxDischargeDepth := 9) [ih]; omega) | (simp (maxDischargeDepth := 9) [scProd_L7_len1, scProd_L3_len, scProd_L19_len1, *]; done))
def scProd (a : List (BitVec 64)) (b : List (BitVec 64)) (c : List (BitVec 64)) : List (BitVec 8) := (scProd_L28 ((scProd_L19 c (scProd_L3 a b 4) 9).2) 72)
theorem scProd_c (c Y : List (BitVec 64)) (j : Nat) : (scProd_L19 c Y j).1.toNat ≤ 1 := by
  induction j with
  | zero => show (0#64).toNat ≤ 1; decide
  | succ j ih => rw [scProd_L19.eq_2, scProd_L19_S]; exact addC_le _ _ _ ih
set_option maxRecDepth 100000 in
set_option maxHeartbeats 2000000 in
theorem scProd_ev (a : List (BitVec 64)) (b : List (BitVec 64)) (c : List (BitVec 64)) (ha : a.length = 4) (hb : b.length = 4) (hc : c.length = 4) : Ev Try.prog (.call 44 [.agg (.a64 (a)), .agg (.a64 (b)), .agg (.a64 (c))] []) (.val (.c (.sl 0 0 72 72 1)) [.row true (.a8 (scProd a b c))]) := by
  have hP : Hid (scProd a b c = (scProd_L28 ((scProd_L19 c (scProd_L3 a b 4) 9).2) 72)) := ⟨rfl⟩
  refine c_call Try.func44 rfl Try.ntmps44 rfl LEN_ ?_
  refine S_ ?_
  refine c_region ?_
  refine s_memN (m_box BX_ LEN_) APP_ rfl ?_
  refine s_memN (m_box BX_ LEN_) APP_ rfl ?_
  refine s_memN (m_box BX_ LEN_) APP_ rfl ?_
  refine s_val (v_assignC rfl) rfl ?_
  refine s_nil ?_
  refine S_ ?_
  refine c_region ?_
  refine s_memN (m_alloc al_106 LEN_) APP_ rfl ?_
  refine s_nil ?_
  refine S_ ?_
  refine c_region ?_
  refine s_val (v_moveC rfl) rfl ?_
  refine s_nil ?_
  refine S_ ?_
  refine c_loopC [3, 4, 5, 7, 20] (fun (zz : Nat × List (BitVec 64)) => ⟨112, keepT [3, 4, 5, 7, 20] [.c (.ptr 0 0), .c (.ptr 1 0), .c (.ptr 2 0), .c (.ptr 3 0), .c (.val (.int .i64 (((zz.1 : Nat) : Int))))], [.row true (.a64 (a)), .row true (.a64 (b)), .row true (.a64 (c)), .row true (.a64 (zz.2))]⟩) (fun j3 => (j3, scProd_L3 a b j3)) (4) (by kernel_rfl) ?_ ?_
  · intro j3 hj3
    try dsimp only
    have hX1 : (scProd_L3 a b j3).length = 9 := by rw [scProd_L3_len a b ha hb _]; try omega
    rw [scProd_L3.eq_2, scProd_L3_S]
    generalize scProd_L3 a b j3 = X1 at *
    refine S_ ?_
    refine c_region ?_
    refine s_val (v_lssN (b := 4) rfl rfl) rfl ?_
    refine s_nil ?_
    refine S_ ?_
    refine c_region ?_
    refine s_val (v_moveC rfl) rfl ?_
    refine s_val (v_assignC rfl) rfl ?_
    refine s_nil ?_
    refine S_ ?_
    refine c_region ?_
    refine s_val (v_assignC rfl) rfl ?_
    refine s_nil ?_
    refine S_ ?_
    refine c_region ?_
    refine s_val (v_moveC rfl) rfl ?_
    refine s_nil ?_
    refine S_ ?_
    refine c_loopC [3, 4, 5, 7, 8, 9, 20, 23] (fun (zz : Nat × BitVec 64 × List (BitVec 64)) => ⟨112, keepT [3, 4, 5, 7, 8, 9, 20, 23] [.c (.ptr 0 0), .c (.ptr 1 0), .c (.ptr 2 0), .c (.ptr 3 0), .c (.val (.int .i64 (((j3 : Nat) : Int)))), .c (.val (U64 (zz.2.1))), .c (.val (.int .i64 (((j3 : Nat) : Int)))), .c (.val (.int .i64 (((zz.1 : Nat) : Int))))], [.row true (.a64 (a)), .row true (.a64 (b)), .row true (.a64 (c)), .row true (.a64 (zz.2.2))]⟩) (fun j7 => (j7, scProd_L7 a b X1 j3 j7)) (4) (by kernel_rfl) ?_ ?_
    · intro j7 hj7
      try dsimp only
      have hX3 : (scProd_L7 a b X1 j3 j7).2.length = 9 := by rw [scProd_L7_len1 a b X1 j3 ha hb hX1 _]; try omega
      rw [scProd_L7.eq_2, scProd_L7_S]
      generalize scProd_L7 a b X1 j3 j7 = Z4 at *
      obtain ⟨X2, X3⟩ := Z4
      try dsimp only at *
      refine S_ ?_
      refine c_region ?_
      refine s_val (v_lssN (b := 4) rfl rfl) rfl ?_
      refine s_nil ?_
      refine S_ ?_
      refine c_region ?_
      refine s_val (v_moveC rfl) rfl ?_
      refine s_val (v_assignC rfl) rfl ?_
      refine s_nil ?_
      refine S_ ?_
      refine c_draw 12 mixed (by kernel_rfl) rfl rfl rfl ?_
      refine h_val (v_moveC rfl) rfl ?_
      refine h_val (v_idxA1 rfl rfl Try.underlying57 sz_40 (by omega)) rfl ?_
      refine h_val (v_load64 rfl rfl row_40 LT_) rfl ?_
      refine h_val (v_moveC rfl) rfl ?_
      refine h_val (v_idxA1 rfl rfl Try.underlying57 sz_40 (by omega)) rfl ?_
      refine h_val (v_load64 rfl rfl row_40 LT_) rfl ?_
      refine h_evN (e_callR (bs := []) (mul64_ev (nth a j3) (nth b j7)) ok_86 (by kernel_rfl) (by kernel_rfl) rfl VAL_) APP_ rfl ?_
      refine h_val (v_moveT rfl) rfl ?_
      refine h_val (v_extract rfl rfl) rfl ?_
      refine h_val (v_extract rfl rfl) rfl ?_
      refine h_val (v_assignC rfl) rfl ?_
      refine h_val (v_assignC rfl) rfl ?_
      refine h_nil ?_
      refine s_nil ?_
      refine S_ ?_
      refine c_region ?_
      refine s_val (v_assignC rfl) rfl ?_
      refine s_val (v_assignC rfl) rfl ?_
      refine s_nil ?_
      refine S_ ?_
      refine c_region ?_
      refine s_val (v_moveC rfl) rfl ?_
      refine s_val (v_moveC rfl) rfl ?_
      refine s_val (v_addN rfl rfl (by omega)) rfl ?_
      refine s_val (v_moveC rfl) rfl ?_
      refine s_val (v_moveC rfl) rfl ?_
      refine s_val (v_addN rfl rfl (by omega)) rfl ?_
      refine s_val (v_idxA1 rfl rfl Try.underlying106 sz_40 (by omega)) rfl ?_
      refine s_val (v_load64 rfl rfl row_40 LT_) rfl ?_
      refine s_val (v_moveC rfl) rfl ?_
      refine s_evN (e_add ext_62 rfl rfl rfl (rfl : _ = U64 (0#64)) (by decide)) APP_ rfl ?_
      refine s_val (v_moveT rfl) rfl ?_
      refine s_val (v_extract rfl rfl) rfl ?_
      refine s_val (v_extract rfl rfl) rfl ?_
      refine s_val (v_idxA1 rfl rfl Try.underlying106 sz_40 (by omega)) rfl ?_
      refine s_store64 rfl rfl rfl sz_40 LT_ SET_ ?_
      refine s_val (v_assignC rfl) rfl ?_
      refine s_nil ?_
      refine S_ ?_
      refine c_region ?_
      refine s_val (v_moveC rfl) rfl ?_
      refine s_val (v_moveC rfl) rfl ?_
      refine s_val (v_addN rfl rfl (by omega)) rfl ?_
      refine s_val (v_moveC rfl) rfl ?_
      refine s_val (v_moveC rfl) rfl ?_
      refine s_val (v_addN rfl rfl (by omega)) rfl ?_
      refine s_val (v_idxA1 rfl rfl Try.underlying106 sz_40 (by omega)) rfl ?_
      refine s_val (v_load64 rfl rfl row_40 LT_) rfl ?_
      refine s_val (v_moveC rfl) rfl ?_
      refine s_evN (e_add ext_62 rfl rfl rfl (rfl : _ = U64 (0#64)) (by decide)) APP_ rfl ?_
      refine s_val (v_moveT rfl) rfl ?_
      refine s_val (v_extract rfl rfl) rfl ?_
      refine s_val (v_extract rfl rfl) rfl ?_
      refine s_val (v_idxA1 rfl rfl Try.underlying106 sz_40 (by omega)) rfl ?_
      refine s_store64 rfl rfl rfl sz_40 LT_ SET_ ?_
      refine s_val (v_assignC rfl) rfl ?_
      refine s_nil ?_
      refine S_ ?_
      refine c_region ?_
      refine s_val (v_moveC rfl) rfl ?_
      refine s_val (v_moveC rfl) rfl ?_
      refine s_val (v_add64 rfl rfl) rfl ?_
      refine s_val (v_moveC rfl) rfl ?_
      refine s_val (v_add64 rfl rfl) rfl ?_
      refine s_val (v_assignC rfl) rfl ?_
      refine s_nil ?_
      refine S_ ?_
      refine c_region ?_
      refine s_val (v_addN (b := 1) rfl rfl (by omega)) rfl ?_
      refine s_val (v_moveC rfl) rfl ?_
      refine s_nil ?_
      exact ⟨(j7 + 1, _), by kernel_rfl, rfl⟩
    · try dsimp only
      have hY6 : (scProd_L7 a b X1 j3 4).2.length = 9 := by rw [scProd_L7_len1 a b X1 j3 ha hb hX1 _]; try omega
      generalize scProd_L7 a b X1 j3 4 = Z7 at *
      obtain ⟨Y5, Y6⟩ := Z7
      try dsimp only at *
      refine S_ ?_
      refine c_region ?_
      refine s_val (v_lssN (a := 4) (b := 4) rfl rfl) rfl ?_
      refine s_nil ?_
      refine S_ ?_
      refine c_region ?_
      refine s_val (v_moveC rfl) rfl ?_
      refine s_val (v_addN (b := 4) rfl rfl (by omega)) rfl ?_
      refine s_val (v_moveC rfl) rfl ?_
      refine s_val (v_idxA1 rfl rfl Try.underlying106 sz_40 (by omega)) rfl ?_
      refine s_store64 rfl rfl rfl sz_40 LT_ SET_ ?_
      refine s_nil ?_
      refine S_ ?_
      refine c_region ?_
      refine s_val (v_addN (b := 1) rfl rfl (by omega)) rfl ?_
      refine s_val (v_moveC rfl) rfl ?_
      refine s_nil ?_
      exact ⟨(j3 + 1, _), by kernel_rfl, rfl⟩
  · try dsimp only
    have hY8 : (scProd_L3 a b 4).length = 9 := by rw [scProd_L3_len a b ha hb _]; try omega
    generalize scProd_L3 a b 4 = Y8 at *
    refine S_ ?_
    refine c_region ?_
    refine s_val (v_lssN (a := 4) (b := 4) rfl rfl) rfl ?_
    refine s_nil ?_
    refine S_ ?_
    refine c_region ?_
    refine s_val (v_assignC rfl) rfl ?_
    refine s_nil ?_
    refine S_ ?_
    refine c_region ?_
    refine s_val (v_moveC rfl) rfl ?_
    refine s_nil ?_
    refine S_ ?_
    refine c_loopC [5, 7, 15, 75] (fun (zz : Nat × BitVec 64 × List (BitVec 64)) => ⟨112, keepT [5, 7, 15, 75] [.c (.ptr 0 0), .c (.ptr 1 0), .c (.val (U64 (zz.2.1))), .c (.val (.int .i64 (((zz.1 : Nat) : Int))))], [.row true (.a64 (c)), .row true (.a64 (zz.2.2))]⟩) (fun j19 => (j19, scProd_L19 c Y8 j19)) (9) (by kernel_rfl) ?_ ?_
    · intro j19 hj19
      try dsimp only
      have hX10 : (scProd_L19 c Y8 j19).2.length = 9 := by rw [scProd_L19_len1 c Y8 hc hY8 _]; try omega
      have hcc := scProd_c c Y8 j19
      rw [scProd_L19.eq_2, scProd_L19_S]
      generalize scProd_L19 c Y8 j19 = Z11 at *
      obtain ⟨X9, X10⟩ := Z11
      try dsimp only at *
      refine S_ ?_
      refine c_region ?_
      refine s_val (v_lssN (b := 9) rfl rfl) rfl ?_
      refine s_nil ?_
      refine S_ ?_
      refine c_region ?_
      refine s_val (v_moveC rfl) rfl ?_
      refine s_val (v_assignC rfl) rfl ?_
      refine s_nil ?_
      refine S_ ?_
      refine c_region ?_
      refine s_val (v_assignC rfl) rfl ?_
      refine s_nil ?_
      refine S_ ?_
      refine c_region ?_
      refine s_val (v_moveC rfl) rfl ?_
      refine s_val (v_lssN (b := 4) rfl rfl) rfl ?_
      refine s_nil ?_
      refine Q_ ?_
      refine c_join [5, 7, 15, 16, 17, 75] (fun (zz : BitVec 64) => ⟨112, keepT [5, 7, 15, 16, 17, 75] [.c (.ptr 0 0), .c (.ptr 1 0), .c (.val (U64 (X9))), .c (.val (.int .i64 (((j19 : Nat) : Int)))), .c (.val (U64 (zz))), .c (.val (.int .i64 (((j19 : Nat) : Int))))], [.row true (.a64 (c)), .row true (.a64 (X10))]⟩) (if j19 < 4 then nth c j19 else 0#64) rfl (fun hb => ?_) (fun hb => ?_) ?_
      · -- the test is True
        have hb_ := of_decide_eq_true hb
        refine S_ ?_
        refine c_region ?_
        refine s_val (v_moveC rfl) rfl ?_
        refine s_val (v_idxA1 rfl rfl Try.underlying57 sz_40 (by omega)) rfl ?_
        refine s_val (v_load64 rfl rfl row_40 LT_) rfl ?_
        refine s_val (v_assignC rfl) rfl ?_
        refine s_nil ?_
        refine S_ ?_
        refine ⟨(nth c j19), by kernel_rfl, ?_⟩
        rw [if_pos (of_decide_eq_true hb)]
      · -- the test is False
        have hb_ := of_decide_eq_false hb
        refine S_ ?_
        refine ⟨0#64, by kernel_rfl, ?_⟩
        rw [if_neg (of_decide_eq_false hb)]
      generalize (if j19 < 4 then nth c j19 else 0#64) = J12 at *
      refine S_ ?_
      refine c_region ?_
      refine s_val (v_moveC rfl) rfl ?_
      refine s_val (v_moveC rfl) rfl ?_
      refine s_val (v_idxA1 rfl rfl Try.underlying106 sz_40 (by omega)) rfl ?_
      refine s_val (v_load64 rfl rfl row_40 LT_) rfl ?_
      refine s_val (v_moveC rfl) rfl ?_
      refine s_val (v_moveC rfl) rfl ?_
      refine s_evN (e_add ext_62 rfl rfl rfl (rfl : _ = U64 (X9)) (by repeat (first | decide | assumption | apply addC_le | apply subC_le))) APP_ rfl ?_
      refine s_val (v_moveT rfl) rfl ?_
      refine s_val (v_extract rfl rfl) rfl ?_
      refine s_val (v_extract rfl rfl) rfl ?_
      refine s_val (v_idxA1 rfl rfl Try.underlying106 sz_40 (by omega)) rfl ?_
      refine s_store64 rfl rfl rfl sz_40 LT_ SET_ ?_
      refine s_val (v_assignC rfl) rfl ?_
      refine s_nil ?_
      refine S_ ?_
      refine c_region ?_
      refine s_val (v_addN (b := 1) rfl rfl (by omega)) rfl ?_
      refine s_val (v_moveC rfl) rfl ?_
      refine s_nil ?_
      exact ⟨(j19 + 1, _), by kernel_rfl, rfl⟩
    · try dsimp only
      have hY14 : (scProd_L19 c Y8 9).2.length = 9 := by rw [scProd_L19_len1 c Y8 hc hY8 _]; try omega
      have hcc := scProd_c c Y8 9
      generalize scProd_L19 c Y8 9 = Z15 at *
      obtain ⟨Y13, Y14⟩ := Z15
      try dsimp only at *
      refine S_ ?_
      refine c_region ?_
      refine s_val (v_lssN (a := 9) (b := 9) rfl rfl) rfl ?_
      refine s_nil ?_
      refine S_ ?_
      refine c_region ?_
      refine s_val (v_assignC rfl) rfl ?_
      refine s_nil ?_
      refine S_ ?_
      refine c_region ?_
      refine s_val (v_moveC rfl) rfl ?_
      refine s_nil ?_
      refine S_ ?_
      refine c_nil 18 1 (.a8 ([])) rfl rfl LEN_ rfl ?_
      refine S_ ?_
      refine c_loopC [7, 18, 95] (fun (zz : Nat × List (BitVec 8)) => ⟨112, keepT [7, 18, 95] [.c (.ptr 0 0), .c (.sl 1 0 zz.1 zz.1 1), .c (.val (.int .i64 (((zz.1 : Nat) : Int))))], [.row true (.a64 (Y14)), .row true (.a8 (zz.2))]⟩) (fun j28 => (j28, scProd_L28 Y14 j28)) (72) (by kernel_rfl) ?_ ?_
      · intro j28 hj28
        try dsimp only
        have hX16 : (scProd_L28 Y14 j28).length = j28 := by rw [scProd_L28_len Y14 hY14 _]; try omega
        rw [scProd_L28.eq_2, scProd_L28_S]
        generalize scProd_L28 Y14 j28 = X16 at *
        refine S_ ?_
        refine c_region ?_
        refine s_val (v_lssN (b := 72) rfl rfl) rfl ?_
        refine s_nil ?_
        refine S_ ?_
        refine c_region ?_
        refine s_val (v_moveC rfl) rfl ?_
        refine s_val (v_assignC rfl) rfl ?_
        refine s_nil ?_
        refine S_ ?_
        refine c_region ?_
        refine s_val (v_moveC rfl) rfl ?_
        refine s_val (v_moveC rfl) rfl ?_
        refine s_val (v_quoN (b := 8) rfl rfl (by omega) (by omega)) rfl ?_
        refine s_val (v_idxA1 rfl rfl Try.underlying106 sz_40 (by omega)) rfl ?_
        refine s_val (v_load64 rfl rfl row_40 LT_) rfl ?_
        refine s_val (v_moveC rfl) rfl ?_
        refine s_val (v_remN (b := 8) rfl rfl (by omega) (by omega)) rfl ?_
        refine s_val (v_mulN (a := 8) rfl rfl (by omega)) rfl ?_
        refine s_val (v_shr64n rfl rfl) rfl ?_
        refine s_val (v_conv rfl Try.underlying40 Try.underlying5 (w64_8 _)) rfl ?_
        refine s_memN (m_bs8 (l := [_]) Try.underlying23 el_5 rfl rfl (by decide) (by decide) LEN_) APP_ rfl ?_
        refine s_app8 rfl rfl rfl rfl Try.underlying23 Try.underlying23 el_5 EQL_ EQL_ (by omega) LEN_ KILL_ rfl ?_
        refine s_val (v_assignC rfl) rfl ?_
        refine s_nil ?_
        refine S_ ?_
        refine c_region ?_
        refine s_val (v_addN (b := 1) rfl rfl (by omega)) rfl ?_
        refine s_val (v_moveC rfl) rfl ?_
        refine s_nil ?_
        exact ⟨(j28 + 1, _), by kernel_rfl, rfl⟩
      · try dsimp only
        have hY17 : (scProd_L28 Y14 72).length = 72 := by rw [scProd_L28_len Y14 hY14 _]; try omega
        generalize scProd_L28 Y14 72 = Y17 at *
        refine S_ ?_
        refine c_region ?_
        refine s_val (v_lssN (a := 72) (b := 72) rfl rfl) rfl ?_
        refine s_nil ?_
        refine S_ ?_
        refine c_region ?_
        refine s_val (v_moveC rfl) rfl ?_
        refine s_val (v_assignC rfl) rfl ?_
        refine s_nil ?_
        refine S_ ?_
        rw [hP.out]
        exact k_1 (by first | exact r_tmpC rfl | exact r_tmpA rfl) (by first | kernel_rfl | rfl)
@[simp] theorem scProd_len (a : List (BitVec 64)) (b : List (BitVec 64)) (c : List (BitVec 64)) (ha : a.length = 4) (hb : b.length = 4) (hc : c.length = 4) : (scProd a b c).length = 72 := by
  unfold scProd
  first | (simp (maxDischargeDepth := 9) [scProd_L7_len1, scProd_L3_len, scProd_L19_len1, scProd_L28_len, *]; done) | (simp (maxDischargeDepth := 9) [scProd_L7_len1, scProd_L3_len, scProd_L19_len1, scProd_L28_len, *]; omega) | (split <;> (simp (maxDischargeDepth := 9) [scProd_L7_len1, scProd_L3_len, scProd_L19_len1, scProd_L28_len, *]; done))
attribute [irreducible] scProd
end Go.Proofs.Ytcgncafhonlmlaa
namespace Go.Proofs.Ytcgncafhonlmlaa
open Go.RowKit
def scOrder  : List (BitVec 64) := [6346243789798364141#64, 1503914060200516822#64, 0#64, 1152921504606846976#64]
set_option maxRecDepth 100000 in
set_option maxHeartbeats 2000000 in
theorem scOrder_ev   : Ev Try.prog (.call 36 [] []) (.val (.agg (.a64 (scOrder))) []) := by
  have hP : Hid (scOrder = [6346243789798364141#64, 1503914060200516822#64, 0#64, 1152921504606846976#64]) := ⟨rfl⟩
  refine c_call Try.func36 rfl Try.ntmps36 rfl LEN_ ?_
  refine S_ ?_
  refine c_region ?_
  refine s_memN (m_alloc al_57 LEN_) APP_ rfl ?_
  refine s_nil ?_
  refine S_ ?_
  refine c_region ?_
  refine s_val (v_bld64 (l := [6346243789798364141#64, 1503914060200516822#64, 0#64, 1152921504606846976#64]) zc_57 Try.underlying57 sz_40 rfl rfl (by decide)) rfl ?_
  refine s_storeR rfl rfl rfl rfl sz_57 EQ_ EQ_ SET_ ?_
  refine s_nil ?_
  refine S_ ?_
  rw [hP.out]
  exact k_1 (r_row rfl rfl row_57 sz_57 EQ_ (by decide)) (by first | kernel_rfl | rfl)
@[simp] theorem scOrder_len  : (scOrder).length = 4 := by
  unfold scOrder
  first | (simp [*]; done) | (simp [*]; omega)
attribute [irreducible] scOrder
def scLess_L3_S (a : List (BitVec 64)) (b : List (BitVec 64)) (X1 : BitVec 64) (j3 : Nat) : BitVec 64 := subC (nth a j3) (nth b j3) X1
def scLess_L3 (a : List (BitVec 64)) (b : List (BitVec 64)) : Nat → BitVec 64
  | 0 => 0#64
  | j3 + 1 => scLess_L3_S a b (scLess_L3 a b j3) j3
theorem scLess_c (a b : List (BitVec 64)) (j : Nat) : (scLess_L3 a b j).toNat ≤ 1 := by
  induction j with
  | zero => show (0#64).toNat ≤ 1; decide
  | succ j ih => rw [scLess_L3.eq_2, scLess_L3_S]; exact subC_le _ _ _
set_option maxRecDepth 100000 in
set_option maxHeartbeats 2000000 in
theorem scLess_ev (a : List (BitVec 64)) (b : List (BitVec 64)) (ha : a.length = 4) (hb : b.length = 4) : Ev Try.prog (.call 35 [.agg (.a64 (a)), .agg (.a64 (b))] []) (.val (.c (.val (.bool (((scLess_L3 a b 4) == 1#64))))) []) := by
  refine c_call Try.func35 rfl Try.ntmps35 rfl LEN_ ?_
  refine S_ ?_
  refine c_region ?_
  refine s_memN (m_box BX_ LEN_) APP_ rfl ?_
  refine s_memN (m_box BX_ LEN_) APP_ rfl ?_
  refine s_val (v_assignC rfl) rfl ?_
  refine s_nil ?_
  refine S_ ?_
  refine c_region ?_
  refine s_val (v_assignC rfl) rfl ?_
  refine s_nil ?_
  refine S_ ?_
  refine c_region ?_
  refine s_val (v_moveC rfl) rfl ?_
  refine s_nil ?_
  refine S_ ?_
  refine c_loopC [2, 3, 5, 7] (fun (zz : Nat × BitVec 64) => ⟨24, keepT [2, 3, 5, 7] [.c (.ptr 0 0), .c (.ptr 1 0), .c (.val (U64 (zz.2))), .c (.val (.int .i64 (((zz.1 : Nat) : Int))))], [.row true (.a64 (a)), .row true (.a64 (b))]⟩) (fun j3 => (j3, scLess_L3 a b j3)) (4) (by kernel_rfl) ?_ ?_
  · intro j3 hj3
    try dsimp only
    have hc := scLess_c a b j3
    rw [scLess_L3.eq_2, scLess_L3_S]
    generalize scLess_L3 a b j3 = X1 at *
    refine S_ ?_
    refine c_region ?_
    refine s_val (v_lssN (b := 4) rfl rfl) rfl ?_
    refine s_nil ?_
    refine S_ ?_
    refine c_region ?_
    refine s_val (v_moveC rfl) rfl ?_
    refine s_val (v_assignC rfl) rfl ?_
    refine s_nil ?_
    refine S_ ?_
    refine c_draw 12 mixed (by kernel_rfl) rfl rfl rfl ?_
    refine h_val (v_moveC rfl) rfl ?_
    refine h_val (v_idxA1 rfl rfl Try.underlying57 sz_40 (by omega)) rfl ?_
    refine h_val (v_load64 rfl rfl row_40 LT_) rfl ?_
    refine h_val (v_moveC rfl) rfl ?_
    refine h_val (v_idxA1 rfl rfl Try.underlying57 sz_40 (by omega)) rfl ?_
    refine h_val (v_load64 rfl rfl row_40 LT_) rfl ?_
    refine h_val (v_moveC rfl) rfl ?_
    refine h_evN (e_sub ext_74 rfl rfl rfl (rfl : _ = U64 (X1)) (by repeat (first | decide | assumption | apply addC_le | apply subC_le))) APP_ rfl ?_
    refine h_val (v_moveT rfl) rfl ?_
    refine h_val (v_extract rfl rfl) rfl ?_
    refine h_val (v_extract rfl rfl) rfl ?_
    refine h_val (v_assignC rfl) rfl ?_
    refine h_nil ?_
    refine s_nil ?_
    refine S_ ?_
    refine c_region ?_
    refine s_val (v_addN (b := 1) rfl rfl (by omega)) rfl ?_
    refine s_val (v_moveC rfl) rfl ?_
    refine s_nil ?_
    exact ⟨(j3 + 1, _), by kernel_rfl, rfl⟩
  · try dsimp only
    have hc := scLess_c a b 4
    generalize scLess_L3 a b 4 = Y2 at *
    refine S_ ?_
    refine c_region ?_
    refine s_val (v_lssN (a := 4) (b := 4) rfl rfl) rfl ?_
    refine s_nil ?_
    refine S_ ?_
    refine c_region ?_
    refine s_val (v_moveC rfl) rfl ?_
    refine s_val (v_eql64 (b := 1#64) rfl rfl) rfl ?_
    refine s_val (v_assignC rfl) rfl ?_
    refine s_nil ?_
    refine S_ ?_
    exact k_1 (by first | exact r_tmpC rfl | exact r_tmpA rfl) (by first | kernel_rfl | rfl)
def scBytes_L3_S (a : List (BitVec 64)) (X1 : List (BitVec 8)) (j3 : Nat) : List (BitVec 8) := put X1 j3 (((nth a (j3 / 8)) >>> (8 * (j3 % 8))).setWidth 8)
def scBytes_L3 (a : List (BitVec 64)) : Nat → List (BitVec 8)
  | 0 => zer8 32
  | j3 + 1 => scBytes_L3_S a (scBytes_L3 a j3) j3
@[simp] theorem scBytes_L3_len (a : List (BitVec 64)) (j3 : Nat) : (scBytes_L3 a j3).length = 32 := by
  induction j3 with
  | zero => first | (simp [scBytes_L3, *]; done) | (simp [scBytes_L3, *]; omega)
  | succ j3 ih => rw [scBytes_L3.eq_2, scBytes_L3_S]; first | (simp [ih]; done) | (simp [ih]; omega) | (simp [*]; done) | (simp [*]; omega) | (split <;> first | (simp [ih]; done) | (simp [ih]; omega) | (simp [*]; done))
def scBytes (a : List (BitVec 64)) : List (BitVec 8) := (scBytes_L3 a 32)
set_option maxRecDepth 100000 in
set_option maxHeartbeats 2000000 in
theorem scBytes_ev (a : List (BitVec 64)) (ha : a.length = 4) : Ev Try.prog (.call 45 [.agg (.a64 (a))] []) (.val (.agg (.a8 (scBytes a))) []) := by
  have hP : Hid (scBytes a = (scBytes_L3 a 32)) := ⟨rfl⟩
  refine c_call Try.func45 rfl Try.ntmps45 rfl LEN_ ?_
  refine S_ ?_
  refine c_region ?_
  refine s_memN (m_box BX_ LEN_) APP_ rfl ?_
  refine s_memN (m_alloc al_22 LEN_) APP_ rfl ?_
  refine s_nil ?_
  refine S_ ?_
  refine c_region ?_
  refine s_memN (m_alloc al_22 LEN_) APP_ rfl ?_
  refine s_nil ?_
  refine S_ ?_
  refine c_region ?_
  refine s_val (v_moveC rfl) rfl ?_
  refine s_nil ?_
  refine S_ ?_
  refine c_loopC [1, 2, 3, 5] (fun (zz : Nat × List (BitVec 8)) => ⟨21, keepT [1, 2, 3, 5] [.c (.ptr 0 0), .c (.ptr 1 0), .c (.ptr 2 0), .c (.val (.int .i64 (((zz.1 : Nat) : Int))))], [.row true (.a64 (a)), .row true (.a8 (zer8 32)), .row true (.a8 (zz.2))]⟩) (fun j3 => (j3, scBytes_L3 a j3)) (32) (by kernel_rfl) ?_ ?_
  · intro j3 hj3
    try dsimp only
    have hX1 : (scBytes_L3 a j3).length = 32 := by rw [scBytes_L3_len a _]; try omega
    rw [scBytes_L3.eq_2, scBytes_L3_S]
    generalize scBytes_L3 a j3 = X1 at *
    refine S_ ?_
    refine c_region ?_
    refine s_val (v_lssN (b := 32) rfl rfl) rfl ?_
    refine s_nil ?_
    refine S_ ?_
    refine c_region ?_
    refine s_val (v_moveC rfl) rfl ?_
    refine s_val (v_assignC rfl) rfl ?_
    refine s_nil ?_
    refine S_ ?_
    refine c_region ?_
    refine s_val (v_moveC rfl) rfl ?_
    refine s_val (v_moveC rfl) rfl ?_
    refine s_val (v_quoN (b := 8) rfl rfl (by omega) (by omega)) rfl ?_
    refine s_val (v_idxA1 rfl rfl Try.underlying57 sz_40 (by omega)) rfl ?_
    refine s_val (v_load64 rfl rfl row_40 LT_) rfl ?_
    refine s_val (v_moveC rfl) rfl ?_
    refine s_val (v_remN (b := 8) rfl rfl (by omega) (by omega)) rfl ?_
    refine s_val (v_mulN (a := 8) rfl rfl (by omega)) rfl ?_
    refine s_val (v_shr64n rfl rfl) rfl ?_
    refine s_val (v_conv rfl Try.underlying40 Try.underlying5 (w64_8 _)) rfl ?_
    refine s_val (v_idxA1 rfl rfl Try.underlying22 sz_5 (by omega)) rfl ?_
    refine s_store8 rfl rfl rfl sz_5 LT_ SET_ ?_
    refine s_nil ?_
    refine S_ ?_
    refine c_region ?_
    refine s_val (v_addN (b := 1) rfl rfl (by omega)) rfl ?_
    refine s_val (v_moveC rfl) rfl ?_
    refine s_nil ?_
    exact ⟨(j3 + 1, _), by kernel_rfl, rfl⟩
  · try dsimp only
    have hY2 : (scBytes_L3 a 32).length = 32 := by rw [scBytes_L3_len a _]; try omega
    generalize scBytes_L3 a 32 = Y2 at *
    refine S_ ?_
    refine c_region ?_
    refine s_val (v_lssN (a := 32) (b := 32) rfl rfl) rfl ?_
    refine s_nil ?_
    refine S_ ?_
    refine c_region ?_
    refine s_val (v_loadR rfl rfl row_22 sz_22 EQ_ (by decide)) rfl ?_
    refine s_storeR rfl rfl rfl rfl sz_22 EQ_ EQ_ SET_ ?_
    refine s_nil ?_
    refine S_ ?_
    rw [hP.out]
    exact k_1 (r_row rfl rfl row_22 sz_22 EQ_ (by decide)) (by first | kernel_rfl | rfl)
@[simp] theorem scBytes_len (a : List (BitVec 64)) (ha : a.length = 4) : (scBytes a).length = 32 := by
  unfold scBytes
  first | (simp [scBytes_L3_len, *]; done) | (simp [scBytes_L3_len, *]; omega)
attribute [irreducible] scBytes
def scOf_L3_S (b : List (BitVec 8)) (X1 : List (BitVec 64)) (j3 : Nat) : List (BitVec 64) := put X1 (j3 / 8) ((nth X1 (j3 / 8)) ||| (((nth b j3).setWidth 64) <<< (8 * (j3 % 8))))
def scOf_L3 (b : List (BitVec 8)) : Nat → List (BitVec 64)
  | 0 => zer64 4
  | j3 + 1 => scOf_L3_S b (scOf_L3 b j3) j3
@[simp] theorem scOf_L3_len (b : List (BitVec 8)) (j3 : Nat) : (scOf_L3 b j3).length = 4 := by
  induction j3 with
  | zero => first | (simp [scOf_L3, *]; done) | (simp [scOf_L3, *]; omega)
  | succ j3 ih => rw [scOf_L3.eq_2, scOf_L3_S]; first | (simp [ih]; done) | (simp [ih]; omega) | (simp [*]; done) | (simp [*]; omega) | (split <;> first | (simp [ih]; done) | (simp [ih]; omega) | (simp [*]; done))
def scOf (b : List (BitVec 8)) : List (BitVec 64) := (scOf_L3 b 32)
set_option maxRecDepth 100000 in
set_option maxHeartbeats 2000000 in
theorem scOf_ev (b : List (BitVec 8)) (hb : b.length = 32) : Ev Try.prog (.call 34 [.agg (.a8 (b))] []) (.val (.agg (.a64 (scOf b))) []) := by
  have hP : Hid (scOf b = (scOf_L3 b 32)) := ⟨rfl⟩
  refine c_call Try.func34 rfl Try.ntmps34 rfl LEN_ ?_
  refine S_ ?_
  refine c_region ?_
  refine s_memN (m_box BX_ LEN_) APP_ rfl ?_
  refine s_memN (m_alloc al_57 LEN_) APP_ rfl ?_
  refine s_nil ?_
  refine S_ ?_
  refine c_region ?_
  refine s_memN (m_alloc al_57 LEN_) APP_ rfl ?_
  refine s_nil ?_
  refine S_ ?_
  refine c_region ?_
  refine s_val (v_moveC rfl) rfl ?_
  refine s_nil ?_
  refine S_ ?_
  refine c_loopC [1, 2, 3, 5] (fun (zz : Nat × List (BitVec 64)) => ⟨24, keepT [1, 2, 3, 5] [.c (.ptr 0 0), .c (.ptr 1 0), .c (.ptr 2 0), .c (.val (.int .i64 (((zz.1 : Nat) : Int))))], [.row true (.a8 (b)), .row true (.a64 (zer64 4)), .row true (.a64 (zz.2))]⟩) (fun j3 => (j3, scOf_L3 b j3)) (32) (by kernel_rfl) ?_ ?_
  · intro j3 hj3
    try dsimp only
    have hX1 : (scOf_L3 b j3).length = 4 := by rw [scOf_L3_len b _]; try omega
    rw [scOf_L3.eq_2, scOf_L3_S]
    generalize scOf_L3 b j3 = X1 at *
    refine S_ ?_
    refine c_region ?_
    refine s_val (v_lssN (b := 32) rfl rfl) rfl ?_
    refine s_nil ?_
    refine S_ ?_
    refine c_region ?_
    refine s_val (v_moveC rfl) rfl ?_
    refine s_val (v_assignC rfl) rfl ?_
    refine s_nil ?_
    refine S_ ?_
    refine c_draw 14 mixed (by kernel_rfl) rfl rfl rfl ?_
    refine h_val (v_moveC rfl) rfl ?_
    refine h_val (v_quoN (b := 8) rfl rfl (by omega) (by omega)) rfl ?_
    refine h_val (v_idxA1 rfl rfl Try.underlying57 sz_40 (by omega)) rfl ?_
    refine h_val (v_load64 rfl rfl row_40 LT_) rfl ?_
    refine h_val (v_moveC rfl) rfl ?_
    refine h_val (v_idxA1 rfl rfl Try.underlying22 sz_5 (by omega)) rfl ?_
    refine h_val (v_load8 rfl rfl row_5 LT_) rfl ?_
    refine h_val (v_conv rfl Try.underlying5 Try.underlying40 (w8_64 _)) rfl ?_
    refine h_val (v_moveC rfl) rfl ?_
    refine h_val (v_remN (b := 8) rfl rfl (by omega) (by omega)) rfl ?_
    refine h_val (v_mulN (a := 8) rfl rfl (by omega)) rfl ?_
    refine h_val (v_shl64n rfl rfl) rfl ?_
    refine h_val (v_or64 rfl rfl) rfl ?_
    refine h_val (v_idxA1 rfl rfl Try.underlying57 sz_40 (by omega)) rfl ?_
    refine h_nil ?_
    refine s_store64 rfl rfl rfl sz_40 LT_ SET_ ?_
    refine s_nil ?_
    refine S_ ?_
    refine c_region ?_
    refine s_val (v_addN (b := 1) rfl rfl (by omega)) rfl ?_
    refine s_val (v_moveC rfl) rfl ?_
    refine s_nil ?_
    exact ⟨(j3 + 1, _), by kernel_rfl, rfl⟩
  · try dsimp only
    have hY2 : (scOf_L3 b 32).length = 4 := by rw [scOf_L3_len b _]; try omega
    generalize scOf_L3 b 32 = Y2 at *
    refine S_ ?_
    refine c_region ?_
    refine s_val (v_lssN (a := 32) (b := 32) rfl rfl) rfl ?_
    refine s_nil ?_
    refine S_ ?_
    refine c_region ?_
    refine s_val (v_loadR rfl rfl row_57 sz_57 EQ_ (by decide)) rfl ?_
    refine s_storeR rfl rfl rfl rfl sz_57 EQ_ EQ_ SET_ ?_
    refine s_nil ?_
    refine S_ ?_
    rw [hP.out]
    exact k_1 (r_row rfl rfl row_57 sz_57 EQ_ (by decide)) (by first | kernel_rfl | rfl)
@[simp] theorem scOf_len (b : List (BitVec 8)) (hb : b.length = 32) : (scOf b).length = 4 := by
  unfold scOf
  first | (simp [scOf_L3_len, *]; done) | (simp [scOf_L3_len, *]; omega)
attribute [irreducible] scOf
end Go.Proofs.Ytcgncafhonlmlaa
namespace Go.Proofs.Ytcgncafhonlmlaa
open Go.RowKit
def scSh_L2_S (X1 : BitVec 64) (X2 : List (BitVec 64)) (j2 : Nat) : BitVec 64 × List (BitVec 64) := ((nth X2 j2) >>> 63, put X2 j2 (((nth X2 j2) <<< 1) ||| X1))
def scSh_L2 (a : List (BitVec 64)) (bit : BitVec 64) : Nat → BitVec 64 × List (BitVec 64)
  | 0 => (bit, a)
  | j2 + 1 => scSh_L2_S (scSh_L2 a bit j2).1 (scSh_L2 a bit j2).2 j2
theorem scSh_L2_len1 (a : List (BitVec 64)) (bit : BitVec 64) (ha : a.length = 4) (j2 : Nat) : (scSh_L2 a bit j2).2.length = 4 := by
  induction j2 with
  | zero => first | (simp (maxDischargeDepth := 9) [scSh_L2, *]; done) | (simp (maxDischargeDepth := 9) [scSh_L2, *]; omega)
  | succ j2 ih => rw [scSh_L2.eq_2, scSh_L2_S]; first | (simp (maxDischargeDepth := 9) [ih]; done) | (simp (maxDischargeDepth := 9) [ih]; omega) | (simp (maxDischargeDepth := 9) [*]; done) | (simp (maxDischargeDepth := 9) [*]; omega) | (split <;> first | (simp (maxDischargeDepth := 9) [ih]; done) | (simp (maxDischargeDepth := 9) [ih]; omega) | (simp (maxDischargeDepth := 9) [*]; done))
def scSh (a : List (BitVec 64)) (bit : BitVec 64) : List (BitVec 64) := ((scSh_L2 a bit 4).2)
set_option maxRecDepth 100000 in
set_option maxHeartbeats 2000000 in
theorem scSh_ev (a : List (BitVec 64)) (bit : BitVec 64) (ha : a.length = 4) (hl : (scLess_L3 (scSh_L2 a bit 4).2 scOrder 4 == 1#64) = true) : Ev Try.prog (.call 85 [.agg (.a64 (a)), .c (.val (U64 bit))] []) (.val (.agg (.a64 (scSh a bit))) []) := by
  have hP : Hid (scSh a bit = ((scSh_L2 a bit 4).2)) := ⟨rfl⟩
  refine c_call Try.func85 rfl Try.ntmps85 rfl LEN_ ?_
  refine S_ ?_
  refine c_region ?_
  refine s_memN (m_box BX_ LEN_) APP_ rfl ?_
  refine s_memN (m_alloc al_57 LEN_) APP_ rfl ?_
  refine s_nil ?_
  refine S_ ?_
  refine c_region ?_
  refine s_val (v_moveC rfl) rfl ?_
  refine s_nil ?_
  refine S_ ?_
  refine c_loopC [1, 2, 4, 9] (fun (zz : Nat × BitVec 64 × List (BitVec 64)) => ⟨47, keepT [1, 2, 4, 9] [.c (.val (U64 (zz.2.1))), .c (.ptr 0 0), .c (.ptr 1 0), .c (.val (.int .i64 (((zz.1 : Nat) : Int))))], [.row true (.a64 (zz.2.2)), .row true (.a64 (zer64 4))]⟩) (fun j2 => (j2, scSh_L2 a bit j2)) (4) (by kernel_rfl) ?_ ?_
  · intro j2 hj2
    try dsimp only
    have hX2 : (scSh_L2 a bit j2).2.length = 4 := by rw [scSh_L2_len1 a bit ha _]; try omega
    rw [scSh_L2.eq_2, scSh_L2_S]
    generalize scSh_L2 a bit j2 = Z3 at *
    obtain ⟨X1, X2⟩ := Z3
    try dsimp only at *
    refine S_ ?_
    refine c_region ?_
    refine s_val (v_lssN (b := 4) rfl rfl) rfl ?_
    refine s_nil ?_
    refine S_ ?_
    refine c_region ?_
    refine s_val (v_moveC rfl) rfl ?_
    refine s_val (v_assignC rfl) rfl ?_
    refine s_nil ?_
    refine S_ ?_
    refine c_stores2 [0] mixed (by kernel_rfl) ?_
    refine x_val (v_moveC rfl) rfl ?_
    refine x_val (v_moveC rfl) rfl ?_
    refine x_val (v_idxA1 rfl rfl Try.underlying57 sz_40 (by omega)) rfl ?_
    first | refine x_val (v_load64 rfl rfl row_40 LT_) rfl ?_ | refine x_early (by kernel_rfl) (v_load64 rfl rfl row_40 LT_) rfl ?_
    refine x_val (v_shl64n (j := 1) rfl rfl) rfl ?_
    refine x_val (v_moveC rfl) rfl ?_
    refine x_val (v_or64 rfl rfl) rfl ?_
    refine x_val (v_moveC rfl) rfl ?_
    refine x_val (v_idxA1 rfl rfl Try.underlying57 sz_40 (by omega)) rfl ?_
    first | refine x_val (v_load64 rfl rfl row_40 LT_) rfl ?_ | refine x_early (by kernel_rfl) (v_load64 rfl rfl row_40 LT_) rfl ?_
    refine x_val (v_shr64n (j := 63) rfl rfl) rfl ?_
    refine x_val (v_idxA1 rfl rfl Try.underlying57 sz_40 (by omega)) rfl ?_
    refine x_store64 rfl rfl rfl rfl sz_40 LT_ SET_ ?_
    refine x_val (v_assignC rfl) rfl ?_
    refine x_nil ?_
    refine S_ ?_
    refine c_region ?_
    refine s_val (v_addN (b := 1) rfl rfl (by omega)) rfl ?_
    refine s_val (v_moveC rfl) rfl ?_
    refine s_nil ?_
    exact ⟨(j2 + 1, _), by kernel_rfl, rfl⟩
  · try dsimp only
    have hY5 : (scSh_L2 a bit 4).2.length = 4 := by rw [scSh_L2_len1 a bit ha _]; try omega
    generalize scSh_L2 a bit 4 = Z6 at *
    obtain ⟨Y4, Y5⟩ := Z6
    try dsimp only at *
    refine S_ ?_
    refine c_region ?_
    refine s_val (v_lssN (a := 4) (b := 4) rfl rfl) rfl ?_
    refine s_nil ?_
    have hQ7 : (scOrder).length = 4 := LQ_
    refine S_ ?_
    refine c_draw 3 mixed (by kernel_rfl) rfl rfl rfl ?_
    refine h_val (v_loadR rfl rfl row_57 sz_57 EQ_ (by decide)) rfl ?_
    refine h_evN (e_callR (bs := []) (scOrder_ev) ok_36 (by kernel_rfl) (by kernel_rfl) rfl VAL_) APP_ rfl ?_
    refine h_evN (e_callR (bs := []) (scLess_ev Y5 scOrder HYP_ HYP_) ok_35 (by kernel_rfl) (by kernel_rfl) rfl VAL_) APP_ rfl ?_
    refine h_nil ?_
    refine s_nil ?_
    refine Q_ ?_
    refine c_condT rfl (hl) ?_
    refine S_ ?_
    refine c_region ?_
    refine s_val (v_loadR rfl rfl row_57 sz_57 EQ_ (by decide)) rfl ?_
    refine s_storeR rfl rfl rfl rfl sz_57 EQ_ EQ_ SET_ ?_
    refine s_nil ?_
    refine S_ ?_
    rw [hP.out]
    exact k_1 (r_row rfl rfl row_57 sz_57 EQ_ (by decide)) (by first | kernel_rfl | rfl)
@[simp] theorem scSh_len (a : List (BitVec 64)) (bit : BitVec 64) (ha : a.length = 4) : (scSh a bit).length = 4 := by
  unfold scSh
  first | (simp (maxDischargeDepth := 9) [scSh_L2_len1, *]; done) | (simp (maxDischargeDepth := 9) [scSh_L2_len1, *]; omega) | (split <;> (simp (maxDischargeDepth := 9) [scSh_L2_len1, *]; done))
attribute [irreducible] scSh
end Go.Proofs.Ytcgncafhonlmlaa
namespace Go.Proofs.Ytcgncafhonlmlaa
open Go.RowKit
def scSf_L2_S (X1 : BitVec 64) (X2 : List (BitVec 64)) (j2 : Nat) : BitVec 64 × List (BitVec 64) := ((nth X2 j2) >>> 63, put X2 j2 (((nth X2 j2) <<< 1) ||| X1))
def scSf_L2 (a : List (BitVec 64)) (bit : BitVec 64) : Nat → BitVec 64 × List (BitVec 64)
  | 0 => (bit, a)
  | j2 + 1 => scSf_L2_S (scSf_L2 a bit j2).1 (scSf_L2 a bit j2).2 j2
theorem scSf_L2_len1 (a : List (BitVec 64)) (bit : BitVec 64) (ha : a.length = 4) (j2 : Nat) : (scSf_L2 a bit j2).2.length = 4 := by
  induction j2 with
  | zero => first | (simp (maxDischargeDepth := 9) [scSf_L2, *]; done) | (simp (maxDischargeDepth := 9) [scSf_L2, *]; omega)
  | succ j2 ih => rw [scSf_L2.eq_2, scSf_L2_S]; first | (simp (maxDischargeDepth := 9) [ih]; done) | (simp (maxDischargeDepth := 9) [ih]; omega) | (simp (maxDischargeDepth := 9) [*]; done) | (simp (maxDischargeDepth := 9) [*]; omega) | (split <;> first | (simp (maxDischargeDepth := 9) [ih]; done) | (simp (maxDischargeDepth := 9) [ih]; omega) | (simp (maxDischargeDepth := 9) [*]; done))
def scSf_L10_S (X9 : BitVec 64) (X10 : List (BitVec 64)) (j10 : Nat) : BitVec 64 × List (BitVec 64) := (subC (nth X10 j10) (nth scOrder j10) X9, put X10 j10 ((nth X10 j10) - (nth scOrder j10) - X9))
def scSf_L10 (Y5 : List (BitVec 64)) : Nat → BitVec 64 × List (BitVec 64)
  | 0 => (0#64, Y5)
  | j10 + 1 => scSf_L10_S (scSf_L10 Y5 j10).1 (scSf_L10 Y5 j10).2 j10
theorem scSf_L10_len1 (Y5 : List (BitVec 64)) (hY5 : Y5.length = 4) (j10 : Nat) : (scSf_L10 Y5 j10).2.length = 4 := by
  induction j10 with
  | zero => first | (simp (maxDischargeDepth := 9) [scSf_L10, *]; done) | (simp (maxDischargeDepth := 9) [scSf_L10, *]; omega)
  | succ j10 ih => rw [scSf_L10.eq_2, scSf_L10_S]; first | (simp (maxDischargeDepth := 9) [ih]; done) | (simp (maxDischargeDepth := 9) [ih]; omega) | (simp (maxDischargeDepth := 9) [scSf_L2_len1, *]; done) | (simp (maxDischargeDepth := 9) [scSf_L2_len1, *]; omega) | (split <;> first | (simp (maxDischargeDepth := 9) [ih]; done) | (simp (maxDischargeDepth := 9) [ih]; omega) | (simp (maxDischargeDepth := 9) [scSf_L2_len1, *]; done))
def scSf (a : List (BitVec 64)) (bit : BitVec 64) : List (BitVec 64) := ((scSf_L10 ((scSf_L2 a bit 4).2) 4).2)
theorem scSf_c (Y : List (BitVec 64)) (j : Nat) : (scSf_L10 Y j).1.toNat ≤ 1 := by
  induction j with
  | zero => show (0#64).toNat ≤ 1; decide
  | succ j ih => rw [scSf_L10.eq_2, scSf_L10_S]; exact subC_le _ _ _
set_option maxRecDepth 100000 in
set_option maxHeartbeats 2000000 in
theorem scSf_ev (a : List (BitVec 64)) (bit : BitVec 64) (ha : a.length = 4) (hl : (scLess_L3 (scSf_L2 a bit 4).2 scOrder 4 == 1#64) = false) : Ev Try.prog (.call 85 [.agg (.a64 (a)), .c (.val (U64 bit))] []) (.val (.agg (.a64 (scSf a bit))) []) := by
  have hP : Hid (scSf a bit = ((scSf_L10 ((scSf_L2 a bit 4).2) 4).2)) := ⟨rfl⟩
  refine c_call Try.func85 rfl Try.ntmps85 rfl LEN_ ?_
  refine S_ ?_
  refine c_region ?_
  refine s_memN (m_box BX_ LEN_) APP_ rfl ?_
  refine s_memN (m_alloc al_57 LEN_) APP_ rfl ?_
  refine s_nil ?_
  refine S_ ?_
  refine c_region ?_
  refine s_val (v_moveC rfl) rfl ?_
  refine s_nil ?_
  refine S_ ?_
  refine c_loopC [1, 2, 4, 9] (fun (zz : Nat × BitVec 64 × List (BitVec 64)) => ⟨47, keepT [1, 2, 4, 9] [.c (.val (U64 (zz.2.1))), .c (.ptr 0 0), .c (.ptr 1 0), .c (.val (.int .i64 (((zz.1 : Nat) : Int))))], [.row true (.a64 (zz.2.2)), .row true (.a64 (zer64 4))]⟩) (fun j2 => (j2, scSf_L2 a bit j2)) (4) (by kernel_rfl) ?_ ?_
  · intro j2 hj2
    try dsimp only
    have hX2 : (scSf_L2 a bit j2).2.length = 4 := by rw [scSf_L2_len1 a bit ha _]; try omega
    rw [scSf_L2.eq_2, scSf_L2_S]
    generalize scSf_L2 a bit j2 = Z3 at *
    obtain ⟨X1, X2⟩ := Z3
    try dsimp only at *
    refine S_ ?_
    refine c_region ?_
    refine s_val (v_lssN (b := 4) rfl rfl) rfl ?_
    refine s_nil ?_
    refine S_ ?_
    refine c_region ?_
    refine s_val (v_moveC rfl) rfl ?_
    refine s_val (v_assignC rfl) rfl ?_
    refine s_nil ?_
    refine S_ ?_
    refine c_stores2 [0] mixed (by kernel_rfl) ?_
    refine x_val (v_moveC rfl) rfl ?_
    refine x_val (v_moveC rfl) rfl ?_
    refine x_val (v_idxA1 rfl rfl Try.underlying57 sz_40 (by omega)) rfl ?_
    first | refine x_val (v_load64 rfl rfl row_40 LT_) rfl ?_ | refine x_early (by kernel_rfl) (v_load64 rfl rfl row_40 LT_) rfl ?_
    refine x_val (v_shl64n (j := 1) rfl rfl) rfl ?_
    refine x_val (v_moveC rfl) rfl ?_
    refine x_val (v_or64 rfl rfl) rfl ?_
    refine x_val (v_moveC rfl) rfl ?_
    refine x_val (v_idxA1 rfl rfl Try.underlying57 sz_40 (by omega)) rfl ?_
    first | refine x_val (v_load64 rfl rfl row_40 LT_) rfl ?_ | refine x_early (by kernel_rfl) (v_load64 rfl rfl row_40 LT_) rfl ?_
    refine x_val (v_shr64n (j := 63) rfl rfl) rfl ?_
    refine x_val (v_idxA1 rfl rfl Try.underlying57 sz_40 (by omega)) rfl ?_
    refine x_store64 rfl rfl rfl rfl sz_40 LT_ SET_ ?_
    refine x_val (v_assignC rfl) rfl ?_
    refine x_nil ?_
    refine S_ ?_
    refine c_region ?_
    refine s_val (v_addN (b := 1) rfl rfl (by omega)) rfl ?_
    refine s_val (v_moveC rfl) rfl ?_
    refine s_nil ?_
    exact ⟨(j2 + 1, _), by kernel_rfl, rfl⟩
  · try dsimp only
    have hY5 : (scSf_L2 a bit 4).2.length = 4 := by rw [scSf_L2_len1 a bit ha _]; try omega
    generalize scSf_L2 a bit 4 = Z6 at *
    obtain ⟨Y4, Y5⟩ := Z6
    try dsimp only at *
    refine S_ ?_
    refine c_region ?_
    refine s_val (v_lssN (a := 4) (b := 4) rfl rfl) rfl ?_
    refine s_nil ?_
    have hQ7 : (scOrder).length = 4 := LQ_
    refine S_ ?_
    refine c_draw 3 mixed (by kernel_rfl) rfl rfl rfl ?_
    refine h_val (v_loadR rfl rfl row_57 sz_57 EQ_ (by decide)) rfl ?_
    refine h_evN (e_callR (bs := []) (scOrder_ev) ok_36 (by kernel_rfl) (by kernel_rfl) rfl VAL_) APP_ rfl ?_
    refine h_evN (e_callR (bs := []) (scLess_ev Y5 scOrder HYP_ HYP_) ok_35 (by kernel_rfl) (by kernel_rfl) rfl VAL_) APP_ rfl ?_
    refine h_nil ?_
    refine s_nil ?_
    refine Q_ ?_
    refine c_condF rfl (hl) ?_
    refine S_ ?_
    refine c_region ?_
    refine s_val (v_assignC rfl) rfl ?_
    refine s_nil ?_
    have hQ8 : (scOrder).length = 4 := LQ_
    refine S_ ?_
    refine c_region ?_
    refine s_evN (e_callR (bs := []) (scOrder_ev) ok_36 (by kernel_rfl) (by kernel_rfl) rfl VAL_) APP_ rfl ?_
    refine s_val (v_moveC rfl) rfl ?_
    refine s_nil ?_
    refine S_ ?_
    refine c_loopC [2, 4, 6, 29, 30] (fun (zz : Nat × BitVec 64 × List (BitVec 64)) => ⟨47, keepT [2, 4, 6, 29, 30] [.c (.ptr 0 0), .c (.ptr 1 0), .c (.val (U64 (zz.2.1))), .agg (.a64 (scOrder)), .c (.val (.int .i64 (((zz.1 : Nat) : Int))))], [.row true (.a64 (zz.2.2)), .row true (.a64 (zer64 4))]⟩) (fun j10 => (j10, scSf_L10 Y5 j10)) (4) (by kernel_rfl) ?_ ?_
    · intro j10 hj10
      try dsimp only
      have hX10 : (scSf_L10 Y5 j10).2.length = 4 := by rw [scSf_L10_len1 Y5 hY5 _]; try omega
      have hc := scSf_c Y5 j10
      rw [scSf_L10.eq_2, scSf_L10_S]
      generalize scSf_L10 Y5 j10 = Z11 at *
      obtain ⟨X9, X10⟩ := Z11
      try dsimp only at *
      refine S_ ?_
      refine c_region ?_
      refine s_val (v_lssN (b := 4) rfl rfl) rfl ?_
      refine s_nil ?_
      refine S_ ?_
      refine c_region ?_
      refine s_val (v_moveC rfl) rfl ?_
      refine s_val (v_ix64 rfl rfl Try.underlying57 sz_40 row_40 (by omega) LT_) rfl ?_
      refine s_val (v_assignC rfl) rfl ?_
      refine s_val (v_assignC rfl) rfl ?_
      refine s_nil ?_
      refine S_ ?_
      refine c_region ?_
      refine s_val (v_moveC rfl) rfl ?_
      refine s_val (v_moveC rfl) rfl ?_
      refine s_val (v_idxA1 rfl rfl Try.underlying57 sz_40 (by omega)) rfl ?_
      refine s_val (v_load64 rfl rfl row_40 LT_) rfl ?_
      refine s_val (v_moveC rfl) rfl ?_
      refine s_val (v_moveC rfl) rfl ?_
      refine s_evN (e_sub ext_74 rfl rfl rfl (rfl : _ = U64 (X9)) (by repeat (first | decide | assumption | apply addC_le | apply subC_le))) APP_ rfl ?_
      refine s_val (v_moveT rfl) rfl ?_
      refine s_val (v_extract rfl rfl) rfl ?_
      refine s_val (v_extract rfl rfl) rfl ?_
      refine s_val (v_idxA1 rfl rfl Try.underlying57 sz_40 (by omega)) rfl ?_
      refine s_store64 rfl rfl rfl sz_40 LT_ SET_ ?_
      refine s_val (v_assignC rfl) rfl ?_
      refine s_nil ?_
      refine S_ ?_
      refine c_region ?_
      refine s_val (v_addN (b := 1) rfl rfl (by omega)) rfl ?_
      refine s_val (v_moveC rfl) rfl ?_
      refine s_nil ?_
      exact ⟨(j10 + 1, _), by kernel_rfl, rfl⟩
    · try dsimp only
      have hY13 : (scSf_L10 Y5 4).2.length = 4 := by rw [scSf_L10_len1 Y5 hY5 _]; try omega
      have hc := scSf_c Y5 4
      generalize scSf_L10 Y5 4 = Z14 at *
      obtain ⟨Y12, Y13⟩ := Z14
      try dsimp only at *
      refine S_ ?_
      refine c_region ?_
      refine s_val (v_lssN (a := 4) (b := 4) rfl rfl) rfl ?_
      refine s_nil ?_
      refine S_ ?_
      refine c_region ?_
      refine s_val (v_loadR rfl rfl row_57 sz_57 EQ_ (by decide)) rfl ?_
      refine s_storeR rfl rfl rfl rfl sz_57 EQ_ EQ_ SET_ ?_
      refine s_nil ?_
      refine S_ ?_
      rw [hP.out]
      exact k_1 (r_row rfl rfl row_57 sz_57 EQ_ (by decide)) (by first | kernel_rfl | rfl)
@[simp] theorem scSf_len (a : List (BitVec 64)) (bit : BitVec 64) (ha : a.length = 4) : (scSf a bit).length = 4 := by
  unfold scSf
  first | (simp (maxDischargeDepth := 9) [scSf_L2_len1, scSf_L10_len1, *]; done) | (simp (maxDischargeDepth := 9) [scSf_L2_len1, scSf_L10_len1, *]; omega) | (split <;> (simp (maxDischargeDepth := 9) [scSf_L2_len1, scSf_L10_len1, *]; done))
attribute [irreducible] scSf
end Go.Proofs.Ytcgncafhonlmlaa
namespace Go.Proofs.Ytcgncafhonlmlaa
open Go.RowKit
def decI (E : Int) : Nat → Int
  | 0 => E
  | n + 1 => decI E n - 1
theorem decI_eq (E : Int) (n : Nat) : decI E n = E - n := by
  induction n with
  | zero => exact (Int.sub_zero E).symm
  | succ n ih => rw [decI, ih]; omega
theorem scShf_L2 (a : List (BitVec 64)) (bit : BitVec 64) (j : Nat) : scSf_L2 a bit j = scSh_L2 a bit j := by
  induction j with
  | zero => rfl
  | succ j ih => rw [scSf_L2, scSh_L2, ih]; rfl
def scD (a : List (BitVec 64)) (bit : BitVec 64) : List (BitVec 64) := (scSh_L2 a bit 4).2
def scShift (a : List (BitVec 64)) (bit : BitVec 64) : List (BitVec 64) := if (scLess_L3 (scD a bit) scOrder 4 == 1#64) = true then scSh a bit else scSf a bit
@[simp] theorem scShift_len (a : List (BitVec 64)) (bit : BitVec 64) (ha : a.length = 4) : (scShift a bit).length = 4 := by
  unfold scShift
  split
  · exact scSh_len a bit ha
  · exact scSf_len a bit ha
theorem scShift_ev (a : List (BitVec 64)) (bit : BitVec 64) (ha : a.length = 4) : Ev Try.prog (.call 85 [.agg (.a64 (a)), .c (.val (U64 bit))] []) (.val (.agg (.a64 (scShift a bit))) []) := by
  unfold scShift scD
  cases h : (scLess_L3 (scSh_L2 a bit 4).2 scOrder 4 == 1#64) with
  | true => exact scSh_ev a bit ha h
  | false => exact scSf_ev a bit ha (by rw [scShf_L2]; exact h)
attribute [irreducible] scShift
end Go.Proofs.Ytcgncafhonlmlaa
namespace Go.Proofs.Ytcgncafhonlmlaa
open Go.RowKit
def scRed_L3_S (b : List (BitVec 8)) (X1 : List (BitVec 64)) (j3 : Nat) : List (BitVec 64) := scShift X1 ((((nth b ((8 * b.length - 1 - j3) / 8)) >>> ((8 * b.length - 1 - j3) % 8)) &&& 1#8).setWidth 64)
def scRed_L3 (b : List (BitVec 8)) : Nat → List (BitVec 64)
  | 0 => zer64 4
  | j3 + 1 => scRed_L3_S b (scRed_L3 b j3) j3
@[simp] theorem scRed_L3_len (b : List (BitVec 8)) (j3 : Nat) : (scRed_L3 b j3).length = 4 := by
  induction j3 with
  | zero => first | (simp [scRed_L3, *]; done) | (simp [scRed_L3, *]; omega)
  | succ j3 ih => rw [scRed_L3.eq_2, scRed_L3_S]; first | (simp [ih]; done) | (simp [ih]; omega) | (simp [*]; done) | (simp [*]; omega) | (split <;> first | (simp [ih]; done) | (simp [ih]; omega) | (simp [*]; done))
def scRed (b : List (BitVec 8)) : List (BitVec 64) := (scRed_L3 b (8 * b.length))
set_option maxRecDepth 100000 in
set_option maxHeartbeats 2000000 in
theorem scRed_ev (b : List (BitVec 8)) (n : Nat) (cap : Nat) (hb : b.length = n) (hn : n ≤ 1099511627776) : Ev Try.prog (.call 43 [.c (.sl 0 0 n cap 1)] [.row false (.a8 (b))]) (.val (.agg (.a64 (scRed b))) [.row false (.a8 (b))]) := by
  have hP : Hid (scRed b = (scRed_L3 b (8 * b.length))) := ⟨rfl⟩
  subst hb
  refine c_call Try.func43 rfl Try.ntmps43 rfl LEN_ ?_
  refine S_ ?_
  refine c_region ?_
  refine s_memN (m_alloc al_57 LEN_) APP_ rfl ?_
  refine s_nil ?_
  refine S_ ?_
  refine c_region ?_
  refine s_memN (m_alloc al_57 LEN_) APP_ rfl ?_
  refine s_nil ?_
  refine S_ ?_
  refine c_region ?_
  refine s_val (v_moveC rfl) rfl ?_
  refine s_val (v_lenS rfl Try.underlying23) rfl ?_
  refine s_val (v_mulN (a := 8) rfl rfl (by omega)) rfl ?_
  first
    | refine s_val (v_subN (b := 1) rfl rfl (by omega) (by omega)) rfl ?_
    | refine s_val (v_subI rfl rfl (by omega)) rfl ?_
  refine s_val (v_assignC rfl) rfl ?_
  refine s_nil ?_
  refine S_ ?_
  refine c_loopC [0, 2, 3, 4] (fun (zz : Nat × List (BitVec 64)) => ⟨26, keepT [0, 2, 3, 4] [.c (.sl 0 0 b.length cap 1), .c (.ptr 1 0), .c (.ptr 2 0), .c (.val (.int .i64 (decI (((8 * b.length : Nat) : Int) - ((1 : Nat) : Int)) zz.1)))], [.row false (.a8 (b)), .row true (.a64 (zer64 4)), .row true (.a64 (zz.2))]⟩) (fun j3 => (j3, scRed_L3 b j3)) (8 * b.length) (by kernel_rfl) ?_ ?_
  · intro j3 hj3
    try dsimp only
    have hX1 : (scRed_L3 b j3).length = 4 := by rw [scRed_L3_len b _]; try omega
    rw [scRed_L3.eq_2, scRed_L3_S]
    generalize scRed_L3 b j3 = X1 at *
    rw [show decI (((8 * b.length : Nat) : Int) - ((1 : Nat) : Int)) j3 = ((8 * b.length - 1 - j3 : Nat) : Int) from by rw [decI_eq]; omega]
    refine S_ ?_
    refine c_region ?_
    refine s_val (v_moveC rfl) rfl ?_
    refine s_val (v_geqN (b := 0) rfl rfl) rfl ?_
    refine s_nil ?_
    have hQ2 : (scShift X1 ((((nth b ((8 * b.length - 1 - j3) / 8)) >>> ((8 * b.length - 1 - j3) % 8)) &&& 1#8).setWidth 64)).length = 4 := LQ_
    refine S_ ?_
    refine c_draw 12 mixed (by kernel_rfl) rfl rfl rfl ?_
    refine h_val (v_loadR rfl rfl row_57 sz_57 EQ_ (by decide)) rfl ?_
    refine h_val (v_moveC rfl) rfl ?_
    refine h_val (v_moveC rfl) rfl ?_
    refine h_val (v_quoN (b := 8) rfl rfl (by omega) (by omega)) rfl ?_
    refine h_val (v_idxS1 rfl rfl Try.underlying23 sz_5 (by omega)) rfl ?_
    refine h_val (v_load8 rfl rfl row_5 LT_) rfl ?_
    refine h_val (v_moveC rfl) rfl ?_
    refine h_val (v_remN (b := 8) rfl rfl (by omega) (by omega)) rfl ?_
    refine h_val (v_shr8n rfl rfl) rfl ?_
    refine h_val (v_and8 (b := 1#8) rfl rfl) rfl ?_
    refine h_val (v_conv rfl Try.underlying5 Try.underlying40 (w8_64 _)) rfl ?_
    refine h_evN (e_callR (bs := []) (scShift_ev X1 ((((nth b ((8 * b.length - 1 - j3) / 8)) >>> ((8 * b.length - 1 - j3) % 8)) &&& 1#8).setWidth 64) HYP_) ok_85 (by kernel_rfl) (by kernel_rfl) rfl VAL_) APP_ rfl ?_
    refine h_nil ?_
    refine s_storeR rfl rfl rfl rfl sz_57 EQ_ EQ_ SET_ ?_
    refine s_nil ?_
    refine S_ ?_
    refine c_region ?_
    refine s_val (v_moveC rfl) rfl ?_
    first
      | refine s_val (v_subN (b := 1) rfl rfl (by omega) (by omega)) rfl ?_
      | refine s_val (v_subI rfl rfl (by omega)) rfl ?_
    refine s_val (v_assignC rfl) rfl ?_
    refine s_nil ?_
    refine ⟨(j3 + 1, _), (by
      dsimp only
      rw [show decI (((8 * b.length : Nat) : Int) - ((1 : Nat) : Int)) (j3 + 1) = ((8 * b.length - 1 - j3 : Nat) : Int) - 1 from by rw [decI_eq]; omega]
      kernel_rfl), rfl⟩
  · try dsimp only
    have hY3 : (scRed_L3 b (8 * b.length)).length = 4 := by rw [scRed_L3_len b _]; try omega
    generalize scRed_L3 b (8 * b.length) = Y3 at *
    rw [show decI (((8 * b.length : Nat) : Int) - ((1 : Nat) : Int)) (8 * b.length) = -1 from by rw [decI_eq]; omega]
    refine S_ ?_
    refine c_region ?_
    refine s_val (v_moveC rfl) rfl ?_
    refine s_val (v_geqI rfl rfl) rfl ?_
    refine s_nil ?_
    refine S_ ?_
    refine c_region ?_
    refine s_val (v_loadR rfl rfl row_57 sz_57 EQ_ (by decide)) rfl ?_
    refine s_storeR rfl rfl rfl rfl sz_57 EQ_ EQ_ SET_ ?_
    refine s_nil ?_
    refine S_ ?_
    rw [hP.out]
    exact k_1 (r_row rfl rfl row_57 sz_57 EQ_ (by decide)) (by first | kernel_rfl | rfl)
@[simp] theorem scRed_len (b : List (BitVec 8)) : (scRed b).length = 4 := by
  unfold scRed
  first | (simp [scRed_L3_len, *]; done) | (simp [scRed_L3_len, *]; omega)
attribute [irreducible] scRed
end Go.Proofs.Ytcgncafhonlmlaa
namespace Go.Proofs.Ytcgncafhonlmlaa
open Go.RowKit
def scMulAdd (a : List (BitVec 8)) (b : List (BitVec 8)) (c : List (BitVec 8)) : List (BitVec 8) := scBytes (scRed (scProd (scOf a) (scOf b) (scOf c)))
set_option maxRecDepth 100000 in
set_option maxHeartbeats 2000000 in
theorem scMulAdd_ev (a : List (BitVec 8)) (b : List (BitVec 8)) (c : List (BitVec 8)) (ha : a.length = 32) (hb : b.length = 32) (hc : c.length = 32) : Ev Try.prog (.call 20 [.agg (.a8 (a)), .agg (.a8 (b)), .agg (.a8 (c))] []) (.val (.agg (.a8 (scMulAdd a b c))) []) := by
  have hP : Hid (scMulAdd a b c = scBytes (scRed (scProd (scOf a) (scOf b) (scOf c)))) := ⟨rfl⟩
  refine c_call Try.func20 rfl Try.ntmps20 rfl LEN_ ?_
  refine S_ ?_
  refine c_region ?_
  refine s_memN (m_box BX_ LEN_) APP_ rfl ?_
  refine s_memN (m_box BX_ LEN_) APP_ rfl ?_
  refine s_memN (m_box BX_ LEN_) APP_ rfl ?_
  refine s_memN (m_alloc al_22 LEN_) APP_ rfl ?_
  refine s_nil ?_
  have hQ1 : (scOf a).length = 4 := LQ_
  have hQ2 : (scOf b).length = 4 := LQ_
  have hQ3 : (scOf c).length = 4 := LQ_
  have hQ4 : (scProd (scOf a) (scOf b) (scOf c)).length = 72 := LQ_
  have hQ5 : (scRed (scProd (scOf a) (scOf b) (scOf c))).length = 4 := LQ_
  have hQ6 : (scBytes (scRed (scProd (scOf a) (scOf b) (scOf c)))).length = 32 := LQ_
  refine S_ ?_
  refine c_draw 9 mixed (by kernel_rfl) rfl rfl rfl ?_
  refine h_val (v_loadR rfl rfl row_22 sz_22 EQ_ (by decide)) rfl ?_
  refine h_evN (e_callR (bs := []) (scOf_ev a HYP_) ok_34 (by kernel_rfl) (by kernel_rfl) rfl VAL_) APP_ rfl ?_
  refine h_val (v_loadR rfl rfl row_22 sz_22 EQ_ (by decide)) rfl ?_
  refine h_evN (e_callR (bs := []) (scOf_ev b HYP_) ok_34 (by kernel_rfl) (by kernel_rfl) rfl VAL_) APP_ rfl ?_
  refine h_val (v_loadR rfl rfl row_22 sz_22 EQ_ (by decide)) rfl ?_
  refine h_evN (e_callR (bs := []) (scOf_ev c HYP_) ok_34 (by kernel_rfl) (by kernel_rfl) rfl VAL_) APP_ rfl ?_
  refine h_evN (e_callR (bs := []) (scProd_ev (scOf a) (scOf b) (scOf c) HYP_ HYP_ HYP_) ok_44 (by kernel_rfl) (by kernel_rfl) rfl VAL_) APP_ rfl ?_
  refine h_evN (e_callR (bs := [4]) (scRed_ev (scProd (scOf a) (scOf b) (scOf c)) 72 72 HYP_ HYP_) ok_43 (by kernel_rfl) (by kernel_rfl) rfl VAL_) APP_ rfl ?_
  refine h_evN (e_callR (bs := []) (scBytes_ev (scRed (scProd (scOf a) (scOf b) (scOf c))) HYP_) ok_45 (by kernel_rfl) (by kernel_rfl) rfl VAL_) APP_ rfl ?_
  refine h_nil ?_
  refine s_storeR rfl rfl rfl rfl sz_22 EQ_ EQ_ SET_ ?_
  refine s_nil ?_
  refine S_ ?_
  rw [hP.out]
  exact k_1 (r_row rfl rfl row_22 sz_22 EQ_ (by decide)) (by first | kernel_rfl | rfl)
@[simp] theorem scMulAdd_len (a : List (BitVec 8)) (b : List (BitVec 8)) (c : List (BitVec 8)) (ha : a.length = 32) (hb : b.length = 32) (hc : c.length = 32) : (scMulAdd a b c).length = 32 := by
  unfold scMulAdd
  first | (simp (maxDischargeDepth := 9) [*]; done) | (simp (maxDischargeDepth := 9) [*]; omega) | (split <;> (simp (maxDischargeDepth := 9) [*]; done))
attribute [irreducible] scMulAdd
set_option maxRecDepth 100000 in
set_option maxHeartbeats 2000000 in
theorem scBelow_ev (n : List (BitVec 8)) (hn : n.length = 32) : Ev Try.prog (.call 17 [.agg (.a8 (n))] []) (.val (.c (.val (.bool ((scLess_L3 (scOf n) scOrder 4) == 1#64)))) []) := by
  refine c_call Try.func17 rfl Try.ntmps17 rfl LEN_ ?_
  refine S_ ?_
  refine c_region ?_
  refine s_memN (m_box BX_ LEN_) APP_ rfl ?_
  refine s_val (v_assignC rfl) rfl ?_
  refine s_nil ?_
  have hQ1 : (scOf n).length = 4 := LQ_
  have hQ2 : (scOrder).length = 4 := LQ_
  refine S_ ?_
  refine c_region ?_
  refine s_val (v_loadR rfl rfl row_22 sz_22 EQ_ (by decide)) rfl ?_
  refine s_evN (e_callR (bs := []) (scOf_ev n HYP_) ok_34 (by kernel_rfl) (by kernel_rfl) rfl VAL_) APP_ rfl ?_
  refine s_evN (e_callR (bs := []) (scOrder_ev) ok_36 (by kernel_rfl) (by kernel_rfl) rfl VAL_) APP_ rfl ?_
  refine s_evN (e_callR (bs := []) (scLess_ev (scOf n) scOrder HYP_ HYP_) ok_35 (by kernel_rfl) (by kernel_rfl) rfl VAL_) APP_ rfl ?_
  refine s_val (v_assignC rfl) rfl ?_
  refine s_nil ?_
  refine S_ ?_
  exact k_1 (by first | exact r_tmpC rfl | exact r_tmpA rfl) (by first | kernel_rfl | rfl)
def scModT0 (b : List (BitVec 8)) : List (BitVec 8) := scBytes (scRed b)
set_option maxRecDepth 100000 in
set_option maxHeartbeats 2000000 in
theorem scModT_ev (b : List (BitVec 8)) (n : Nat) (cap : Nat) (hb : b.length = n) (hn : n ≤ 1099511627776) (hN : n ≤ 64) : Ev Try.prog (.call 51 [.c (.sl 0 0 n cap 1)] [.row false (.a8 (b))]) (.val (.tup [.agg (.a8 (scModT0 b)), .c (.val (.int .i64 ((0 : Nat) : Int)))]) [.row false (.a8 (b))]) := by
  have hP_scModT0 : Hid (scModT0 b = scBytes (scRed b)) := ⟨rfl⟩
  subst hb
  refine c_call Try.func51 rfl Try.ntmps51 rfl LEN_ ?_
  refine S_ ?_
  refine c_region ?_
  refine s_memN (m_alloc al_22 LEN_) APP_ rfl ?_
  refine s_val (v_assignC rfl) rfl ?_
  refine s_nil ?_
  refine S_ ?_
  refine c_region ?_
  refine s_val (v_moveC rfl) rfl ?_
  refine s_val (v_lenS rfl Try.underlying23) rfl ?_
  refine s_val (v_gtrN (b := 64) rfl rfl) rfl ?_
  refine s_nil ?_
  have hQ1 : (scRed b).length = 4 := LQ_
  have hQ2 : (scBytes (scRed b)).length = 32 := LQ_
  refine S_ ?_
  refine c_region ?_
  refine s_val (v_moveC rfl) rfl ?_
  refine s_evN (e_callR (bs := [0]) (scRed_ev b b.length cap HYP_ HYP_) ok_43 (by kernel_rfl) (by kernel_rfl) rfl VAL_) APP_ rfl ?_
  refine s_evN (e_callR (bs := []) (scBytes_ev (scRed b) HYP_) ok_45 (by kernel_rfl) (by kernel_rfl) rfl VAL_) APP_ rfl ?_
  refine s_storeR rfl rfl rfl rfl sz_22 EQ_ EQ_ SET_ ?_
  refine s_val (v_assignC rfl) rfl ?_
  refine s_nil ?_
  refine S_ ?_
  rw [hP_scModT0.out]
  exact k_2 (r_row rfl rfl row_22 sz_22 EQ_ (by decide)) (by first | exact r_tmpC rfl | exact r_tmpA rfl) (by first | kernel_rfl | rfl)
@[simp] theorem scModT0_len (b : List (BitVec 8)) : (scModT0 b).length = 32 := by
  unfold scModT0
  first | (simp [*]; done) | (simp [*]; omega)
attribute [irreducible] scModT0
def scModF0  : List (BitVec 8) := zer8 32
@[simp] theorem scModF0_len  : (scModF0).length = 32 := by
  unfold scModF0
  first | (simp [*]; done) | (simp [*]; omega)
attribute [irreducible] scModF0
end Go.Proofs.Ytcgncafhonlmlaa
namespace Go.Proofs.Ytcgncafhonlmlaa
open Go.RowKit
theorem extNth {n : Nat} {a b : List (BitVec n)} (hl : a.length = b.length) (h : ∀ i, i < a.length → nth a i = nth b i) : a = b := by
  refine List.ext_getElem hl fun i h1 h2 => ?_
  have := h i h1
  rwa [nth_eq a i h1, nth_eq b i h2] at this
end Go.Proofs.Ytcgncafhonlmlaa
namespace Go.Proofs.Ytcgncafhonlmlaa
open Go.RowKit
def leS (b : List (BitVec 8)) : Nat → Nat
  | 0 => 0
  | n + 1 => leS b n + (nth b n).toNat * 256 ^ n
theorem leS_lt (b : List (BitVec 8)) (n : Nat) : leS b n < 256 ^ n := by
  induction n with
  | zero => exact Nat.one_pos
  | succ n ih =>
    rw [leS, Nat.pow_succ]
    have h := (nth b n).isLt
    have : (nth b n).toNat * 256 ^ n ≤ 255 * 256 ^ n := Nat.mul_le_mul_right _ (by omega)
    omega
theorem leS_digit (b : List (BitVec 8)) (n i : Nat) (h : i < n) : leS b n / 256 ^ i % 256 = (nth b i).toNat := by
  induction n with
  | zero => omega
  | succ n ih =>
    rw [leS]
    have hp : 0 < 256 ^ i := Nat.pow_pos (by decide)
    by_cases e : i = n
    · subst e
      rw [Nat.add_mul_div_right _ _ hp, Nat.div_eq_of_lt (leS_lt b i), Nat.zero_add, Nat.mod_eq_of_lt (nth b i).isLt]
    · obtain ⟨k, hk⟩ : ∃ k, n = i + (k + 1) := ⟨n - i - 1, by omega⟩
      rw [← ih (by omega), hk, Nat.pow_add, Nat.pow_succ, show (nth b (i + (k + 1))).toNat * (256 ^ i * (256 ^ k * 256)) = ((nth b (i + (k + 1))).toNat * 256 ^ k * 256) * 256 ^ i from by grobner, Nat.add_mul_div_right _ _ hp, Nat.add_mul_mod_self_right]
def toB (n : Nat) : List (BitVec 8) := (List.range 32).map fun i => BitVec.ofNat 8 (n / 256 ^ i)
@[simp] theorem toB_len (n : Nat) : (toB n).length = 32 := by simp [toB]
theorem toB_nth (n i : Nat) (h : i < 32) : nth (toB n) i = BitVec.ofNat 8 (n / 256 ^ i) := by
  rw [nth_eq _ _ (by rw [toB_len]; exact h)]
  simp [toB]
theorem leS_toB (n k : Nat) (h : k ≤ 32) : leS (toB n) k = n % 256 ^ k := by
  induction k with
  | zero => rw [leS, Nat.pow_zero, Nat.mod_one]
  | succ k ih =>
    have e := @Nat.mod_mul (256 ^ k) 256 n
    rw [leS, ih (by omega), toB_nth _ _ (by omega), BitVec.toNat_ofNat, show (256 : Nat) ^ (k + 1) = 256 ^ k * 256 from Nat.pow_succ .., e, Nat.mul_comm (256 ^ k)]
theorem toB_leS {b : List (BitVec 8)} (h : b.length = 32) : toB (leS b 32) = b := by
  refine extNth (by rw [toB_len, h]) fun i hi => ?_
  rw [toB_len] at hi
  rw [toB_nth _ _ hi]
  apply BitVec.eq_of_toNat_eq
  rw [BitVec.toNat_ofNat]
  exact leS_digit b 32 i hi
def wvb (b : List (BitVec 8)) (t : Nat) : Nat → Nat
  | 0 => 0
  | m + 1 => wvb b t m + (nth b (8 * t + m)).toNat * 256 ^ m
theorem wvb_lt (b : List (BitVec 8)) (t m : Nat) : wvb b t m < 256 ^ m := by
  induction m with
  | zero => exact Nat.one_pos
  | succ m ih =>
    rw [wvb, Nat.pow_succ]
    have h := (nth b (8 * t + m)).isLt
    have : (nth b (8 * t + m)).toNat * 256 ^ m ≤ 255 * 256 ^ m := Nat.mul_le_mul_right _ (by omega)
    omega
theorem leS_wvb (b : List (BitVec 8)) : leS b 32 = wvb b 0 8 + wvb b 1 8 * 18446744073709551616 + wvb b 2 8 * 340282366920938463463374607431768211456 + wvb b 3 8 * 6277101735386680763835789423207666416102355444464034512896 := by
  simp only [leS, wvb, Nat.mul_zero, Nat.zero_add, Nat.reduceMul, Nat.reduceAdd, Nat.reducePow]
  omega
theorem or_byte (x : BitVec 64) (b : BitVec 8) (k : Nat) (hk : k < 8) (hx : x.toNat < 256 ^ k) : (x ||| (b.setWidth 64 <<< (8 * k))).toNat = x.toNat + b.toNat * 256 ^ k := by
  have e : (256 : Nat) ^ k = 2 ^ (8 * k) := by rw [Nat.pow_mul]
  rw [e] at hx ⊢
  have hb := b.isLt
  have hp : b.toNat * 2 ^ (8 * k) < 2 ^ 64 := by
    have h1 : b.toNat * 2 ^ (8 * k) < 2 ^ 8 * 2 ^ (8 * k) := Nat.mul_lt_mul_of_pos_right hb (Nat.pow_pos (by decide))
    rw [← Nat.pow_add] at h1
    exact Nat.lt_of_lt_of_le h1 (Nat.pow_le_pow_right (by decide) (by omega))
  rw [BitVec.toNat_or, BitVec.toNat_shiftLeft, BitVec.toNat_setWidth, Nat.mod_eq_of_lt (show b.toNat < 2 ^ 64 by omega), Nat.shiftLeft_eq, Nat.mod_eq_of_lt hp, Nat.or_comm, ← Nat.shiftLeft_eq, ← Nat.shiftLeft_add_eq_or_of_lt hx, Nat.shiftLeft_eq, Nat.add_comm]
theorem mask_toNat (x : BitVec 64) : (x &&& 2251799813685247#64).toNat = x.toNat % 2251799813685248 := by
  rw [BitVec.toNat_and]
  exact Nat.and_two_pow_sub_one_eq_mod x.toNat 51
end Go.Proofs.Ytcgncafhonlmlaa
namespace Go.Proofs.Ytcgncafhonlmlaa
def Pri (p : Nat) : Prop := 1 < p ∧ ∀ m, m ∣ p → m = 1 ∨ m = p
theorem Pri.pos {p : Nat} (h : Pri p) : 0 < p := by have := h.1; omega
theorem Pri.cop {p a : Nat} (h : Pri p) (ha : ¬ p ∣ a) : Nat.gcd p a = 1 := by
  rcases h.2 _ (Nat.gcd_dvd_left p a) with h1 | h1
  · exact h1
  · exact absurd (h1 ▸ Nat.gcd_dvd_right p a) ha
theorem Pri.euclid {p a b : Nat} (h : Pri p) (hd : p ∣ a * b) : p ∣ a ∨ p ∣ b := by
  by_cases ha : p ∣ a
  · exact .inl ha
  · exact .inr (Nat.Coprime.dvd_of_dvd_mul_left (h.cop ha) hd)
def cho : Nat → Nat → Nat
  | _, 0 => 1
  | 0, _ + 1 => 0
  | n + 1, k + 1 => cho n k + cho n (k + 1)
theorem cho_zero (n : Nat) : cho n 0 = 1 := by cases n <;> rfl
theorem cho_big : ∀ n k : Nat, n < k → cho n k = 0 := by
  intro n
  induction n with
  | zero => intro k hk; cases k with
    | zero => omega
    | succ k => rfl
  | succ n ih => intro k hk; cases k with
    | zero => omega
    | succ k => rw [cho, ih k (by omega), ih (k + 1) (by omega)]
theorem cho_self (n : Nat) : cho n n = 1 := by
  induction n with
  | zero => rfl
  | succ n ih => rw [cho, ih, cho_big n (n + 1) (by omega)]
theorem cho_mul : ∀ n k : Nat, (k + 1) * cho (n + 1) (k + 1) = (n + 1) * cho n k := by
  intro n
  induction n with
  | zero =>
    intro k
    cases k with
    | zero => rfl
    | succ k => simp [cho]
  | succ n ih =>
    intro k
    cases k with
    | zero =>
      have h := ih 0
      rw [cho_zero] at h ⊢
      show (0 + 1) * (cho (n + 1) 0 + cho (n + 1) (0 + 1)) = _
      rw [cho_zero]
      omega
    | succ k =>
      have h1 := ih k
      have h2 := ih (k + 1)
      rw [cho, Nat.mul_add, h2]
      have h3 : cho (n + 1) (k + 1) = cho n k + cho n (k + 1) := rfl
      rw [h3] at h1 ⊢
      grind
def csum (a n : Nat) : Nat → Nat
  | 0 => 0
  | m + 1 => csum a n m + cho n m * a ^ m
theorem csum_step (a n : Nat) : ∀ m, csum a (n + 1) (m + 1) = csum a n (m + 1) + a * csum a n m := by
  intro m
  induction m with
  | zero => simp [csum, cho_zero]
  | succ m ih =>
    rw [csum, ih]
    show _ = csum a n (m + 1) + cho n (m + 1) * a ^ (m + 1) + a * (csum a n m + cho n m * a ^ m)
    rw [cho, Nat.pow_succ]
    grind
theorem binom (a n : Nat) : (a + 1) ^ n = csum a n (n + 1) := by
  induction n with
  | zero => rfl
  | succ n ih =>
    rw [Nat.pow_succ, ih, csum_step]
    rw [show csum a n (n + 1 + 1) = csum a n (n + 1) + cho n (n + 1) * a ^ (n + 1) from rfl, cho_big n (n + 1) (by omega)]
    grind
theorem cho_dvd {p : Nat} (h : Pri p) (k : Nat) (h1 : 0 < k) (h2 : k < p) : p ∣ cho p k := by
  obtain ⟨q, rfl⟩ : ∃ q, p = q + 1 := ⟨p - 1, by omega⟩
  obtain ⟨j, rfl⟩ : ∃ j, k = j + 1 := ⟨k - 1, by omega⟩
  have := cho_mul q j
  rcases h.euclid (a := j + 1) (b := cho (q + 1) (j + 1)) (by rw [this]; exact Nat.dvd_mul_right _ _) with h3 | h3
  · have := Nat.le_of_dvd (by omega) h3; omega
  · exact h3
theorem csum_mod {p : Nat} (h : Pri p) (a : Nat) : ∀ m, m < p → csum a p (m + 1) % p = 1 % p := by
  intro m
  induction m with
  | zero => intro _; simp [csum, cho_zero]
  | succ m ih =>
    intro hm
    obtain ⟨c, hc⟩ := cho_dvd h (m + 1) (by omega) hm
    rw [csum, hc, Nat.mul_assoc, Nat.add_mul_mod_self_left, ih (by omega)]
theorem fermat {p : Nat} (h : Pri p) (a : Nat) : a ^ p % p = a % p := by
  induction a with
  | zero => rw [Nat.zero_pow h.pos]
  | succ a ih =>
    obtain ⟨q, rfl⟩ : ∃ q, p = q + 1 := ⟨p - 1, by have := h.pos; omega⟩
    rw [binom, csum, cho_self, Nat.one_mul, Nat.add_mod, csum_mod h a q (by omega), ih, ← Nat.add_mod, Nat.add_comm]
theorem dvd_of_mod {p x y : Nat} (h : x % p = y % p) : p ∣ x - y := Nat.dvd_of_mod_eq_zero (Nat.sub_mod_eq_zero_of_mod_eq h)
theorem mod_of_dvd {p x y : Nat} (h : p ∣ x - y) (hl : y ≤ x) : x % p = y % p := by
  obtain ⟨c, hc⟩ := h
  rw [show x = y + p * c from by omega, Nat.add_mul_mod_self_left]
theorem Pri.cancel {p a x y : Nat} (h : Pri p) (ha : ¬ p ∣ a) (he : a * x % p = a * y % p) : x % p = y % p := by
  have key : ∀ x y : Nat, y ≤ x → a * x % p = a * y % p → x % p = y % p := fun x y hl he => by
    have := dvd_of_mod he
    rw [← Nat.mul_sub] at this
    rcases h.euclid this with h1 | h1
    · exact absurd h1 ha
    · exact mod_of_dvd h1 hl
  rcases Nat.le_total y x with hl | hl
  · exact key x y hl he
  · exact (key y x hl he.symm).symm
theorem fermat1 {p a : Nat} (h : Pri p) (ha : ¬ p ∣ a) : a ^ (p - 1) % p = 1 := by
  have h1 := fermat h a
  obtain ⟨q, rfl⟩ : ∃ q, p = q + 1 := ⟨p - 1, by have := h.pos; omega⟩
  rw [Nat.add_sub_cancel]
  have h2 : a * a ^ q % (q + 1) = a * 1 % (q + 1) := by rw [← Nat.pow_succ', h1, Nat.mul_one]
  have h3 := h.cancel ha h2
  rw [h3, Nat.mod_eq_of_lt h.1]
theorem pow_mod_one {n a k : Nat} (m : Nat) (hn : 1 < n) (h : a ^ k % n = 1) : a ^ (k * m) % n = 1 := by
  rw [Nat.pow_mul, Nat.pow_mod, h, Nat.one_pow, Nat.mod_eq_of_lt hn]
theorem pow_gcd {n a : Nat} (hn : 1 < n) : ∀ j k : Nat, a ^ j % n = 1 → a ^ k % n = 1 → a ^ Nat.gcd j k % n = 1 := by
  intro j
  induction j using Nat.strongRecOn with
  | _ j ih =>
    intro k hj hk
    cases j with
    | zero => rwa [Nat.gcd_zero_left]
    | succ j =>
      rw [Nat.gcd_succ]
      refine ih (k % (j + 1)) (Nat.mod_lt _ (by omega)) (j + 1) ?_ hj
      have h1 : a ^ k = a ^ ((j + 1) * (k / (j + 1))) * a ^ (k % (j + 1)) := by rw [← Nat.pow_add, Nat.div_add_mod]
      rw [h1, Nat.mul_mod, pow_mod_one _ hn hj, Nat.one_mul, Nat.mod_mod] at hk
      exact hk
theorem exists_pri : ∀ n : Nat, 1 < n → ∃ r, Pri r ∧ r ∣ n := by
  intro n
  induction n using Nat.strongRecOn with
  | _ n ih =>
    intro hn
    by_cases h : Pri n
    · exact ⟨n, h, Nat.dvd_refl n⟩
    · have : ∃ m, m ∣ n ∧ m ≠ 1 ∧ m ≠ n := by
        refine Classical.byContradiction fun hc => h ⟨hn, fun m hm => ?_⟩
        refine Classical.byContradiction fun hc2 => hc ⟨m, hm, fun e => hc2 (.inl e), fun e => hc2 (.inr e)⟩
      obtain ⟨m, h1, h2, h3⟩ := this
      have hm0 : 0 < m := Nat.pos_of_dvd_of_pos h1 (by omega)
      have hml : m ≤ n := Nat.le_of_dvd (by omega) h1
      obtain ⟨r, hr, hrm⟩ := ih m (by omega) (by omega)
      exact ⟨r, hr, Nat.dvd_trans hrm h1⟩
theorem pri_of_no {n : Nat} (hn : 1 < n) (h : ∀ r, Pri r → r ∣ n → n < r * r) : Pri n := by
  refine ⟨hn, fun m hm => ?_⟩
  refine Classical.byContradiction fun hc => ?_
  obtain ⟨k, hk⟩ := hm
  have hm1 : m ≠ 1 := fun e => hc (.inl e)
  have hmn : m ≠ n := fun e => hc (.inr e)
  have hm0 : m ≠ 0 := fun e => by subst e; omega
  have hk0 : k ≠ 0 := fun e => by subst e; omega
  have hk1 : k ≠ 1 := fun e => by subst e; omega
  -- the smaller one of both has a prime divisor
  rcases Nat.le_total m k with hl | hl
  · obtain ⟨r, hr, hrm⟩ := exists_pri m (by omega)
    have h1 := h r hr (Nat.dvd_trans hrm ⟨k, hk⟩)
    have h2 := Nat.le_of_dvd (by omega) hrm
    have h3 : r * r ≤ m * k := Nat.mul_le_mul h2 (by omega)
    omega
  · obtain ⟨r, hr, hrm⟩ := exists_pri k (by omega)
    have h1 := h r hr (Nat.dvd_trans hrm ⟨m, by rw [hk, Nat.mul_comm]⟩)
    have h2 := Nat.le_of_dvd (by omega) hrm
    have h3 : r * r ≤ m * k := Nat.mul_le_mul (by omega) h2
    omega
theorem pock {n q k a r : Nat} (hq : Pri q) (hn : n = q * k + 1) (h1 : a ^ (n - 1) % n = 1) (h2 : Nat.gcd (a ^ k % n + (n - 1)) n = 1) (hr : Pri r) (hd : r ∣ n) : q ∣ r - 1 := by
  have hr1 := hr.1
  have hn1 : 1 < n := by have := Nat.le_of_dvd (by omega) hd; omega
  have red : ∀ x, x % n = 1 → x % r = 1 := fun x hx => by
    obtain ⟨c, hc⟩ := hd
    have : x % n % r = x % r := Nat.mod_mod_of_dvd x ⟨c, hc⟩
    rw [← this, hx, Nat.mod_eq_of_lt hr1]
  have g1 : a ^ (q * k) % r = 1 := red _ (by rw [← h1, hn, Nat.add_sub_cancel])
  refine Classical.byContradiction fun hc => ?_
  have hra : ¬ r ∣ a := fun hh => by
    have : a ^ (q * k) % r = 0 := by
      have hpos : 0 < q * k := by omega
      obtain ⟨e, he⟩ : ∃ e, q * k = e + 1 := ⟨q * k - 1, by omega⟩
      rw [he, Nat.pow_succ]
      exact Nat.mod_eq_zero_of_dvd (Nat.dvd_trans hh (Nat.dvd_mul_left _ _))
    omega
  have g2 : a ^ (k * (r - 1)) % r = 1 := by rw [Nat.mul_comm]; exact pow_mod_one k hr1 (fermat1 hr hra)
  have g3 := pow_gcd hr1 (k * q) (k * (r - 1)) (by rw [Nat.mul_comm k q]; exact g1) g2
  rw [Nat.gcd_mul_left, hq.cop hc, Nat.mul_one] at g3
  -- so r divides a ^ k - 1 and n
  have g4 : r ∣ Nat.gcd (a ^ k % n + (n - 1)) n := by
    refine Nat.dvd_gcd ?_ hd
    refine Nat.dvd_of_mod_eq_zero ?_
    have e1 : (a ^ k % n) % r = 1 := by rw [Nat.mod_mod_of_dvd _ hd]; exact g3
    obtain ⟨c, hc⟩ := hd
    obtain ⟨c', rfl⟩ : ∃ c', c = c' + 1 := ⟨c - 1, by cases c with | zero => simp at hc; omega | succ c => omega⟩
    have e2 : n - 1 = (r - 1) + r * c' := by rw [hc, Nat.mul_add]; omega
    rw [e2, ← Nat.add_assoc, Nat.add_mul_mod_self_left, Nat.add_mod, e1, Nat.mod_eq_of_lt (show r - 1 < r by omega), show 1 + (r - 1) = r by omega, Nat.mod_self]
  rw [h2] at g4
  have := Nat.le_of_dvd (by omega) g4
  omega
theorem pock1 {n q k a : Nat} (hq : Pri q) (hn : n = q * k + 1) (hk : 0 < k) (h1 : a ^ (n - 1) % n = 1) (h2 : Nat.gcd (a ^ k % n + (n - 1)) n = 1) (hl : n < q * q) : Pri n := by
  have hq1 := hq.1
  refine pri_of_no (by have := Nat.mul_le_mul (show 1 ≤ q by omega) (show 1 ≤ k by omega); omega) fun r hr hd => ?_
  have := Nat.le_of_dvd (by have := hr.1; omega) (pock hq hn h1 h2 hr hd)
  exact Nat.lt_of_lt_of_le hl (Nat.mul_le_mul (by omega) (by omega))
theorem pock2 {n q k a q' k' a' : Nat} (hq : Pri q) (hq' : Pri q') (hne : ¬ q ∣ q') (hn : n = q * k + 1) (hn' : n = q' * k' + 1) (hk : 0 < k) (h1 : a ^ (n - 1) % n = 1) (h2 : Nat.gcd (a ^ k % n + (n - 1)) n = 1)
    (h1' : a' ^ (n - 1) % n = 1) (h2' : Nat.gcd (a' ^ k' % n + (n - 1)) n = 1) (hl : n < (q * q') * (q * q')) : Pri n := by
  have hq1 := hq.1
  refine pri_of_no (by have := Nat.mul_le_mul (show 1 ≤ q by omega) (show 1 ≤ k by omega); omega) fun r hr hd => ?_
  have hc : Nat.Coprime q q' := hq.cop hne
  have := Nat.le_of_dvd (by have := hr.1; omega) (Nat.Coprime.mul_dvd_of_dvd_of_dvd hc (pock hq hn h1 h2 hr hd) (pock hq' hn' h1' h2' hr hd))
  exact Nat.lt_of_lt_of_le hl (Nat.mul_le_mul (by omega) (by omega))
def pmod (n : Nat) : Nat → Nat → Nat → Nat → Nat
  | 0, _, _, acc => acc
  | f + 1, b, e, acc => if e % 2 = 1 then pmod n f (b * b % n) (e / 2) (acc * b % n) else pmod n f (b * b % n) (e / 2) acc
theorem pmod_eq (n : Nat) : ∀ f b e acc, e < 2 ^ f → pmod n f b e acc % n = acc * b ^ e % n := by
  intro f
  induction f with
  | zero => intro b e acc h; rw [show e = 0 by omega]; simp [pmod]
  | succ f ih =>
    intro b e acc h
    have h2 : e / 2 < 2 ^ f := by rw [Nat.pow_succ] at h; omega
    have sq : ∀ x, x * (b * b % n) ^ (e / 2) % n = x * b ^ (2 * (e / 2)) % n := fun x => by
      rw [Nat.mul_mod, ← Nat.pow_mod, ← Nat.mul_mod, Nat.pow_mul, show b ^ 2 = b * b from by rw [Nat.pow_succ, Nat.pow_one]]
    unfold pmod
    split
    · rename_i h1
      rw [ih _ _ _ h2, sq, Nat.mul_mod, Nat.mod_mod, ← Nat.mul_mod, Nat.mul_assoc, ← Nat.pow_succ', show (2 * (e / 2)).succ = e by omega]
    · rename_i h1
      rw [ih _ _ _ h2, sq, show 2 * (e / 2) = e by omega]
theorem pmod_of {n b e r : Nat} (f : Nat) (he : e < 2 ^ f) (h : pmod n f b e 1 % n = r) : b ^ e % n = r := by
  rw [← h, pmod_eq n f b e 1 he, Nat.one_mul]
def noDiv (n : Nat) : Nat → Nat → Bool
  | 0, _ => true
  | f + 1, d => (n % d != 0) && noDiv n f (d + 1)
theorem noDiv_spec (n : Nat) : ∀ f d, noDiv n f d = true → ∀ m, d ≤ m → m < d + f → ¬ m ∣ n := by
  intro f
  induction f with
  | zero => intro d _ m h1 h2; omega
  | succ f ih =>
    intro d h m h1 h2
    simp only [noDiv, Bool.and_eq_true, bne_iff_ne, ne_eq] at h
    by_cases e : m = d
    · subst e; exact fun hd => h.1 (Nat.mod_eq_zero_of_dvd hd)
    · exact ih (d + 1) h.2 m (by omega) (by omega)
theorem pri_small {n : Nat} (f : Nat) (hn : 1 < n) (hf : n < (f + 2) * (f + 2)) (h : noDiv n f 2 = true) : Pri n := by
  refine pri_of_no hn fun r hr hd => ?_
  have hr1 := hr.1
  refine Classical.byContradiction fun hc => ?_
  refine noDiv_spec n f 2 h r (by omega) ?_ hd
  refine Classical.byContradiction fun hc2 => ?_
  have : (f + 2) * (f + 2) ≤ r * r := Nat.mul_le_mul (by omega) (by omega)
  omega
theorem pockA {n q k a : Nat} (f : Nat) (hq : Pri q) (hf : n < 2 ^ f) (hn : n = q * k + 1) (hk : 0 < k) (h1 : pmod n f a (n - 1) 1 % n = 1) (h2 : Nat.gcd (pmod n f a k 1 % n + (n - 1)) n = 1) (hl : n < q * q) : Pri n :=
  pock1 hq hn hk (pmod_of f (by omega) h1) (by rw [pmod_of f (by have := Nat.mul_le_mul (show 1 ≤ q from hq.pos) (Nat.le_refl k); omega) rfl]; exact h2) hl
theorem pockB {n q k a q' k' a' : Nat} (f : Nat) (hq : Pri q) (hq' : Pri q') (hf : n < 2 ^ f) (hne : ¬ q ∣ q') (hn : n = q * k + 1) (hn' : n = q' * k' + 1) (hk : 0 < k) (h1 : pmod n f a (n - 1) 1 % n = 1) (h2 : Nat.gcd (pmod n f a k 1 % n + (n - 1)) n = 1)
    (h1' : pmod n f a' (n - 1) 1 % n = 1) (h2' : Nat.gcd (pmod n f a' k' 1 % n + (n - 1)) n = 1) (hl : n < (q * q') * (q * q')) : Pri n :=
  pock2 hq hq' hne hn hn' hk (pmod_of f (by omega) h1) (by rw [pmod_of f (by have := Nat.mul_le_mul (show 1 ≤ q from hq.pos) (Nat.le_refl k); omega) rfl]; exact h2)
    (pmod_of f (by omega) h1') (by rw [pmod_of f (by have := Nat.mul_le_mul (show 1 ≤ q' from hq'.pos) (Nat.le_refl k'); omega) rfl]; exact h2') hl
theorem pr0 : Pri 8574133 := pri_small 2929 (by decide) (by decide) (by decide +kernel)
theorem pr1 : Pri 7 := pri_small 3 (by decide) (by decide) (by decide +kernel)
theorem pr2 : Pri 1919519569386763 := pockB (q := 8574133) (k := 223873314) (a := 2) (q' := 7) (k' := 274217081340966) (a' := 2) 51 pr0 pr1 (by decide +kernel) (by decide +kernel) (by decide +kernel) (by decide +kernel) (by decide +kernel) (by decide +kernel) (by decide +kernel) (by decide +kernel) (by decide +kernel) (by decide +kernel)
theorem pr3 : Pri 75707 := pri_small 276 (by decide) (by decide) (by decide +kernel)
theorem pr4 : Pri 75445702479781427272750846543864801 := pockB (q := 1919519569386763) (k := 39304471641247389600) (a := 2) (q' := 75707) (k' := 996548568557483816196003626400) (a' := 2) 116 pr2 pr3 (by decide +kernel) (by decide +kernel) (by decide +kernel) (by decide +kernel) (by decide +kernel) (by decide +kernel) (by decide +kernel) (by decide +kernel) (by decide +kernel) (by decide +kernel)
theorem pr5 : Pri 353 := pri_small 19 (by decide) (by decide) (by decide +kernel)
theorem pr6 : Pri 74058212732561358302231226437062788676166966415465897661863160754340907 := pockB (q := 75445702479781427272750846543864801) (k := 981609426360740691344999861639072106) (a := 2) (q' := 353) (k' := 209796636636151156663544550813209033076960244803019540118592523383402) (a' := 2) 236 pr4 pr5 (by decide +kernel) (by decide +kernel) (by decide +kernel) (by decide +kernel) (by decide +kernel) (by decide +kernel) (by decide +kernel) (by decide +kernel) (by decide +kernel) (by decide +kernel)
theorem prP : Pri 57896044618658097711785492504343953926634992332820282019728792003956564819949 := pockA (q := 74058212732561358302231226437062788676166966415465897661863160754340907) (k := 781764) (a := 2) 255 pr6 (by decide +kernel) (by decide +kernel) (by decide +kernel) (by decide +kernel) (by decide +kernel) (by decide +kernel)
end Go.Proofs.Ytcgncafhonlmlaa
namespace Go.Proofs.Ytcgncafhonlmlaa
abbrev PP : Nat := 57896044618658097711785492504343953926634992332820282019728792003956564819949
abbrev Fp := Fin PP
def zf (n : Nat) : Fp := Fin.ofNat PP n
theorem zf_val (n : Nat) : (zf n).val = n % PP := rfl
theorem zf_eq {a b : Nat} : zf a = zf b ↔ a % PP = b % PP := by
  rw [← Fin.val_inj, zf_val, zf_val]
theorem zf_add (a b : Nat) : zf (a + b) = zf a + zf b := by
  apply Fin.ext
  rw [Fin.val_add, zf_val, zf_val, zf_val, ← Nat.add_mod]
theorem zf_mul (a b : Nat) : zf (a * b) = zf a * zf b := by
  apply Fin.ext
  rw [Fin.val_mul, zf_val, zf_val, zf_val, ← Nat.mul_mod]
theorem pow_succF (u : Fp) (k : Nat) : u ^ (k + 1) = u ^ k * u := by grobner
theorem pow_zeroF (u : Fp) : u ^ 0 = 1 := by grobner
theorem pow_addF (u : Fp) (j k : Nat) : u ^ (j + k) = u ^ j * u ^ k := by
  induction k with
  | zero => rw [pow_zeroF, Nat.add_zero]; grobner
  | succ k ih => rw [← Nat.add_assoc, pow_succF, pow_succF, ih]; grobner
theorem mul_powF (u v : Fp) (k : Nat) : (u * v) ^ k = u ^ k * v ^ k := by
  induction k with
  | zero => rw [pow_zeroF, pow_zeroF, pow_zeroF]; grobner
  | succ k ih => rw [pow_succF, pow_succF, pow_succF, ih]; grobner
theorem pow_mulF (u : Fp) (j k : Nat) : u ^ (j * k) = (u ^ j) ^ k := by
  induction k with
  | zero => rw [Nat.mul_zero, pow_zeroF, pow_zeroF]
  | succ k ih => rw [Nat.mul_succ, pow_addF, ih, pow_succF]
theorem zf_zero : zf 0 = 0 := rfl
theorem zf_one : zf 1 = 1 := rfl
theorem zf_pow (a k : Nat) : zf (a ^ k) = zf a ^ k := by
  induction k with
  | zero => rw [Nat.pow_zero, pow_zeroF, zf_one]
  | succ k ih => rw [Nat.pow_succ, zf_mul, ih, pow_succF]
theorem zf_self (u : Fp) : zf u.val = u := by
  apply Fin.ext
  rw [zf_val, Nat.mod_eq_of_lt u.isLt]
theorem zf_P : zf PP = 0 := by apply Fin.ext; rw [zf_val, Nat.mod_self]; rfl
theorem zf_mod (n : Nat) : zf (n % PP) = zf n := by rw [zf_eq, Nat.mod_mod]
theorem zf_eq_zero {n : Nat} : zf n = 0 ↔ PP ∣ n := by
  rw [← zf_zero, zf_eq, Nat.zero_mod]
  exact ⟨Nat.dvd_of_mod_eq_zero, Nat.mod_eq_zero_of_dvd⟩
theorem zf_sub (a b : Nat) (h : b ≤ a) : zf (a - b) = zf a - zf b := by
  have h1 : zf (a - b) + zf b = zf a := by rw [← zf_add, Nat.sub_add_cancel h]
  rw [← h1]; grobner
theorem nozero {u v : Fp} (h : u * v = 0) : u = 0 ∨ v = 0 := by
  rw [← zf_self u, ← zf_self v, ← zf_mul, zf_eq_zero] at h
  rcases prP.euclid h with h1 | h1
  · exact .inl (by rw [← zf_self u, zf_eq_zero]; exact h1)
  · exact .inr (by rw [← zf_self v, zf_eq_zero]; exact h1)
theorem zero_powF (k : Nat) : (0 : Fp) ^ (k + 1) = 0 := by rw [pow_succF]; generalize (0 : Fp) ^ k = x; grobner
def eOne : Nat := PP - 1
def eInv : Nat := PP - 2
def eHalf : Nat := (PP - 1) / 2
def eRoot : Nat := (PP + 3) / 8
def eI : Nat := (PP - 1) / 4
theorem eInv_one : eInv + 1 = eOne := by decide +kernel
theorem eHalf_add : eHalf + eHalf = eOne := by decide +kernel
theorem eRoot_mul : eRoot * 4 = eHalf + 2 := by decide +kernel
theorem eRoot_pos : ∃ k, eRoot = k + 1 := ⟨(PP + 3) / 8 - 1, by decide +kernel⟩
theorem eHalf_pos : ∃ k, eHalf = k + 1 := ⟨(PP - 1) / 2 - 1, by decide +kernel⟩
theorem eI_lt : eI < 2 ^ 255 := by decide +kernel
theorem eOne_eq : PP - 1 = eOne := rfl
theorem eI_num : eI = 14474011154664524427946373126085988481658748083205070504932198000989141204987 := by decide +kernel
attribute [irreducible] eOne eInv eHalf eRoot eI
theorem fermatF {u : Fp} (h : u ≠ 0) : u ^ eOne = 1 := by
  have h1 : ¬ PP ∣ u.val := fun hd => h (by rw [← zf_self u, zf_eq_zero]; exact hd)
  have h2 := fermat1 prP h1
  rw [eOne_eq] at h2
  rw [← zf_self u, ← zf_pow, ← zf_one, zf_eq, h2]
  decide +kernel
def invF (u : Fp) : Fp := u ^ eInv
theorem inv_mulF {u : Fp} (h : u ≠ 0) : invF u * u = 1 := by
  unfold invF
  rw [← pow_succF, eInv_one]
  exact fermatF h
attribute [irreducible] invF
theorem one_neF : (1 : Fp) ≠ 0 := by decide +kernel
theorem cancelF {u v w : Fp} (h : u ≠ 0) (e : u * v = u * w) : v = w := by
  have : u * (v - w) = 0 := by grobner
  rcases nozero this with h1 | h1
  · exact absurd h1 h
  · clear e this; grobner
theorem inv_uniq {u v : Fp} (h : u * v = 1) : v = invF u := by
  have hu : u ≠ 0 := fun e => by rw [e] at h; exact one_neF (by grobner)
  refine cancelF hu ?_
  have := inv_mulF hu
  clear hu
  grobner
theorem mul_ne {u v : Fp} (h : u ≠ 0) (h' : v ≠ 0) : u * v ≠ 0 := fun e => by
  rcases nozero e with h1 | h1
  · exact h h1
  · exact h' h1
theorem zero_mulF (v : Fp) : 0 * v = 0 := by grobner
theorem sq_eq {u v : Fp} (h : u * u = v * v) : u = v ∨ u = -v := by
  have : (u - v) * (u + v) = 0 := by grobner
  rcases nozero this with h1 | h1
  · exact .inl (by clear h this; grobner)
  · exact .inr (by clear h this; grobner)
def iF : Fp := zf 19681161376707505956807079304988542015446066515923890162744021073123829784752
theorem iF_sq : iF * iF = -1 := by decide +kernel
theorem two_powF (b e r f : Nat) (he : e < 2 ^ f) (h : pmod PP f b e 1 % PP = r) : zf b ^ e = zf r := by
  rw [← zf_pow, zf_eq, ← h, Nat.mod_mod, pmod_eq PP f b e 1 he, Nat.one_mul]
theorem iF_pow : (zf 2) ^ eI = iF := two_powF 2 eI _ 255 eI_lt (by rw [eI_num]; decide +kernel)
attribute [irreducible] iF
def rootF (a : Fp) : Fp := if a ^ eRoot * a ^ eRoot = a then a ^ eRoot else a ^ eRoot * iF
theorem root_four {a x : Fp} (hx : a ^ eRoot = x) (h : a ^ eHalf = 1) : (x * x) * (x * x) = a * a := by
  have e : (x * x) * (x * x) = a ^ (eRoot * 4) := by
    rw [pow_mulF, hx]; clear h hx; grobner
  rw [e, eRoot_mul, pow_addF, h]
  clear h hx e
  grobner
theorem root_case {a x : Fp} (h0 : ¬ x * x = a) (h4 : (x * x) * (x * x) = a * a) : x * iF * (x * iF) = a := by
  rcases sq_eq h4 with h5 | h5
  · exact absurd h5 h0
  · have := iF_sq
    clear h4 h0
    generalize iF = j at *
    grobner
theorem sq_half {s : Fp} (hs : s ≠ 0) : (s * s) ^ eHalf = 1 := by
  rw [mul_powF, ← pow_addF, eHalf_add, fermatF hs]
theorem rootF_sq (s : Fp) : rootF (s * s) * rootF (s * s) = s * s := by
  unfold rootF
  split
  · assumption
  · rename_i h
    by_cases hs : s = 0
    · exfalso
      apply h
      obtain ⟨k, hk⟩ := eRoot_pos
      rw [hs, zero_mulF, hk, zero_powF, zero_mulF]
    · exact root_case h (root_four rfl (sq_half hs))
attribute [irreducible] rootF
end Go.Proofs.Ytcgncafhonlmlaa
namespace Go.Proofs.Ytcgncafhonlmlaa
open Go.RowKit
def lmOf_L3_S (b : List (BitVec 8)) (X1 : List (BitVec 64)) (j3 : Nat) : List (BitVec 64) := put X1 (j3 / 8) ((nth X1 (j3 / 8)) ||| (((nth b j3).setWidth 64) <<< (8 * (j3 % 8))))
def lmOf_L3 (b : List (BitVec 8)) : Nat → List (BitVec 64)
  | 0 => zer64 4
  | j3 + 1 => lmOf_L3_S b (lmOf_L3 b j3) j3
@[simp] theorem lmOf_L3_len (b : List (BitVec 8)) (j3 : Nat) : (lmOf_L3 b j3).length = 4 := by
  induction j3 with
  | zero => first | (simp [lmOf_L3, *]; done) | (simp [lmOf_L3, *]; omega)
  | succ j3 ih => rw [lmOf_L3.eq_2, lmOf_L3_S]; first | (simp [ih]; done) | (simp [ih]; omega) | (simp [*]; done) | (simp [*]; omega) | (split <;> first | (simp [ih]; done) | (simp [ih]; omega) | (simp [*]; done))
def lmOf (b : List (BitVec 8)) : List (BitVec 64) := put [(nth (lmOf_L3 b 32) 0) &&& 2251799813685247#64, (((nth (lmOf_L3 b 32) 0) >>> 51) ||| ((nth (lmOf_L3 b 32) 1) <<< 13)) &&& 2251799813685247#64, (((nth (lmOf_L3 b 32) 1) >>> 38) ||| ((nth (lmOf_L3 b 32) 2) <<< 26)) &&& 2251799813685247#64, (((nth (lmOf_L3 b 32) 2) >>> 25) ||| ((nth (lmOf_L3 b 32) 3) <<< 39)) &&& 2251799813685247#64, ((nth (lmOf_L3 b 32) 3) >>> 12) &&& 2251799813685247#64] 0 ((nth [(nth (lmOf_L3 b 32) 0) &&& 2251799813685247#64, (((nth (lmOf_L3 b 32) 0) >>> 51) ||| ((nth (lmOf_L3 b 32) 1) <<< 13)) &&& 2251799813685247#64, (((nth (lmOf_L3 b 32) 1) >>> 38) ||| ((nth (lmOf_L3 b 32) 2) <<< 26)) &&& 2251799813685247#64, (((nth (lmOf_L3 b 32) 2) >>> 25) ||| ((nth (lmOf_L3 b 32) 3) <<< 39)) &&& 2251799813685247#64, ((nth (lmOf_L3 b 32) 3) >>> 12) &&& 2251799813685247#64] 0) + (19#64 * ((nth (lmOf_L3 b 32) 3) >>> 63)))
set_option maxRecDepth 100000 in
set_option maxHeartbeats 2000000 in
theorem lmOf_ev (b : List (BitVec 8)) (hb : b.length = 32) : Ev Try.prog (.call 63 [.agg (.a8 (b))] []) (.val (.agg (.a64 (lmOf b))) []) := by
  have hP : Hid (lmOf b = put [(nth (lmOf_L3 b 32) 0) &&& 2251799813685247#64, (((nth (lmOf_L3 b 32) 0) >>> 51) ||| ((nth (lmOf_L3 b 32) 1) <<< 13)) &&& 2251799813685247#64, (((nth (lmOf_L3 b 32) 1) >>> 38) ||| ((nth (lmOf_L3 b 32) 2) <<< 26)) &&& 2251799813685247#64, (((nth (lmOf_L3 b 32) 2) >>> 25) ||| ((nth (lmOf_L3 b 32) 3) <<< 39)) &&& 2251799813685247#64, ((nth (lmOf_L3 b 32) 3) >>> 12) &&& 2251799813685247#64] 0 ((nth [(nth (lmOf_L3 b 32) 0) &&& 2251799813685247#64, (((nth (lmOf_L3 b 32) 0) >>> 51) ||| ((nth (lmOf_L3 b 32) 1) <<< 13)) &&& 2251799813685247#64, (((nth (lmOf_L3 b 32) 1) >>> 38) ||| ((nth (lmOf_L3 b 32) 2) <<< 26)) &&& 2251799813685247#64, (((nth (lmOf_L3 b 32) 2) >>> 25) ||| ((nth (lmOf_L3 b 32) 3) <<< 39)) &&& 2251799813685247#64, ((nth (lmOf_L3 b 32) 3) >>> 12) &&& 2251799813685247#64] 0) + (19#64 * ((nth (lmOf_L3 b 32) 3) >>> 63)))) := ⟨rfl⟩
  refine c_call Try.func63 rfl Try.ntmps63 rfl LEN_ ?_
  refine S_ ?_
  refine c_region ?_
  refine s_memN (m_box BX_ LEN_) APP_ rfl ?_
  refine s_memN (m_alloc al_52 LEN_) APP_ rfl ?_
  refine s_nil ?_
  refine S_ ?_
  refine c_region ?_
  refine s_memN (m_alloc al_41 LEN_) APP_ rfl ?_
  refine s_nil ?_
  refine S_ ?_
  refine c_region ?_
  refine s_val (v_moveC rfl) rfl ?_
  refine s_nil ?_
  refine S_ ?_
  refine c_loopC [1, 2, 3, 6] (fun (zz : Nat × List (BitVec 64)) => ⟨65, keepT [1, 2, 3, 6] [.c (.ptr 0 0), .c (.ptr 1 0), .c (.ptr 2 0), .c (.val (.int .i64 (((zz.1 : Nat) : Int))))], [.row true (.a8 (b)), .row true (.a64 (zer64 5)), .row true (.a64 (zz.2))]⟩) (fun j3 => (j3, lmOf_L3 b j3)) (32) (by kernel_rfl) ?_ ?_
  · intro j3 hj3
    try dsimp only
    have hX1 : (lmOf_L3 b j3).length = 4 := by rw [lmOf_L3_len b _]; try omega
    rw [lmOf_L3.eq_2, lmOf_L3_S]
    generalize lmOf_L3 b j3 = X1 at *
    refine S_ ?_
    refine c_region ?_
    refine s_val (v_lssN (b := 32) rfl rfl) rfl ?_
    refine s_nil ?_
    refine S_ ?_
    refine c_region ?_
    refine s_val (v_moveC rfl) rfl ?_
    refine s_val (v_assignC rfl) rfl ?_
    refine s_nil ?_
    refine S_ ?_
    refine c_draw 14 mixed (by kernel_rfl) rfl rfl rfl ?_
    refine h_val (v_moveC rfl) rfl ?_
    refine h_val (v_quoN (b := 8) rfl rfl (by omega) (by omega)) rfl ?_
    refine h_val (v_idxA1 rfl rfl Try.underlying41 sz_40 (by omega)) rfl ?_
    refine h_val (v_load64 rfl rfl row_40 LT_) rfl ?_
    refine h_val (v_moveC rfl) rfl ?_
    refine h_val (v_idxA1 rfl rfl Try.underlying22 sz_5 (by omega)) rfl ?_
    refine h_val (v_load8 rfl rfl row_5 LT_) rfl ?_
    refine h_val (v_conv rfl Try.underlying5 Try.underlying40 (w8_64 _)) rfl ?_
    refine h_val (v_moveC rfl) rfl ?_
    refine h_val (v_remN (b := 8) rfl rfl (by omega) (by omega)) rfl ?_
    refine h_val (v_mulN (a := 8) rfl rfl (by omega)) rfl ?_
    refine h_val (v_shl64n rfl rfl) rfl ?_
    refine h_val (v_or64 rfl rfl) rfl ?_
    refine h_val (v_idxA1 rfl rfl Try.underlying41 sz_40 (by omega)) rfl ?_
    refine h_nil ?_
    refine s_store64 rfl rfl rfl sz_40 LT_ SET_ ?_
    refine s_nil ?_
    refine S_ ?_
    refine c_region ?_
    refine s_val (v_addN (b := 1) rfl rfl (by omega)) rfl ?_
    refine s_val (v_moveC rfl) rfl ?_
    refine s_nil ?_
    exact ⟨(j3 + 1, _), by kernel_rfl, rfl⟩
  · try dsimp only
    have hY2 : (lmOf_L3 b 32).length = 4 := by rw [lmOf_L3_len b _]; try omega
    generalize lmOf_L3 b 32 = Y2 at *
    refine S_ ?_
    refine c_region ?_
    refine s_val (v_lssN (a := 32) (b := 32) rfl rfl) rfl ?_
    refine s_nil ?_
    refine S_ ?_
    refine c_region ?_
    refine s_val (v_idxA1 (j := 0) rfl rfl Try.underlying41 sz_40 (by omega)) rfl ?_
    refine s_val (v_load64 rfl rfl row_40 LT_) rfl ?_
    refine s_val (v_and64 (b := 2251799813685247#64) rfl rfl) rfl ?_
    refine s_val (v_idxA1 (j := 0) rfl rfl Try.underlying41 sz_40 (by omega)) rfl ?_
    refine s_val (v_load64 rfl rfl row_40 LT_) rfl ?_
    refine s_val (v_shr64n (j := 51) rfl rfl) rfl ?_
    refine s_val (v_idxA1 (j := 1) rfl rfl Try.underlying41 sz_40 (by omega)) rfl ?_
    refine s_val (v_load64 rfl rfl row_40 LT_) rfl ?_
    refine s_val (v_shl64n (j := 13) rfl rfl) rfl ?_
    refine s_val (v_or64 rfl rfl) rfl ?_
    refine s_val (v_and64 (b := 2251799813685247#64) rfl rfl) rfl ?_
    refine s_val (v_idxA1 (j := 1) rfl rfl Try.underlying41 sz_40 (by omega)) rfl ?_
    refine s_val (v_load64 rfl rfl row_40 LT_) rfl ?_
    refine s_val (v_shr64n (j := 38) rfl rfl) rfl ?_
    refine s_val (v_idxA1 (j := 2) rfl rfl Try.underlying41 sz_40 (by omega)) rfl ?_
    refine s_val (v_load64 rfl rfl row_40 LT_) rfl ?_
    refine s_val (v_shl64n (j := 26) rfl rfl) rfl ?_
    refine s_val (v_or64 rfl rfl) rfl ?_
    refine s_val (v_and64 (b := 2251799813685247#64) rfl rfl) rfl ?_
    refine s_val (v_idxA1 (j := 2) rfl rfl Try.underlying41 sz_40 (by omega)) rfl ?_
    refine s_val (v_load64 rfl rfl row_40 LT_) rfl ?_
    refine s_val (v_shr64n (j := 25) rfl rfl) rfl ?_
    refine s_val (v_idxA1 (j := 3) rfl rfl Try.underlying41 sz_40 (by omega)) rfl ?_
    refine s_val (v_load64 rfl rfl row_40 LT_) rfl ?_
    refine s_val (v_shl64n (j := 39) rfl rfl) rfl ?_
    refine s_val (v_or64 rfl rfl) rfl ?_
    refine s_val (v_and64 (b := 2251799813685247#64) rfl rfl) rfl ?_
    refine s_val (v_idxA1 (j := 3) rfl rfl Try.underlying41 sz_40 (by omega)) rfl ?_
    refine s_val (v_load64 rfl rfl row_40 LT_) rfl ?_
    refine s_val (v_shr64n (j := 12) rfl rfl) rfl ?_
    refine s_val (v_and64 (b := 2251799813685247#64) rfl rfl) rfl ?_
    refine s_val (v_bld64 (l := [_, _, _, _, _]) zc_52 Try.underlying52 sz_40 rfl rfl (by decide)) rfl ?_
    refine s_memN (m_alloc al_52 LEN_) APP_ rfl ?_
    refine s_storeR rfl rfl rfl rfl sz_52 EQ_ EQ_ SET_ ?_
    refine s_nil ?_
    refine S_ ?_
    refine c_region ?_
    refine s_val (v_idxA1 (j := 0) rfl rfl Try.underlying52 sz_40 (by omega)) rfl ?_
    refine s_val (v_load64 rfl rfl row_40 LT_) rfl ?_
    refine s_val (v_idxA1 (j := 3) rfl rfl Try.underlying41 sz_40 (by omega)) rfl ?_
    refine s_val (v_load64 rfl rfl row_40 LT_) rfl ?_
    refine s_val (v_shr64n (j := 63) rfl rfl) rfl ?_
    refine s_val (v_mul64 (a := 19#64) rfl rfl) rfl ?_
    refine s_val (v_add64 rfl rfl) rfl ?_
    refine s_val (v_idxA1 (j := 0) rfl rfl Try.underlying52 sz_40 (by omega)) rfl ?_
    refine s_store64 rfl rfl rfl sz_40 LT_ SET_ ?_
    refine s_nil ?_
    refine S_ ?_
    refine c_region ?_
    refine s_val (v_loadR rfl rfl row_52 sz_52 EQ_ (by decide)) rfl ?_
    refine s_storeR rfl rfl rfl rfl sz_52 EQ_ EQ_ SET_ ?_
    refine s_nil ?_
    refine S_ ?_
    rw [hP.out]
    exact k_1 (r_row rfl rfl row_52 sz_52 EQ_ (by decide)) (by first | kernel_rfl | rfl)
@[simp] theorem lmOf_len (b : List (BitVec 8)) (hb : b.length = 32) : (lmOf b).length = 5 := by
  unfold lmOf
  first | (simp [lmOf_L3_len, *]; done) | (simp [lmOf_L3_len, *]; omega)
attribute [irreducible] lmOf
end Go.Proofs.Ytcgncafhonlmlaa
namespace Go.Proofs.Ytcgncafhonlmlaa
open Go.RowKit
def lmCar_L3_S (X1 : BitVec 64) (X2 : List (BitVec 64)) (j3 : Nat) : BitVec 64 × List (BitVec 64) := ((nth (put X2 j3 ((nth X2 j3) + X1)) j3) >>> 51, put (put X2 j3 ((nth X2 j3) + X1)) j3 ((nth (put X2 j3 ((nth X2 j3) + X1)) j3) &&& 2251799813685247#64))
def lmCar_L3 (a : List (BitVec 64)) : Nat → BitVec 64 × List (BitVec 64)
  | 0 => (0#64, a)
  | j3 + 1 => lmCar_L3_S (lmCar_L3 a j3).1 (lmCar_L3 a j3).2 j3
theorem lmCar_L3_len1 (a : List (BitVec 64)) (ha : a.length = 5) (j3 : Nat) : (lmCar_L3 a j3).2.length = 5 := by
  induction j3 with
  | zero => first | (simp [lmCar_L3, *]; done) | (simp [lmCar_L3, *]; omega)
  | succ j3 ih => rw [lmCar_L3.eq_2, lmCar_L3_S]; first | (simp [ih]; done) | (simp [ih]; omega) | (simp [*]; done) | (simp [*]; omega) | (split <;> first | (simp [ih]; done) | (simp [ih]; omega) | (simp [*]; done))
def lmCar (a : List (BitVec 64)) : List (BitVec 64) := put ((lmCar_L3 a 5).2) 0 ((nth ((lmCar_L3 a 5).2) 0) + (19#64 * ((lmCar_L3 a 5).1)))
set_option maxRecDepth 100000 in
set_option maxHeartbeats 2000000 in
theorem lmCar_ev (a : List (BitVec 64)) (ha : a.length = 5) : Ev Try.prog (.call 96 [.agg (.a64 (a))] []) (.val (.agg (.a64 (lmCar a))) []) := by
  have hP : Hid (lmCar a = put ((lmCar_L3 a 5).2) 0 ((nth ((lmCar_L3 a 5).2) 0) + (19#64 * ((lmCar_L3 a 5).1)))) := ⟨rfl⟩
  refine c_call Try.func96 rfl Try.ntmps96 rfl LEN_ ?_
  refine S_ ?_
  refine c_region ?_
  refine s_memN (m_box BX_ LEN_) APP_ rfl ?_
  refine s_memN (m_alloc al_52 LEN_) APP_ rfl ?_
  refine s_nil ?_
  refine S_ ?_
  refine c_region ?_
  refine s_val (v_assignC rfl) rfl ?_
  refine s_nil ?_
  refine S_ ?_
  refine c_region ?_
  refine s_val (v_moveC rfl) rfl ?_
  refine s_nil ?_
  refine S_ ?_
  refine c_loopC [1, 2, 3, 5] (fun (zz : Nat × BitVec 64 × List (BitVec 64)) => ⟨31, keepT [1, 2, 3, 5] [.c (.ptr 0 0), .c (.ptr 1 0), .c (.val (U64 (zz.2.1))), .c (.val (.int .i64 (((zz.1 : Nat) : Int))))], [.row true (.a64 (zz.2.2)), .row true (.a64 (zer64 5))]⟩) (fun j3 => (j3, lmCar_L3 a j3)) (5) (by kernel_rfl) ?_ ?_
  · intro j3 hj3
    try dsimp only
    have hX2 : (lmCar_L3 a j3).2.length = 5 := by rw [lmCar_L3_len1 a ha _]; try omega
    rw [lmCar_L3.eq_2, lmCar_L3_S]
    generalize lmCar_L3 a j3 = Z3 at *
    obtain ⟨X1, X2⟩ := Z3
    try dsimp only at *
    refine S_ ?_
    refine c_region ?_
    refine s_val (v_lssN (b := 5) rfl rfl) rfl ?_
    refine s_nil ?_
    refine S_ ?_
    refine c_region ?_
    refine s_val (v_moveC rfl) rfl ?_
    refine s_val (v_assignC rfl) rfl ?_
    refine s_nil ?_
    refine S_ ?_
    refine c_region ?_
    refine s_val (v_moveC rfl) rfl ?_
    refine s_val (v_idxA1 rfl rfl Try.underlying52 sz_40 (by omega)) rfl ?_
    refine s_val (v_load64 rfl rfl row_40 LT_) rfl ?_
    refine s_val (v_moveC rfl) rfl ?_
    refine s_val (v_add64 rfl rfl) rfl ?_
    refine s_val (v_idxA1 rfl rfl Try.underlying52 sz_40 (by omega)) rfl ?_
    refine s_store64 rfl rfl rfl sz_40 LT_ SET_ ?_
    refine s_nil ?_
    refine S_ ?_
    refine c_region ?_
    refine s_val (v_moveC rfl) rfl ?_
    refine s_val (v_idxA1 rfl rfl Try.underlying52 sz_40 (by omega)) rfl ?_
    refine s_val (v_load64 rfl rfl row_40 LT_) rfl ?_
    refine s_val (v_shr64n (j := 51) rfl rfl) rfl ?_
    refine s_val (v_assignC rfl) rfl ?_
    refine s_nil ?_
    refine S_ ?_
    refine c_region ?_
    refine s_val (v_moveC rfl) rfl ?_
    refine s_val (v_idxA1 rfl rfl Try.underlying52 sz_40 (by omega)) rfl ?_
    refine s_val (v_load64 rfl rfl row_40 LT_) rfl ?_
    refine s_val (v_and64 (b := 2251799813685247#64) rfl rfl) rfl ?_
    refine s_val (v_idxA1 rfl rfl Try.underlying52 sz_40 (by omega)) rfl ?_
    refine s_store64 rfl rfl rfl sz_40 LT_ SET_ ?_
    refine s_nil ?_
    refine S_ ?_
    refine c_region ?_
    refine s_val (v_addN (b := 1) rfl rfl (by omega)) rfl ?_
    refine s_val (v_moveC rfl) rfl ?_
    refine s_nil ?_
    exact ⟨(j3 + 1, _), by kernel_rfl, rfl⟩
  · try dsimp only
    have hY5 : (lmCar_L3 a 5).2.length = 5 := by rw [lmCar_L3_len1 a ha _]; try omega
    generalize lmCar_L3 a 5 = Z6 at *
    obtain ⟨Y4, Y5⟩ := Z6
    try dsimp only at *
    refine S_ ?_
    refine c_region ?_
    refine s_val (v_lssN (a := 5) (b := 5) rfl rfl) rfl ?_
    refine s_nil ?_
    refine S_ ?_
    refine c_region ?_
    refine s_val (v_idxA1 (j := 0) rfl rfl Try.underlying52 sz_40 (by omega)) rfl ?_
    refine s_val (v_load64 rfl rfl row_40 LT_) rfl ?_
    refine s_val (v_moveC rfl) rfl ?_
    refine s_val (v_mul64 (a := 19#64) rfl rfl) rfl ?_
    refine s_val (v_add64 rfl rfl) rfl ?_
    refine s_val (v_idxA1 (j := 0) rfl rfl Try.underlying52 sz_40 (by omega)) rfl ?_
    refine s_store64 rfl rfl rfl sz_40 LT_ SET_ ?_
    refine s_nil ?_
    refine S_ ?_
    refine c_region ?_
    refine s_val (v_loadR rfl rfl row_52 sz_52 EQ_ (by decide)) rfl ?_
    refine s_storeR rfl rfl rfl rfl sz_52 EQ_ EQ_ SET_ ?_
    refine s_nil ?_
    refine S_ ?_
    rw [hP.out]
    exact k_1 (r_row rfl rfl row_52 sz_52 EQ_ (by decide)) (by first | kernel_rfl | rfl)
@[simp] theorem lmCar_len (a : List (BitVec 64)) (ha : a.length = 5) : (lmCar a).length = 5 := by
  unfold lmCar
  first | (simp [lmCar_L3_len1, *]; done) | (simp [lmCar_L3_len1, *]; omega)
attribute [irreducible] lmCar
end Go.Proofs.Ytcgncafhonlmlaa
namespace Go.Proofs.Ytcgncafhonlmlaa
open Go.RowKit
def lmBytes_L6_S (X4 : BitVec 64) (X5 : List (BitVec 64)) (j6 : Nat) : BitVec 64 × List (BitVec 64) := ((nth (put X5 j6 ((nth X5 j6) + X4)) j6) >>> 51, put (put X5 j6 ((nth X5 j6) + X4)) j6 ((nth (put X5 j6 ((nth X5 j6) + X4)) j6) &&& 2251799813685247#64))
def lmBytes_L6 (a : List (BitVec 64)) : Nat → BitVec 64 × List (BitVec 64)
  | 0 => (0#64, put (lmCar (lmCar (lmCar a))) 0 ((nth (lmCar (lmCar (lmCar a))) 0) + 19#64))
  | j6 + 1 => lmBytes_L6_S (lmBytes_L6 a j6).1 (lmBytes_L6 a j6).2 j6
theorem lmBytes_L6_len1 (a : List (BitVec 64)) (ha : a.length = 5) (j6 : Nat) : (lmBytes_L6 a j6).2.length = 5 := by
  induction j6 with
  | zero => first | (simp (maxDischargeDepth := 9) [lmBytes_L6, *]; done) | (simp (maxDischargeDepth := 9) [lmBytes_L6, *]; omega)
  | succ j6 ih => rw [lmBytes_L6.eq_2, lmBytes_L6_S]; first | (simp (maxDischargeDepth := 9) [ih]; done) | (simp (maxDischargeDepth := 9) [ih]; omega) | (simp (maxDischargeDepth := 9) [*]; done) | (simp (maxDischargeDepth := 9) [*]; omega) | (split <;> first | (simp (maxDischargeDepth := 9) [ih]; done) | (simp (maxDischargeDepth := 9) [ih]; omega) | (simp (maxDischargeDepth := 9) [*]; done))
def lmBytes_L17_S (J10 : List (BitVec 64)) (X11 : List (BitVec 8)) (j17 : Nat) : List (BitVec 8) := put X11 j17 (((nth [(nth J10 0) ||| ((nth J10 1) <<< 51), ((nth J10 1) >>> 13) ||| ((nth J10 2) <<< 38), ((nth J10 2) >>> 26) ||| ((nth J10 3) <<< 25), ((nth J10 3) >>> 39) ||| ((nth J10 4) <<< 12)] (j17 / 8)) >>> (8 * (j17 % 8))).setWidth 8)
def lmBytes_L17 (J10 : List (BitVec 64)) : Nat → List (BitVec 8)
  | 0 => zer8 32
  | j17 + 1 => lmBytes_L17_S J10 (lmBytes_L17 J10 j17) j17
@[simp] theorem lmBytes_L17_len (J10 : List (BitVec 64)) (j17 : Nat) : (lmBytes_L17 J10 j17).length = 32 := by
  induction j17 with
  | zero => first | (simp (maxDischargeDepth := 9) [lmBytes_L17, *]; done) | (simp (maxDischargeDepth := 9) [lmBytes_L17, *]; omega)
  | succ j17 ih => rw [lmBytes_L17.eq_2, lmBytes_L17_S]; first | (simp (maxDischargeDepth := 9) [ih]; done) | (simp (maxDischargeDepth := 9) [ih]; omega) | (simp (maxDischargeDepth := 9) [lmBytes_L6_len1, *]; done) | (simp (maxDischargeDepth := 9) [lmBytes_L6_len1, *]; omega) | (split <;> first | (simp (maxDischargeDepth := 9) [ih]; done) | (simp (maxDischargeDepth := 9) [ih]; omega) | (simp (maxDischargeDepth := 9) [lmBytes_L6_len1, *]; done))
def lmBytes (a : List (BitVec 64)) : List (BitVec 8) := (lmBytes_L17 (if (0#64).toNat < ((lmBytes_L6 a 5).1).toNat then ((lmBytes_L6 a 5).2) else lmCar (lmCar (lmCar a))) 32)
set_option maxRecDepth 100000 in
set_option maxHeartbeats 2000000 in
theorem lmBytes_ev (a : List (BitVec 64)) (ha : a.length = 5) : Ev Try.prog (.call 64 [.agg (.a64 (a))] []) (.val (.agg (.a8 (lmBytes a))) []) := by
  have hP : Hid (lmBytes a = (lmBytes_L17 (if (0#64).toNat < ((lmBytes_L6 a 5).1).toNat then ((lmBytes_L6 a 5).2) else lmCar (lmCar (lmCar a))) 32)) := ⟨rfl⟩
  refine c_call Try.func64 rfl Try.ntmps64 rfl LEN_ ?_
  refine S_ ?_
  refine c_region ?_
  refine s_memN (m_box BX_ LEN_) APP_ rfl ?_
  refine s_memN (m_alloc al_22 LEN_) APP_ rfl ?_
  refine s_nil ?_
  have hQ1 : (lmCar a).length = 5 := LQ_
  have hQ2 : (lmCar (lmCar a)).length = 5 := LQ_
  have hQ3 : (lmCar (lmCar (lmCar a))).length = 5 := LQ_
  refine S_ ?_
  refine c_region ?_
  refine s_val (v_loadR rfl rfl row_52 sz_52 EQ_ (by decide)) rfl ?_
  refine s_evN (e_callR (bs := []) (lmCar_ev a HYP_) ok_96 (by kernel_rfl) (by kernel_rfl) rfl VAL_) APP_ rfl ?_
  refine s_evN (e_callR (bs := []) (lmCar_ev (lmCar a) HYP_) ok_96 (by kernel_rfl) (by kernel_rfl) rfl VAL_) APP_ rfl ?_
  refine s_evN (e_callR (bs := []) (lmCar_ev (lmCar (lmCar a)) HYP_) ok_96 (by kernel_rfl) (by kernel_rfl) rfl VAL_) APP_ rfl ?_
  refine s_storeR rfl rfl rfl rfl sz_52 EQ_ EQ_ SET_ ?_
  refine s_nil ?_
  refine S_ ?_
  refine c_region ?_
  refine s_val (v_loadR rfl rfl row_52 sz_52 EQ_ (by decide)) rfl ?_
  refine s_memN (m_alloc al_52 LEN_) APP_ rfl ?_
  refine s_storeR rfl rfl rfl rfl sz_52 EQ_ EQ_ SET_ ?_
  refine s_nil ?_
  refine S_ ?_
  refine c_region ?_
  refine s_val (v_idxA1 (j := 0) rfl rfl Try.underlying52 sz_40 (by omega)) rfl ?_
  refine s_val (v_load64 rfl rfl row_40 LT_) rfl ?_
  refine s_val (v_add64 (b := 19#64) rfl rfl) rfl ?_
  refine s_val (v_idxA1 (j := 0) rfl rfl Try.underlying52 sz_40 (by omega)) rfl ?_
  refine s_store64 rfl rfl rfl sz_40 LT_ SET_ ?_
  refine s_nil ?_
  refine S_ ?_
  refine c_region ?_
  refine s_val (v_assignC rfl) rfl ?_
  refine s_nil ?_
  refine S_ ?_
  refine c_region ?_
  refine s_val (v_moveC rfl) rfl ?_
  refine s_nil ?_
  refine S_ ?_
  refine c_loopC [1, 2, 3, 4, 18] (fun (zz : Nat × BitVec 64 × List (BitVec 64)) => ⟨84, keepT [1, 2, 3, 4, 18] [.c (.ptr 0 0), .c (.ptr 1 0), .c (.ptr 2 0), .c (.val (U64 (zz.2.1))), .c (.val (.int .i64 (((zz.1 : Nat) : Int))))], [.row true (.a64 (lmCar (lmCar (lmCar a)))), .row true (.a8 (zer8 32)), .row true (.a64 (zz.2.2))]⟩) (fun j6 => (j6, lmBytes_L6 a j6)) (5) (by kernel_rfl) ?_ ?_
  · intro j6 hj6
    try dsimp only
    have hX5 : (lmBytes_L6 a j6).2.length = 5 := by rw [lmBytes_L6_len1 a ha _]; try omega
    rw [lmBytes_L6.eq_2, lmBytes_L6_S]
    generalize lmBytes_L6 a j6 = Z6 at *
    obtain ⟨X4, X5⟩ := Z6
    try dsimp only at *
    refine S_ ?_
    refine c_region ?_
    refine s_val (v_lssN (b := 5) rfl rfl) rfl ?_
    refine s_nil ?_
    refine S_ ?_
    refine c_region ?_
    refine s_val (v_moveC rfl) rfl ?_
    refine s_val (v_assignC rfl) rfl ?_
    refine s_nil ?_
    refine S_ ?_
    refine c_region ?_
    refine s_val (v_moveC rfl) rfl ?_
    refine s_val (v_idxA1 rfl rfl Try.underlying52 sz_40 (by omega)) rfl ?_
    refine s_val (v_load64 rfl rfl row_40 LT_) rfl ?_
    refine s_val (v_moveC rfl) rfl ?_
    refine s_val (v_add64 rfl rfl) rfl ?_
    refine s_val (v_idxA1 rfl rfl Try.underlying52 sz_40 (by omega)) rfl ?_
    refine s_store64 rfl rfl rfl sz_40 LT_ SET_ ?_
    refine s_nil ?_
    refine S_ ?_
    refine c_region ?_
    refine s_val (v_moveC rfl) rfl ?_
    refine s_val (v_idxA1 rfl rfl Try.underlying52 sz_40 (by omega)) rfl ?_
    refine s_val (v_load64 rfl rfl row_40 LT_) rfl ?_
    refine s_val (v_shr64n (j := 51) rfl rfl) rfl ?_
    refine s_val (v_assignC rfl) rfl ?_
    refine s_nil ?_
    refine S_ ?_
    refine c_region ?_
    refine s_val (v_moveC rfl) rfl ?_
    refine s_val (v_idxA1 rfl rfl Try.underlying52 sz_40 (by omega)) rfl ?_
    refine s_val (v_load64 rfl rfl row_40 LT_) rfl ?_
    refine s_val (v_and64 (b := 2251799813685247#64) rfl rfl) rfl ?_
    refine s_val (v_idxA1 rfl rfl Try.underlying52 sz_40 (by omega)) rfl ?_
    refine s_store64 rfl rfl rfl sz_40 LT_ SET_ ?_
    refine s_nil ?_
    refine S_ ?_
    refine c_region ?_
    refine s_val (v_addN (b := 1) rfl rfl (by omega)) rfl ?_
    refine s_val (v_moveC rfl) rfl ?_
    refine s_nil ?_
    exact ⟨(j6 + 1, _), by kernel_rfl, rfl⟩
  · try dsimp only
    have hY8 : (lmBytes_L6 a 5).2.length = 5 := by rw [lmBytes_L6_len1 a ha _]; try omega
    generalize lmBytes_L6 a 5 = Z9 at *
    obtain ⟨Y7, Y8⟩ := Z9
    try dsimp only at *
    refine S_ ?_
    refine c_region ?_
    refine s_val (v_lssN (a := 5) (b := 5) rfl rfl) rfl ?_
    refine s_nil ?_
    refine S_ ?_
    refine c_region ?_
    refine s_val (v_moveC rfl) rfl ?_
    refine s_val (v_gtr64 (b := 0#64) rfl rfl) rfl ?_
    refine s_nil ?_
    refine Q_ ?_
    refine c_join [1, 2] (fun (zz : List (BitVec 64)) => ⟨84, keepT [1, 2] [.c (.ptr 0 0), .c (.ptr 1 0)], [.row true (.a64 (zz)), .row true (.a8 (zer8 32))]⟩) (if (0#64).toNat < Y7.toNat then Y8 else lmCar (lmCar (lmCar a))) rfl (fun hb => ?_) (fun hb => ?_) ?_
    · -- the test is True
      have hb_ := of_decide_eq_true hb
      refine S_ ?_
      refine c_region ?_
      refine s_val (v_loadR rfl rfl row_52 sz_52 EQ_ (by decide)) rfl ?_
      refine s_storeR rfl rfl rfl rfl sz_52 EQ_ EQ_ SET_ ?_
      refine s_nil ?_
      refine S_ ?_
      refine ⟨Y8, by kernel_rfl, ?_⟩
      rw [if_pos (of_decide_eq_true hb)]
    · -- the test is False
      have hb_ := of_decide_eq_false hb
      refine S_ ?_
      refine ⟨(lmCar (lmCar (lmCar a))), by kernel_rfl, ?_⟩
      rw [if_neg (of_decide_eq_false hb)]
    have hJ10 : (if (0#64).toNat < Y7.toNat then Y8 else lmCar (lmCar (lmCar a))).length = 5 := by split <;> simp [*]
    generalize (if (0#64).toNat < Y7.toNat then Y8 else lmCar (lmCar (lmCar a))) = J10 at *
    refine S_ ?_
    refine c_region ?_
    refine s_val (v_idxA1 (j := 0) rfl rfl Try.underlying52 sz_40 (by omega)) rfl ?_
    refine s_val (v_load64 rfl rfl row_40 LT_) rfl ?_
    refine s_val (v_idxA1 (j := 1) rfl rfl Try.underlying52 sz_40 (by omega)) rfl ?_
    refine s_val (v_load64 rfl rfl row_40 LT_) rfl ?_
    refine s_val (v_shl64n (j := 51) rfl rfl) rfl ?_
    refine s_val (v_or64 rfl rfl) rfl ?_
    refine s_val (v_idxA1 (j := 1) rfl rfl Try.underlying52 sz_40 (by omega)) rfl ?_
    refine s_val (v_load64 rfl rfl row_40 LT_) rfl ?_
    refine s_val (v_shr64n (j := 13) rfl rfl) rfl ?_
    refine s_val (v_idxA1 (j := 2) rfl rfl Try.underlying52 sz_40 (by omega)) rfl ?_
    refine s_val (v_load64 rfl rfl row_40 LT_) rfl ?_
    refine s_val (v_shl64n (j := 38) rfl rfl) rfl ?_
    refine s_val (v_or64 rfl rfl) rfl ?_
    refine s_val (v_idxA1 (j := 2) rfl rfl Try.underlying52 sz_40 (by omega)) rfl ?_
    refine s_val (v_load64 rfl rfl row_40 LT_) rfl ?_
    refine s_val (v_shr64n (j := 26) rfl rfl) rfl ?_
    refine s_val (v_idxA1 (j := 3) rfl rfl Try.underlying52 sz_40 (by omega)) rfl ?_
    refine s_val (v_load64 rfl rfl row_40 LT_) rfl ?_
    refine s_val (v_shl64n (j := 25) rfl rfl) rfl ?_
    refine s_val (v_or64 rfl rfl) rfl ?_
    refine s_val (v_idxA1 (j := 3) rfl rfl Try.underlying52 sz_40 (by omega)) rfl ?_
    refine s_val (v_load64 rfl rfl row_40 LT_) rfl ?_
    refine s_val (v_shr64n (j := 39) rfl rfl) rfl ?_
    refine s_val (v_idxA1 (j := 4) rfl rfl Try.underlying52 sz_40 (by omega)) rfl ?_
    refine s_val (v_load64 rfl rfl row_40 LT_) rfl ?_
    refine s_val (v_shl64n (j := 12) rfl rfl) rfl ?_
    refine s_val (v_or64 rfl rfl) rfl ?_
    refine s_val (v_bld64 (l := [_, _, _, _]) zc_41 Try.underlying41 sz_40 rfl rfl (by decide)) rfl ?_
    refine s_memN (m_alloc al_41 LEN_) APP_ rfl ?_
    refine s_storeR rfl rfl rfl rfl sz_41 EQ_ EQ_ SET_ ?_
    refine s_nil ?_
    refine S_ ?_
    refine c_region ?_
    refine s_memN (m_alloc al_22 LEN_) APP_ rfl ?_
    refine s_nil ?_
    refine S_ ?_
    refine c_region ?_
    refine s_val (v_moveC rfl) rfl ?_
    refine s_nil ?_
    refine S_ ?_
    refine c_loopC [2, 6, 7, 68] (fun (zz : Nat × List (BitVec 8)) => ⟨84, keepT [2, 6, 7, 68] [.c (.ptr 0 0), .c (.ptr 1 0), .c (.ptr 2 0), .c (.val (.int .i64 (((zz.1 : Nat) : Int))))], [.row true (.a8 (zer8 32)), .row true (.a64 ([(nth J10 0) ||| ((nth J10 1) <<< 51), ((nth J10 1) >>> 13) ||| ((nth J10 2) <<< 38), ((nth J10 2) >>> 26) ||| ((nth J10 3) <<< 25), ((nth J10 3) >>> 39) ||| ((nth J10 4) <<< 12)])), .row true (.a8 (zz.2))]⟩) (fun j17 => (j17, lmBytes_L17 J10 j17)) (32) (by kernel_rfl) ?_ ?_
    · intro j17 hj17
      try dsimp only
      have hX11 : (lmBytes_L17 J10 j17).length = 32 := by rw [lmBytes_L17_len J10 _]; try omega
      rw [lmBytes_L17.eq_2, lmBytes_L17_S]
      generalize lmBytes_L17 J10 j17 = X11 at *
      refine S_ ?_
      refine c_region ?_
      refine s_val (v_lssN (b := 32) rfl rfl) rfl ?_
      refine s_nil ?_
      refine S_ ?_
      refine c_region ?_
      refine s_val (v_moveC rfl) rfl ?_
      refine s_val (v_assignC rfl) rfl ?_
      refine s_nil ?_
      refine S_ ?_
      refine c_region ?_
      refine s_val (v_moveC rfl) rfl ?_
      refine s_val (v_moveC rfl) rfl ?_
      refine s_val (v_quoN (b := 8) rfl rfl (by omega) (by omega)) rfl ?_
      refine s_val (v_idxA1 rfl rfl Try.underlying41 sz_40 (by omega)) rfl ?_
      refine s_val (v_load64 rfl rfl row_40 LT_) rfl ?_
      refine s_val (v_moveC rfl) rfl ?_
      refine s_val (v_remN (b := 8) rfl rfl (by omega) (by omega)) rfl ?_
      refine s_val (v_mulN (a := 8) rfl rfl (by omega)) rfl ?_
      refine s_val (v_shr64n rfl rfl) rfl ?_
      refine s_val (v_conv rfl Try.underlying40 Try.underlying5 (w64_8 _)) rfl ?_
      refine s_val (v_idxA1 rfl rfl Try.underlying22 sz_5 (by omega)) rfl ?_
      refine s_store8 rfl rfl rfl sz_5 LT_ SET_ ?_
      refine s_nil ?_
      refine S_ ?_
      refine c_region ?_
      refine s_val (v_addN (b := 1) rfl rfl (by omega)) rfl ?_
      refine s_val (v_moveC rfl) rfl ?_
      refine s_nil ?_
      exact ⟨(j17 + 1, _), by kernel_rfl, rfl⟩
    · try dsimp only
      have hY12 : (lmBytes_L17 J10 32).length = 32 := by rw [lmBytes_L17_len J10 _]; try omega
      generalize lmBytes_L17 J10 32 = Y12 at *
      refine S_ ?_
      refine c_region ?_
      refine s_val (v_lssN (a := 32) (b := 32) rfl rfl) rfl ?_
      refine s_nil ?_
      refine S_ ?_
      refine c_region ?_
      refine s_val (v_loadR rfl rfl row_22 sz_22 EQ_ (by decide)) rfl ?_
      refine s_storeR rfl rfl rfl rfl sz_22 EQ_ EQ_ SET_ ?_
      refine s_nil ?_
      refine S_ ?_
      rw [hP.out]
      exact k_1 (r_row rfl rfl row_22 sz_22 EQ_ (by decide)) (by first | kernel_rfl | rfl)
@[simp] theorem lmBytes_len (a : List (BitVec 64)) (ha : a.length = 5) : (lmBytes a).length = 32 := by
  unfold lmBytes
  first | (simp (maxDischargeDepth := 9) [lmBytes_L6_len1, lmBytes_L17_len, *]; done) | (simp (maxDischargeDepth := 9) [lmBytes_L6_len1, lmBytes_L17_len, *]; omega) | (split <;> (simp (maxDischargeDepth := 9) [lmBytes_L6_len1, lmBytes_L17_len, *]; done))
attribute [irreducible] lmBytes
end Go.Proofs.Ytcgncafhonlmlaa
namespace Go.Proofs.Ytcgncafhonlmlaa
open Go.RowKit
def lmSmall (x : BitVec 64) : List (BitVec 64) := put (zer64 5) 0 x
set_option maxRecDepth 100000 in
set_option maxHeartbeats 2000000 in
theorem lmSmall_ev (x : BitVec 64)  : Ev Try.prog (.call 68 [.c (.val (U64 x))] []) (.val (.agg (.a64 (lmSmall x))) []) := by
  have hP : Hid (lmSmall x = put (zer64 5) 0 x) := ⟨rfl⟩
  refine c_call Try.func68 rfl Try.ntmps68 rfl LEN_ ?_
  refine S_ ?_
  refine c_region ?_
  refine s_memN (m_alloc al_52 LEN_) APP_ rfl ?_
  refine s_nil ?_
  refine S_ ?_
  refine c_region ?_
  refine s_val (v_moveC rfl) rfl ?_
  refine s_val (v_blo64 za_52 Try.underlying52 sz_40 rfl rfl rfl) rfl ?_
  refine s_storeR rfl rfl rfl rfl sz_52 EQ_ EQ_ SET_ ?_
  refine s_nil ?_
  refine S_ ?_
  rw [hP.out]
  exact k_1 (r_row rfl rfl row_52 sz_52 EQ_ (by decide)) (by first | kernel_rfl | rfl)
@[simp] theorem lmSmall_len (x : BitVec 64) : (lmSmall x).length = 5 := by
  unfold lmSmall
  first | (simp [*]; done) | (simp [*]; omega)
attribute [irreducible] lmSmall
def lmAdd_L2_S (b : List (BitVec 64)) (X1 : List (BitVec 64)) (j2 : Nat) : List (BitVec 64) := put X1 j2 ((nth X1 j2) + (nth b j2))
def lmAdd_L2 (a : List (BitVec 64)) (b : List (BitVec 64)) : Nat → List (BitVec 64)
  | 0 => a
  | j2 + 1 => lmAdd_L2_S b (lmAdd_L2 a b j2) j2
theorem lmAdd_L2_len (a : List (BitVec 64)) (b : List (BitVec 64)) (ha : a.length = 5) (j2 : Nat) : (lmAdd_L2 a b j2).length = 5 := by
  induction j2 with
  | zero => first | (simp [lmAdd_L2, *]; done) | (simp [lmAdd_L2, *]; omega)
  | succ j2 ih => rw [lmAdd_L2.eq_2, lmAdd_L2_S]; first | (simp [ih]; done) | (simp [ih]; omega) | (simp [*]; done) | (simp [*]; omega) | (split <;> first | (simp [ih]; done) | (simp [ih]; omega) | (simp [*]; done))
def lmAdd (a : List (BitVec 64)) (b : List (BitVec 64)) : List (BitVec 64) := lmCar (lmAdd_L2 a b 5)
set_option maxRecDepth 100000 in
set_option maxHeartbeats 2000000 in
theorem lmAdd_ev (a : List (BitVec 64)) (b : List (BitVec 64)) (ha : a.length = 5) (hb : b.length = 5) : Ev Try.prog (.call 70 [.agg (.a64 (a)), .agg (.a64 (b))] []) (.val (.agg (.a64 (lmAdd a b))) []) := by
  have hP : Hid (lmAdd a b = lmCar (lmAdd_L2 a b 5)) := ⟨rfl⟩
  refine c_call Try.func70 rfl Try.ntmps70 rfl LEN_ ?_
  refine S_ ?_
  refine c_region ?_
  refine s_memN (m_box BX_ LEN_) APP_ rfl ?_
  refine s_memN (m_box BX_ LEN_) APP_ rfl ?_
  refine s_memN (m_alloc al_52 LEN_) APP_ rfl ?_
  refine s_nil ?_
  refine S_ ?_
  refine c_region ?_
  refine s_val (v_moveC rfl) rfl ?_
  refine s_nil ?_
  refine S_ ?_
  refine c_loopC [2, 3, 4, 6] (fun (zz : Nat × List (BitVec 64)) => ⟨20, keepT [2, 3, 4, 6] [.c (.ptr 0 0), .c (.ptr 1 0), .c (.ptr 2 0), .c (.val (.int .i64 (((zz.1 : Nat) : Int))))], [.row true (.a64 (zz.2)), .row true (.a64 (b)), .row true (.a64 (zer64 5))]⟩) (fun j2 => (j2, lmAdd_L2 a b j2)) (5) (by kernel_rfl) ?_ ?_
  · intro j2 hj2
    try dsimp only
    have hX1 : (lmAdd_L2 a b j2).length = 5 := by rw [lmAdd_L2_len a b ha _]; try omega
    rw [lmAdd_L2.eq_2, lmAdd_L2_S]
    generalize lmAdd_L2 a b j2 = X1 at *
    refine S_ ?_
    refine c_region ?_
    refine s_val (v_lssN (b := 5) rfl rfl) rfl ?_
    refine s_nil ?_
    refine S_ ?_
    refine c_region ?_
    refine s_val (v_moveC rfl) rfl ?_
    refine s_val (v_assignC rfl) rfl ?_
    refine s_nil ?_
    refine S_ ?_
    refine c_draw 8 mixed (by kernel_rfl) rfl rfl rfl ?_
    refine h_val (v_moveC rfl) rfl ?_
    refine h_val (v_idxA1 rfl rfl Try.underlying52 sz_40 (by omega)) rfl ?_
    refine h_val (v_load64 rfl rfl row_40 LT_) rfl ?_
    refine h_val (v_moveC rfl) rfl ?_
    refine h_val (v_idxA1 rfl rfl Try.underlying52 sz_40 (by omega)) rfl ?_
    refine h_val (v_load64 rfl rfl row_40 LT_) rfl ?_
    refine h_val (v_add64 rfl rfl) rfl ?_
    refine h_val (v_idxA1 rfl rfl Try.underlying52 sz_40 (by omega)) rfl ?_
    refine h_nil ?_
    refine s_store64 rfl rfl rfl sz_40 LT_ SET_ ?_
    refine s_nil ?_
    refine S_ ?_
    refine c_region ?_
    refine s_val (v_addN (b := 1) rfl rfl (by omega)) rfl ?_
    refine s_val (v_moveC rfl) rfl ?_
    refine s_nil ?_
    exact ⟨(j2 + 1, _), by kernel_rfl, rfl⟩
  · try dsimp only
    have hY2 : (lmAdd_L2 a b 5).length = 5 := by rw [lmAdd_L2_len a b ha _]; try omega
    generalize lmAdd_L2 a b 5 = Y2 at *
    refine S_ ?_
    refine c_region ?_
    refine s_val (v_lssN (a := 5) (b := 5) rfl rfl) rfl ?_
    refine s_nil ?_
    have hQ3 : (lmCar Y2).length = 5 := LQ_
    refine S_ ?_
    refine c_region ?_
    refine s_val (v_loadR rfl rfl row_52 sz_52 EQ_ (by decide)) rfl ?_
    refine s_evN (e_callR (bs := []) (lmCar_ev Y2 HYP_) ok_96 (by kernel_rfl) (by kernel_rfl) rfl VAL_) APP_ rfl ?_
    refine s_storeR rfl rfl rfl rfl sz_52 EQ_ EQ_ SET_ ?_
    refine s_nil ?_
    refine S_ ?_
    rw [hP.out]
    exact k_1 (r_row rfl rfl row_52 sz_52 EQ_ (by decide)) (by first | kernel_rfl | rfl)
@[simp] theorem lmAdd_len (a : List (BitVec 64)) (b : List (BitVec 64)) (ha : a.length = 5) (hb : b.length = 5) : (lmAdd a b).length = 5 := by
  unfold lmAdd
  first | (simp [lmAdd_L2_len, *]; done) | (simp [lmAdd_L2_len, *]; omega)
attribute [irreducible] lmAdd
def lmSub_L3_S (b : List (BitVec 64)) (X1 : List (BitVec 64)) (j3 : Nat) : List (BitVec 64) := put X1 j3 ((nth X1 j3) + ((nth [9007199254740916#64, 9007199254740988#64, 9007199254740988#64, 9007199254740988#64, 9007199254740988#64] j3) - (nth b j3)))
def lmSub_L3 (a : List (BitVec 64)) (b : List (BitVec 64)) : Nat → List (BitVec 64)
  | 0 => a
  | j3 + 1 => lmSub_L3_S b (lmSub_L3 a b j3) j3
theorem lmSub_L3_len (a : List (BitVec 64)) (b : List (BitVec 64)) (ha : a.length = 5) (j3 : Nat) : (lmSub_L3 a b j3).length = 5 := by
  induction j3 with
  | zero => first | (simp [lmSub_L3, *]; done) | (simp [lmSub_L3, *]; omega)
  | succ j3 ih => rw [lmSub_L3.eq_2, lmSub_L3_S]; first | (simp [ih]; done) | (simp [ih]; omega) | (simp [*]; done) | (simp [*]; omega) | (split <;> first | (simp [ih]; done) | (simp [ih]; omega) | (simp [*]; done))
def lmSub (a : List (BitVec 64)) (b : List (BitVec 64)) : List (BitVec 64) := lmCar (lmSub_L3 a b 5)
set_option maxRecDepth 100000 in
set_option maxHeartbeats 2000000 in
theorem lmSub_ev (a : List (BitVec 64)) (b : List (BitVec 64)) (ha : a.length = 5) (hb : b.length = 5) : Ev Try.prog (.call 67 [.agg (.a64 (a)), .agg (.a64 (b))] []) (.val (.agg (.a64 (lmSub a b))) []) := by
  have hP : Hid (lmSub a b = lmCar (lmSub_L3 a b 5)) := ⟨rfl⟩
  refine c_call Try.func67 rfl Try.ntmps67 rfl LEN_ ?_
  refine S_ ?_
  refine c_region ?_
  refine s_memN (m_box BX_ LEN_) APP_ rfl ?_
  refine s_memN (m_box BX_ LEN_) APP_ rfl ?_
  refine s_memN (m_alloc al_52 LEN_) APP_ rfl ?_
  refine s_nil ?_
  refine S_ ?_
  refine c_region ?_
  refine s_val (v_bld64 (l := [9007199254740916#64, 9007199254740988#64, 9007199254740988#64, 9007199254740988#64, 9007199254740988#64]) zc_52 Try.underlying52 sz_40 rfl rfl (by decide)) rfl ?_
  refine s_memN (m_alloc al_52 LEN_) APP_ rfl ?_
  refine s_storeR rfl rfl rfl rfl sz_52 EQ_ EQ_ SET_ ?_
  refine s_nil ?_
  refine S_ ?_
  refine c_region ?_
  refine s_val (v_moveC rfl) rfl ?_
  refine s_nil ?_
  refine S_ ?_
  refine c_loopC [2, 3, 4, 5, 8] (fun (zz : Nat × List (BitVec 64)) => ⟨26, keepT [2, 3, 4, 5, 8] [.c (.ptr 0 0), .c (.ptr 1 0), .c (.ptr 2 0), .c (.ptr 3 0), .c (.val (.int .i64 (((zz.1 : Nat) : Int))))], [.row true (.a64 (zz.2)), .row true (.a64 (b)), .row true (.a64 (zer64 5)), .row true (.a64 ([9007199254740916#64, 9007199254740988#64, 9007199254740988#64, 9007199254740988#64, 9007199254740988#64]))]⟩) (fun j3 => (j3, lmSub_L3 a b j3)) (5) (by kernel_rfl) ?_ ?_
  · intro j3 hj3
    try dsimp only
    have hX1 : (lmSub_L3 a b j3).length = 5 := by rw [lmSub_L3_len a b ha _]; try omega
    rw [lmSub_L3.eq_2, lmSub_L3_S]
    generalize lmSub_L3 a b j3 = X1 at *
    refine S_ ?_
    refine c_region ?_
    refine s_val (v_lssN (b := 5) rfl rfl) rfl ?_
    refine s_nil ?_
    refine S_ ?_
    refine c_region ?_
    refine s_val (v_moveC rfl) rfl ?_
    refine s_val (v_assignC rfl) rfl ?_
    refine s_nil ?_
    refine S_ ?_
    refine c_draw 12 mixed (by kernel_rfl) rfl rfl rfl ?_
    refine h_val (v_moveC rfl) rfl ?_
    refine h_val (v_idxA1 rfl rfl Try.underlying52 sz_40 (by omega)) rfl ?_
    refine h_val (v_load64 rfl rfl row_40 LT_) rfl ?_
    refine h_val (v_moveC rfl) rfl ?_
    refine h_val (v_idxA1 rfl rfl Try.underlying52 sz_40 (by omega)) rfl ?_
    refine h_val (v_load64 rfl rfl row_40 LT_) rfl ?_
    refine h_val (v_moveC rfl) rfl ?_
    refine h_val (v_idxA1 rfl rfl Try.underlying52 sz_40 (by omega)) rfl ?_
    refine h_val (v_load64 rfl rfl row_40 LT_) rfl ?_
    refine h_val (v_sub64 rfl rfl) rfl ?_
    refine h_val (v_add64 rfl rfl) rfl ?_
    refine h_val (v_idxA1 rfl rfl Try.underlying52 sz_40 (by omega)) rfl ?_
    refine h_nil ?_
    refine s_store64 rfl rfl rfl sz_40 LT_ SET_ ?_
    refine s_nil ?_
    refine S_ ?_
    refine c_region ?_
    refine s_val (v_addN (b := 1) rfl rfl (by omega)) rfl ?_
    refine s_val (v_moveC rfl) rfl ?_
    refine s_nil ?_
    exact ⟨(j3 + 1, _), by kernel_rfl, rfl⟩
  · try dsimp only
    have hY2 : (lmSub_L3 a b 5).length = 5 := by rw [lmSub_L3_len a b ha _]; try omega
    generalize lmSub_L3 a b 5 = Y2 at *
    refine S_ ?_
    refine c_region ?_
    refine s_val (v_lssN (a := 5) (b := 5) rfl rfl) rfl ?_
    refine s_nil ?_
    have hQ3 : (lmCar Y2).length = 5 := LQ_
    refine S_ ?_
    refine c_region ?_
    refine s_val (v_loadR rfl rfl row_52 sz_52 EQ_ (by decide)) rfl ?_
    refine s_evN (e_callR (bs := []) (lmCar_ev Y2 HYP_) ok_96 (by kernel_rfl) (by kernel_rfl) rfl VAL_) APP_ rfl ?_
    refine s_storeR rfl rfl rfl rfl sz_52 EQ_ EQ_ SET_ ?_
    refine s_nil ?_
    refine S_ ?_
    rw [hP.out]
    exact k_1 (r_row rfl rfl row_52 sz_52 EQ_ (by decide)) (by first | kernel_rfl | rfl)
@[simp] theorem lmSub_len (a : List (BitVec 64)) (b : List (BitVec 64)) (ha : a.length = 5) (hb : b.length = 5) : (lmSub a b).length = 5 := by
  unfold lmSub
  first | (simp [lmSub_L3_len, *]; done) | (simp [lmSub_L3_len, *]; omega)
attribute [irreducible] lmSub
end Go.Proofs.Ytcgncafhonlmlaa
namespace Go.Proofs.Ytcgncafhonlmlaa
open Go.RowKit
def lV (a : List (BitVec 64)) : Nat := (nth a 0).toNat + (nth a 1).toNat * 2251799813685248 + (nth a 2).toNat * 5070602400912917605986812821504 + (nth a 3).toNat * 11417981541647679048466287755595961091061972992 + (nth a 4).toNat * 25711008708143844408671393477458601640355247900524685364822016
def wV (a : List (BitVec 64)) : Nat := (nth a 0).toNat + (nth a 1).toNat * 18446744073709551616 + (nth a 2).toNat * 340282366920938463463374607431768211456 + (nth a 3).toNat * 6277101735386680763835789423207666416102355444464034512896
def LF (a : List (BitVec 64)) : Fp := zf (lV a)
def Low (n : Nat) (a : List (BitVec 64)) : Prop := a.length = 5 ∧ (nth a 0).toNat < n ∧ (nth a 1).toNat < n ∧ (nth a 2).toNat < n ∧ (nth a 3).toNat < n ∧ (nth a 4).toNat < n
abbrev Fine (a : List (BitVec 64)) : Prop := Low 4503599627370496 a
theorem five {a : List (BitVec 64)} (h : a.length = 5) : ∃ a0 a1 a2 a3 a4, a = [a0, a1, a2, a3, a4] := by
  match a, h with
  | [a0, a1, a2, a3, a4], _ => exact ⟨_, _, _, _, _, rfl⟩
theorem add_nat {x y : BitVec 64} (h : x.toNat + y.toNat < 18446744073709551616) : (x + y).toNat = x.toNat + y.toNat := by
  rw [BitVec.toNat_add, Nat.mod_eq_of_lt (by omega)]
theorem shr_nat (x : BitVec 64) (k : Nat) : (x >>> k).toNat = x.toNat / 2 ^ k := by
  rw [BitVec.toNat_ushiftRight, Nat.shiftRight_eq_div_pow]
theorem shr51 (x : BitVec 64) : (x >>> 51).toNat = x.toNat / 2251799813685248 := shr_nat x 51
theorem or_low {x y : BitVec 64} (j : Nat) (hx : x.toNat < 2 ^ j) : (x ||| y <<< j).toNat = x.toNat + y.toNat * 2 ^ j % 18446744073709551616 := by
  rw [BitVec.toNat_or, BitVec.toNat_shiftLeft, Nat.shiftLeft_eq]
  rcases Nat.lt_or_ge 64 j with hj | hj
  · have e : y.toNat * 2 ^ j % 2 ^ 64 = 0 := by
      obtain ⟨k, rfl⟩ : ∃ k, j = 64 + k := ⟨j - 64, by omega⟩
      rw [Nat.pow_add, show y.toNat * (2 ^ 64 * 2 ^ k) = 2 ^ 64 * (y.toNat * 2 ^ k) from by grobner, Nat.mul_mod_right]
    rw [e, Nat.or_zero, Nat.add_zero]
  · have e : y.toNat * 2 ^ j % 2 ^ 64 = y.toNat % 2 ^ (64 - j) * 2 ^ j := by
      have : (2 : Nat) ^ 64 = 2 ^ (64 - j) * 2 ^ j := by rw [← Nat.pow_add, show 64 - j + j = 64 by omega]
      rw [this, Nat.mul_mod_mul_right]
    rw [show (18446744073709551616 : Nat) = 2 ^ 64 from rfl, e, Nat.or_comm, ← Nat.shiftLeft_eq, ← Nat.shiftLeft_add_eq_or_of_lt hx, Nat.shiftLeft_eq, Nat.add_comm]
def car5 (a0 a1 a2 a3 a4 : BitVec 64) : List (BitVec 64) × BitVec 64 :=
  let s0 := a0 + 0#64
  let s1 := a1 + s0 >>> 51
  let s2 := a2 + s1 >>> 51
  let s3 := a3 + s2 >>> 51
  let s4 := a4 + s3 >>> 51
  ([s0 &&& 2251799813685247#64, s1 &&& 2251799813685247#64, s2 &&& 2251799813685247#64, s3 &&& 2251799813685247#64, s4 &&& 2251799813685247#64], s4 >>> 51)
theorem car5_eq (a0 a1 a2 a3 a4 : BitVec 64) : lmCar_L3 [a0, a1, a2, a3, a4] 5 = ((car5 a0 a1 a2 a3 a4).2, (car5 a0 a1 a2 a3 a4).1) := by kernel_rfl
theorem car5_spec (a0 a1 a2 a3 a4 : BitVec 64) (h0 : a0.toNat < 9223372036854775808) (h1 : a1.toNat < 9223372036854775808) (h2 : a2.toNat < 9223372036854775808) (h3 : a3.toNat < 9223372036854775808) (h4 : a4.toNat < 9223372036854775808) :
    ∃ r0 r1 r2 r3 r4 c : BitVec 64, car5 a0 a1 a2 a3 a4 = ([r0, r1, r2, r3, r4], c) ∧ r0.toNat < 2251799813685248 ∧ r1.toNat < 2251799813685248 ∧ r2.toNat < 2251799813685248 ∧ r3.toNat < 2251799813685248 ∧ r4.toNat < 2251799813685248 ∧
      a0.toNat + a1.toNat * 2251799813685248 + a2.toNat * 5070602400912917605986812821504 + a3.toNat * 11417981541647679048466287755595961091061972992 + a4.toNat * 25711008708143844408671393477458601640355247900524685364822016 =
      r0.toNat + r1.toNat * 2251799813685248 + r2.toNat * 5070602400912917605986812821504 + r3.toNat * 11417981541647679048466287755595961091061972992 + r4.toNat * 25711008708143844408671393477458601640355247900524685364822016 + c.toNat * 57896044618658097711785492504343953926634992332820282019728792003956564819968 := by
  refine ⟨_, _, _, _, _, _, rfl, ?_⟩
  have e0 : (a0 + 0#64).toNat = a0.toNat := by rw [BitVec.add_zero]
  generalize a0 + 0#64 = s0 at *
  have c0 := shr51 s0
  have e1 := add_nat (x := a1) (y := s0 >>> 51) (by omega)
  generalize a1 + s0 >>> 51 = s1 at *
  have c1 := shr51 s1
  have e2 := add_nat (x := a2) (y := s1 >>> 51) (by omega)
  generalize a2 + s1 >>> 51 = s2 at *
  have c2 := shr51 s2
  have e3 := add_nat (x := a3) (y := s2 >>> 51) (by omega)
  generalize a3 + s2 >>> 51 = s3 at *
  have c3 := shr51 s3
  have e4 := add_nat (x := a4) (y := s3 >>> 51) (by omega)
  generalize a4 + s3 >>> 51 = s4 at *
  have c4 := shr51 s4
  have m0 := mask_toNat s0
  have m1 := mask_toNat s1
  have m2 := mask_toNat s2
  have m3 := mask_toNat s3
  have m4 := mask_toNat s4
  rw [m0, m1, m2, m3, m4]
  omega
theorem car_exact {a : List (BitVec 64)} (h : Low 9223372036854775808 a) : ∃ r0 r1 r2 r3 r4 c : Nat, (lmCar a).length = 5 ∧ (nth (lmCar a) 0).toNat = r0 + 19 * c ∧ (nth (lmCar a) 1).toNat = r1 ∧ (nth (lmCar a) 2).toNat = r2 ∧ (nth (lmCar a) 3).toNat = r3 ∧ (nth (lmCar a) 4).toNat = r4 ∧
    r0 < 2251799813685248 ∧ r1 < 2251799813685248 ∧ r2 < 2251799813685248 ∧ r3 < 2251799813685248 ∧ r4 < 2251799813685248 ∧
    lV a = r0 + r1 * 2251799813685248 + r2 * 5070602400912917605986812821504 + r3 * 11417981541647679048466287755595961091061972992 + r4 * 25711008708143844408671393477458601640355247900524685364822016 + c * 57896044618658097711785492504343953926634992332820282019728792003956564819968 := by
  obtain ⟨hl, h0, h1, h2, h3, h4⟩ := h
  obtain ⟨a0, a1, a2, a3, a4, rfl⟩ := five hl
  obtain ⟨r0, r1, r2, r3, r4, c, he, g0, g1, g2, g3, g4, g5⟩ := car5_spec a0 a1 a2 a3 a4 h0 h1 h2 h3 h4
  have hc : c.toNat ≤ 8192 := by
    change a0.toNat < _ at h0
    change a1.toNat < _ at h1
    change a2.toNat < _ at h2
    change a3.toNat < _ at h3
    change a4.toNat < _ at h4
    omega
  have hm : (19#64 * c).toNat = 19 * c.toNat := by rw [BitVec.toNat_mul]; show 19 * c.toNat % _ = _; rw [Nat.mod_eq_of_lt (by omega)]
  have hs : lmCar [a0, a1, a2, a3, a4] = [r0 + 19#64 * c, r1, r2, r3, r4] := by
    unfold lmCar
    rw [car5_eq, he]
    rfl
  rw [hs]
  refine ⟨r0.toNat, r1.toNat, r2.toNat, r3.toNat, r4.toNat, c.toNat, rfl, ?_, rfl, rfl, rfl, rfl, g0, g1, g2, g3, g4, g5⟩
  show (r0 + 19#64 * c).toNat = _
  rw [add_nat (by rw [hm]; omega), hm]
theorem lV_lt {a : List (BitVec 64)} {n : Nat} (h : Low n a) : lV a < n * 25711008708143855827028953938453824840009041150452446465556481 + 1 := by
  obtain ⟨hl, h0, h1, h2, h3, h4⟩ := h
  unfold lV
  omega
theorem zf_cut {x y c : Nat} (h : x = y + c * 57896044618658097711785492504343953926634992332820282019728792003956564819968) : zf x = zf (y + 19 * c) := by
  rw [zf_eq, h]
  show _ % 57896044618658097711785492504343953926634992332820282019728792003956564819949 = _ % 57896044618658097711785492504343953926634992332820282019728792003956564819949
  omega
theorem car_fine {a : List (BitVec 64)} (h : Low 72057594037927936 a) : Fine (lmCar a) ∧ LF (lmCar a) = LF a := by
  have hlt := lV_lt h
  obtain ⟨hl, h0, h1, h2, h3, h4⟩ := h
  obtain ⟨r0, r1, r2, r3, r4, c, gl, e0, e1, e2, e3, e4, g0, g1, g2, g3, g4, g5⟩ := car_exact (a := a) ⟨hl, by omega, by omega, by omega, by omega, by omega⟩
  have hc : c ≤ 32 := by omega
  refine ⟨⟨gl, by omega, by omega, by omega, by omega, by omega⟩, ?_⟩
  unfold LF
  rw [zf_cut g5]
  congr 1
  unfold lV
  rw [e0, e1, e2, e3, e4]
  omega
theorem add_eq (a0 a1 a2 a3 a4 b0 b1 b2 b3 b4 : BitVec 64) : lmAdd_L2 [a0, a1, a2, a3, a4] [b0, b1, b2, b3, b4] 5 = [a0 + b0, a1 + b1, a2 + b2, a3 + b3, a4 + b4] := by kernel_rfl
theorem add_fine {a b : List (BitVec 64)} (ha : Fine a) (hb : Fine b) : Fine (lmAdd a b) ∧ LF (lmAdd a b) = LF a + LF b := by
  obtain ⟨hl, h0, h1, h2, h3, h4⟩ := ha
  obtain ⟨gl, g0, g1, g2, g3, g4⟩ := hb
  obtain ⟨a0, a1, a2, a3, a4, rfl⟩ := five hl
  obtain ⟨b0, b1, b2, b3, b4, rfl⟩ := five gl
  unfold lmAdd
  rw [add_eq]
  change a0.toNat < _ at h0; change a1.toNat < _ at h1; change a2.toNat < _ at h2; change a3.toNat < _ at h3; change a4.toNat < _ at h4
  change b0.toNat < _ at g0; change b1.toNat < _ at g1; change b2.toNat < _ at g2; change b3.toNat < _ at g3; change b4.toNat < _ at g4
  have e0 := add_nat (x := a0) (y := b0) (by omega)
  have e1 := add_nat (x := a1) (y := b1) (by omega)
  have e2 := add_nat (x := a2) (y := b2) (by omega)
  have e3 := add_nat (x := a3) (y := b3) (by omega)
  have e4 := add_nat (x := a4) (y := b4) (by omega)
  have hlow : Low 72057594037927936 [a0 + b0, a1 + b1, a2 + b2, a3 + b3, a4 + b4] := ⟨rfl, by show (a0 + b0).toNat < _; omega, by show (a1 + b1).toNat < _; omega, by show (a2 + b2).toNat < _; omega, by show (a3 + b3).toNat < _; omega, by show (a4 + b4).toNat < _; omega⟩
  obtain ⟨f1, f2⟩ := car_fine hlow
  refine ⟨f1, f2.trans ?_⟩
  unfold LF
  rw [← zf_add]
  congr 1
  show (a0 + b0).toNat + (a1 + b1).toNat * _ + (a2 + b2).toNat * _ + (a3 + b3).toNat * _ + (a4 + b4).toNat * _ = a0.toNat + a1.toNat * _ + a2.toNat * _ + a3.toNat * _ + a4.toNat * _ + (b0.toNat + b1.toNat * _ + b2.toNat * _ + b3.toNat * _ + b4.toNat * _)
  rw [e0, e1, e2, e3, e4]
  omega
theorem sub_eq (a0 a1 a2 a3 a4 b0 b1 b2 b3 b4 : BitVec 64) : lmSub_L3 [a0, a1, a2, a3, a4] [b0, b1, b2, b3, b4] 5 = [a0 + (9007199254740916#64 - b0), a1 + (9007199254740988#64 - b1), a2 + (9007199254740988#64 - b2), a3 + (9007199254740988#64 - b3), a4 + (9007199254740988#64 - b4)] := by kernel_rfl
theorem sub_nat {x y : BitVec 64} (h : y.toNat ≤ x.toNat) : (x - y).toNat = x.toNat - y.toNat := BitVec.toNat_sub_of_le (by rw [BitVec.le_def]; exact h)
theorem sub_fine {a b : List (BitVec 64)} (ha : Fine a) (hb : Fine b) : Fine (lmSub a b) ∧ LF (lmSub a b) = LF a - LF b := by
  obtain ⟨hl, h0, h1, h2, h3, h4⟩ := ha
  obtain ⟨gl, g0, g1, g2, g3, g4⟩ := hb
  obtain ⟨a0, a1, a2, a3, a4, rfl⟩ := five hl
  obtain ⟨b0, b1, b2, b3, b4, rfl⟩ := five gl
  unfold lmSub
  rw [sub_eq]
  change a0.toNat < _ at h0; change a1.toNat < _ at h1; change a2.toNat < _ at h2; change a3.toNat < _ at h3; change a4.toNat < _ at h4
  change b0.toNat < _ at g0; change b1.toNat < _ at g1; change b2.toNat < _ at g2; change b3.toNat < _ at g3; change b4.toNat < _ at g4
  have p0 : (9007199254740916#64 : BitVec 64).toNat = 9007199254740916 := rfl
  have p1 : (9007199254740988#64 : BitVec 64).toNat = 9007199254740988 := rfl
  have d0 := sub_nat (x := 9007199254740916#64) (y := b0) (by omega)
  have d1 := sub_nat (x := 9007199254740988#64) (y := b1) (by omega)
  have d2 := sub_nat (x := 9007199254740988#64) (y := b2) (by omega)
  have d3 := sub_nat (x := 9007199254740988#64) (y := b3) (by omega)
  have d4 := sub_nat (x := 9007199254740988#64) (y := b4) (by omega)
  have e0 := add_nat (x := a0) (y := 9007199254740916#64 - b0) (by omega)
  have e1 := add_nat (x := a1) (y := 9007199254740988#64 - b1) (by omega)
  have e2 := add_nat (x := a2) (y := 9007199254740988#64 - b2) (by omega)
  have e3 := add_nat (x := a3) (y := 9007199254740988#64 - b3) (by omega)
  have e4 := add_nat (x := a4) (y := 9007199254740988#64 - b4) (by omega)
  generalize a0 + (9007199254740916#64 - b0) = s0 at *
  generalize a1 + (9007199254740988#64 - b1) = s1 at *
  generalize a2 + (9007199254740988#64 - b2) = s2 at *
  generalize a3 + (9007199254740988#64 - b3) = s3 at *
  generalize a4 + (9007199254740988#64 - b4) = s4 at *
  have hlow : Low 72057594037927936 [s0, s1, s2, s3, s4] := ⟨rfl, by show s0.toNat < _; omega, by show s1.toNat < _; omega, by show s2.toNat < _; omega, by show s3.toNat < _; omega, by show s4.toNat < _; omega⟩
  obtain ⟨f1, f2⟩ := car_fine hlow
  refine ⟨f1, f2.trans ?_⟩
  have key : LF [s0, s1, s2, s3, s4] + LF [b0, b1, b2, b3, b4] = LF [a0, a1, a2, a3, a4] := by
    unfold LF
    rw [← zf_add, zf_eq]
    have : lV [s0, s1, s2, s3, s4] + lV [b0, b1, b2, b3, b4] = lV [a0, a1, a2, a3, a4] + 57896044618658097711785492504343953926634992332820282019728792003956564819949 * 4 := by
      show s0.toNat + s1.toNat * _ + s2.toNat * _ + s3.toNat * _ + s4.toNat * _ + (b0.toNat + b1.toNat * _ + b2.toNat * _ + b3.toNat * _ + b4.toNat * _) = a0.toNat + a1.toNat * _ + a2.toNat * _ + a3.toNat * _ + a4.toNat * _ + _
      omega
    rw [this, Nat.add_mul_mod_self_left]
  rw [← key]
  grobner
theorem small_fine {x : BitVec 64} (h : x.toNat < 4503599627370496) : Fine (lmSmall x) ∧ LF (lmSmall x) = zf x.toNat := by
  have e : lmSmall x = [x, 0#64, 0#64, 0#64, 0#64] := by unfold lmSmall; rfl
  rw [e]
  have z : (0#64 : BitVec 64).toNat < 4503599627370496 := by decide
  refine ⟨⟨rfl, h, z, z, z, z⟩, ?_⟩
  have : lV [x, 0#64, 0#64, 0#64, 0#64] = x.toNat := by
    show x.toNat + (0#64).toNat * _ + (0#64).toNat * _ + (0#64).toNat * _ + (0#64).toNat * _ = _
    rw [show (0#64 : BitVec 64).toNat = 0 from rfl]
    omega
  unfold LF
  rw [this]
theorem put_run {n m : Nat} (f : Nat → List (BitVec n)) (g : Nat → BitVec n) (h0 : (f 0).length = m) (hs : ∀ j, f (j + 1) = put (f j) j (g j)) : ∀ j, (f j).length = m ∧ ∀ i, i < j → i < m → nth (f j) i = g i := by
  intro j
  induction j with
  | zero => exact ⟨h0, fun i hi => by omega⟩
  | succ j ih =>
    refine ⟨by rw [hs, put_length, ih.1], fun i hi hm => ?_⟩
    rw [hs]
    by_cases e : j = i
    · subst e; rw [nth_put _ _ _ _ (by rw [ih.1]; exact hm), if_pos rfl]
    · by_cases hj : j < m
      · rw [nth_put _ _ _ _ (by rw [ih.1]; exact hj), if_neg e]; exact ih.2 i (by omega) hm
      · rw [show put (f j) j (g j) = f j from List.set_eq_of_length_le (by rw [ih.1]; omega)]; exact ih.2 i (by omega) hm
theorem byte_at (w : List (BitVec 64)) (i : Nat) (hi : i < 32) : (nth w (i / 8) >>> (8 * (i % 8))).setWidth 8 = BitVec.ofNat 8 (wV w / 256 ^ i) := by
  apply BitVec.eq_of_toNat_eq
  rw [BitVec.toNat_setWidth, BitVec.toNat_ofNat, shr_nat]
  have h0 := (nth w 0).isLt
  have h1 := (nth w 1).isLt
  have h2 := (nth w 2).isLt
  have h3 := (nth w 3).isLt
  unfold wV
  rcases (by omega : i = 0 ∨ i = 1 ∨ i = 2 ∨ i = 3 ∨ i = 4 ∨ i = 5 ∨ i = 6 ∨ i = 7 ∨ i = 8 ∨ i = 9 ∨ i = 10 ∨ i = 11 ∨ i = 12 ∨ i = 13 ∨ i = 14 ∨ i = 15 ∨ i = 16 ∨ i = 17 ∨ i = 18 ∨ i = 19 ∨ i = 20 ∨ i = 21 ∨ i = 22 ∨ i = 23 ∨ i = 24 ∨ i = 25 ∨ i = 26 ∨ i = 27 ∨ i = 28 ∨ i = 29 ∨ i = 30 ∨ i = 31) with h | h | h | h | h | h | h | h | h | h | h | h | h | h | h | h | h | h | h | h | h | h | h | h | h | h | h | h | h | h | h | h <;> subst h <;> simp only [Nat.reduceDiv, Nat.reduceMod, Nat.reduceMul, Nat.reducePow] <;> omega
theorem bytes_run (w : List (BitVec 64)) (f : Nat → List (BitVec 8)) (h0 : (f 0).length = 32) (hs : ∀ j, f (j + 1) = put (f j) j ((nth w (j / 8) >>> (8 * (j % 8))).setWidth 8)) : f 32 = toB (wV w) := by
  obtain ⟨hl, hn⟩ := put_run f (fun j => (nth w (j / 8) >>> (8 * (j % 8))).setWidth 8) h0 hs 32
  refine extNth (by rw [hl, toB_len]) fun i hi => ?_
  rw [hl] at hi
  rw [hn i hi hi, toB_nth _ _ hi, byte_at w i hi]
abbrev Tight (a : List (BitVec 64)) : Prop := Low 2251799813685248 a
theorem car_tight {a : List (BitVec 64)} (h : Fine a) : Tight (lmCar (lmCar a)) ∧ LF (lmCar (lmCar a)) = LF a := by
  have hf := car_fine (a := a) ⟨h.1, by have := h.2.1; omega, by have := h.2.2.1; omega, by have := h.2.2.2.1; omega, by have := h.2.2.2.2.1; omega, by have := h.2.2.2.2.2; omega⟩
  have hf2 := car_fine (a := lmCar a) ⟨hf.1.1, by have := hf.1.2.1; omega, by have := hf.1.2.2.1; omega, by have := hf.1.2.2.2.1; omega, by have := hf.1.2.2.2.2.1; omega, by have := hf.1.2.2.2.2.2; omega⟩
  refine ⟨?_, hf2.2.trans hf.2⟩
  obtain ⟨hl, h0, h1, h2, h3, h4⟩ := h
  obtain ⟨r0, r1, r2, r3, r4, c, gl, e0, e1, e2, e3, e4, g0, g1, g2, g3, g4, g5⟩ := car_exact (a := a) ⟨hl, by omega, by omega, by omega, by omega, by omega⟩
  have hc : c ≤ 2 := by unfold lV at g5; omega
  obtain ⟨q0, q1, q2, q3, q4, d, kl, f0, f1, f2, f3, f4, k0, k1, k2, k3, k4, k5⟩ := car_exact (a := lmCar a) ⟨gl, by omega, by omega, by omega, by omega, by omega⟩
  unfold lV at k5
  rw [e0, e1, e2, e3, e4] at k5
  refine ⟨kl, ?_, ?_, ?_, ?_, ?_⟩ <;> omega
theorem car_same {a : List (BitVec 64)} (h : Tight a) : lmCar a = a := by
  have hl := h.1
  have h0 := h.2.1
  have h1 := h.2.2.1
  have h2 := h.2.2.2.1
  have h3 := h.2.2.2.2.1
  have h4 := h.2.2.2.2.2
  obtain ⟨r0, r1, r2, r3, r4, c, gl, e0, e1, e2, e3, e4, g0, g1, g2, g3, g4, g5⟩ := car_exact (a := a) ⟨hl, by omega, by omega, by omega, by omega, by omega⟩
  unfold lV at g5
  refine extNth (by rw [gl, hl]) fun i hi => ?_
  rw [gl] at hi
  apply BitVec.eq_of_toNat_eq
  rcases (by omega : i = 0 ∨ i = 1 ∨ i = 2 ∨ i = 3 ∨ i = 4) with h | h | h | h | h <;> subst h <;> omega
theorem bytes_L6 (a : List (BitVec 64)) (j : Nat) : lmBytes_L6 a j = lmCar_L3 (put (lmCar (lmCar (lmCar a))) 0 ((nth (lmCar (lmCar (lmCar a))) 0) + 19#64)) j := by
  induction j with
  | zero => rfl
  | succ j ih => rw [lmBytes_L6, lmCar_L3, ih]; rfl
def w4 (a : List (BitVec 64)) : List (BitVec 64) := [(nth a 0) ||| ((nth a 1) <<< 51), ((nth a 1) >>> 13) ||| ((nth a 2) <<< 38), ((nth a 2) >>> 26) ||| ((nth a 3) <<< 25), ((nth a 3) >>> 39) ||| ((nth a 4) <<< 12)]
theorem w4_val {a : List (BitVec 64)} (h : Tight a) : wV (w4 a) = lV a := by
  obtain ⟨hl, h0, h1, h2, h3, h4⟩ := h
  have e1 := shr_nat (nth a 1) 13
  have e2 := shr_nat (nth a 2) 26
  have e3 := shr_nat (nth a 3) 39
  simp only [Nat.reducePow] at e1 e2 e3
  have k0 := or_low (x := nth a 0) (y := nth a 1) 51 h0
  have k1 := or_low (x := nth a 1 >>> 13) (y := nth a 2) 38 (by rw [e1]; show _ < 274877906944; omega)
  have k2 := or_low (x := nth a 2 >>> 26) (y := nth a 3) 25 (by rw [e2]; show _ < 33554432; omega)
  have k3 := or_low (x := nth a 3 >>> 39) (y := nth a 4) 12 (by rw [e3]; show _ < 4096; omega)
  simp only [Nat.reducePow] at k0 k1 k2 k3
  show ((nth a 0) ||| ((nth a 1) <<< 51)).toNat + (((nth a 1) >>> 13) ||| ((nth a 2) <<< 38)).toNat * _ + (((nth a 2) >>> 26) ||| ((nth a 3) <<< 25)).toNat * _ + (((nth a 3) >>> 39) ||| ((nth a 4) <<< 12)).toNat * _ = _
  rw [k0, k1, k2, k3, e1, e2, e3]
  unfold lV
  omega
theorem bytes_spec {a : List (BitVec 64)} (h : Fine a) : lmBytes a = toB (LF a).val := by
  obtain ⟨h1, h2⟩ := car_tight h
  have hs := car_same h1
  unfold lmBytes
  rw [hs]
  rw [bytes_L6, hs]
  generalize lmCar (lmCar a) = t at *
  have run : ∀ J, lmBytes_L17 J 32 = toB (wV (w4 J)) := fun J => bytes_run (w4 J) (lmBytes_L17 J) rfl fun j => rfl
  rw [run]
  congr 1
  rw [← h2]
  unfold LF
  rw [zf_val]
  have ht := h1
  obtain ⟨hl, g0, g1, g2, g3, g4⟩ := h1
  obtain ⟨t0, t1, t2, t3, t4, rfl⟩ := five hl
  change t0.toNat < _ at g0; change t1.toNat < _ at g1; change t2.toNat < _ at g2; change t3.toNat < _ at g3; change t4.toNat < _ at g4
  rw [show put [t0, t1, t2, t3, t4] 0 (nth [t0, t1, t2, t3, t4] 0 + 19#64) = [t0 + 19#64, t1, t2, t3, t4] from rfl, car5_eq]
  have e19 : (19#64 : BitVec 64).toNat = 19 := rfl
  have ea := add_nat (x := t0) (y := 19#64) (by omega)
  obtain ⟨r0, r1, r2, r3, r4, c, he, k0, k1, k2, k3, k4, k5⟩ := car5_spec (t0 + 19#64) t1 t2 t3 t4 (by omega) (by omega) (by omega) (by omega) (by omega)
  rw [he]
  show wV (w4 (if (0#64).toNat < c.toNat then [r0, r1, r2, r3, r4] else [t0, t1, t2, t3, t4])) = _
  have hv : lV [t0, t1, t2, t3, t4] = t0.toNat + t1.toNat * 2251799813685248 + t2.toNat * 5070602400912917605986812821504 + t3.toNat * 11417981541647679048466287755595961091061972992 + t4.toNat * 25711008708143844408671393477458601640355247900524685364822016 := rfl
  have hr : lV [r0, r1, r2, r3, r4] = r0.toNat + r1.toNat * 2251799813685248 + r2.toNat * 5070602400912917605986812821504 + r3.toNat * 11417981541647679048466287755595961091061972992 + r4.toNat * 25711008708143844408671393477458601640355247900524685364822016 := rfl
  have z : (0#64 : BitVec 64).toNat = 0 := rfl
  show _ = _ % 57896044618658097711785492504343953926634992332820282019728792003956564819949
  split
  · rename_i hc
    have hc1 : c.toNat = 1 := by omega
    rw [hc1] at k5
    rw [w4_val (a := [r0, r1, r2, r3, r4]) ⟨rfl, k0, k1, k2, k3, k4⟩, hr, hv]
    rw [Nat.mod_eq_sub_mod (by omega), Nat.mod_eq_of_lt (by omega)]
    omega
  · rename_i hc
    have hc1 : c.toNat = 0 := by omega
    rw [hc1] at k5
    rw [w4_val ht, hv]
    rw [Nat.mod_eq_of_lt (by omega)]
theorem words_run (b : List (BitVec 8)) (f : Nat → List (BitVec 64)) (h0 : f 0 = zer64 4) (hs : ∀ j, f (j + 1) = put (f j) (j / 8) ((nth (f j) (j / 8)) ||| (((nth b j).setWidth 64) <<< (8 * (j % 8))))) :
    ∀ j, j ≤ 32 → (f j).length = 4 ∧ ∀ t, t < 4 → (nth (f j) t).toNat = wvb b t (min 8 (j - 8 * t)) := by
  intro j
  induction j with
  | zero =>
    intro _
    rw [h0]
    refine ⟨rfl, fun t ht => ?_⟩
    rw [show min 8 (0 - 8 * t) = 0 by omega, wvb]
    rcases (by omega : t = 0 ∨ t = 1 ∨ t = 2 ∨ t = 3) with h | h | h | h <;> subst h <;> rfl
  | succ j ih =>
    intro hj
    obtain ⟨hl, hn⟩ := ih (by omega)
    refine ⟨by rw [hs, put_length, hl], fun t ht => ?_⟩
    rw [hs, nth_put _ _ _ _ (by rw [hl]; omega)]
    by_cases e : j / 8 = t
    · rw [if_pos e, e]
      have h1 := hn t ht
      have e1 : min 8 (j - 8 * t) = j % 8 := by omega
      have e2 : min 8 (j + 1 - 8 * t) = j % 8 + 1 := by omega
      rw [e1] at h1
      rw [or_byte _ _ _ (by omega) (by rw [h1]; exact wvb_lt b t _), h1, e2, wvb, show 8 * t + j % 8 = j by omega]
    · rw [if_neg e, hn t ht]
      congr 1
      omega
theorem of_words (b : List (BitVec 8)) (t : Nat) (ht : t < 4) : (nth (lmOf_L3 b 32) t).toNat = wvb b t 8 := by
  have := (words_run b (lmOf_L3 b) rfl (fun j => rfl) 32 (Nat.le_refl _)).2 t ht
  rwa [show min 8 (32 - 8 * t) = 8 by omega] at this
theorem of_fine (b : List (BitVec 8)) : Fine (lmOf b) ∧ LF (lmOf b) = zf (leS b 32) := by
  have v := leS_wvb b
  have v0 := of_words b 0 (by decide)
  have v1 := of_words b 1 (by decide)
  have v2 := of_words b 2 (by decide)
  have v3 := of_words b 3 (by decide)
  unfold lmOf
  generalize lmOf_L3 b 32 = W at *
  generalize hw0 : nth W 0 = w0 at *
  generalize hw1 : nth W 1 = w1 at *
  generalize hw2 : nth W 2 = w2 at *
  generalize hw3 : nth W 3 = w3 at *
  have b0 := w0.isLt
  have b1 := w1.isLt
  have b2 := w2.isLt
  have b3 := w3.isLt
  have s0 := shr_nat w0 51
  have s1 := shr_nat w1 38
  have s2 := shr_nat w2 25
  have s3 := shr_nat w3 12
  have s4 := shr_nat w3 63
  simp only [Nat.reducePow] at s0 s1 s2 s3 s4
  have o1 := or_low (x := w0 >>> 51) (y := w1) 13 (by rw [s0]; show _ < 8192; omega)
  have o2 := or_low (x := w1 >>> 38) (y := w2) 26 (by rw [s1]; show _ < 67108864; omega)
  have o3 := or_low (x := w2 >>> 25) (y := w3) 39 (by rw [s2]; show _ < 549755813888; omega)
  simp only [Nat.reducePow] at o1 o2 o3
  have m0 := mask_toNat w0
  have m1 := mask_toNat (w0 >>> 51 ||| w1 <<< 13)
  have m2 := mask_toNat (w1 >>> 38 ||| w2 <<< 26)
  have m3 := mask_toNat (w2 >>> 25 ||| w3 <<< 39)
  have m4 := mask_toNat (w3 >>> 12)
  rw [o1, s0] at m1
  rw [o2, s1] at m2
  rw [o3, s2] at m3
  rw [s3] at m4
  have t4 : (19#64 * w3 >>> 63).toNat = 19 * (w3.toNat / 9223372036854775808) := by
    rw [BitVec.toNat_mul, s4]
    show 19 * _ % _ = _
    rw [Nat.mod_eq_of_lt (by omega)]
  have a0 := add_nat (x := w0 &&& 2251799813685247#64) (y := 19#64 * w3 >>> 63) (by omega)
  show Fine [(w0 &&& 2251799813685247#64) + 19#64 * w3 >>> 63, (w0 >>> 51 ||| w1 <<< 13) &&& 2251799813685247#64, (w1 >>> 38 ||| w2 <<< 26) &&& 2251799813685247#64, (w2 >>> 25 ||| w3 <<< 39) &&& 2251799813685247#64, w3 >>> 12 &&& 2251799813685247#64] ∧ LF [(w0 &&& 2251799813685247#64) + 19#64 * w3 >>> 63, (w0 >>> 51 ||| w1 <<< 13) &&& 2251799813685247#64, (w1 >>> 38 ||| w2 <<< 26) &&& 2251799813685247#64, (w2 >>> 25 ||| w3 <<< 39) &&& 2251799813685247#64, w3 >>> 12 &&& 2251799813685247#64] = _
  generalize (w0 &&& 2251799813685247#64) + 19#64 * w3 >>> 63 = x0 at *
  generalize (w0 >>> 51 ||| w1 <<< 13) &&& 2251799813685247#64 = x1 at *
  generalize (w1 >>> 38 ||| w2 <<< 26) &&& 2251799813685247#64 = x2 at *
  generalize (w2 >>> 25 ||| w3 <<< 39) &&& 2251799813685247#64 = x3 at *
  generalize w3 >>> 12 &&& 2251799813685247#64 = x4 at *
  refine ⟨⟨rfl, ?_, ?_, ?_, ?_, ?_⟩, ?_⟩
  · show x0.toNat < _; omega
  · show x1.toNat < _; omega
  · show x2.toNat < _; omega
  · show x3.toNat < _; omega
  · show x4.toNat < _; omega
  have y1 : x1.toNat = w0.toNat / 2251799813685248 + 8192 * (w1.toNat % 274877906944) := by omega
  have y2 : x2.toNat = w1.toNat / 274877906944 + 67108864 * (w2.toNat % 33554432) := by omega
  have y3 : x3.toNat = w2.toNat / 33554432 + 549755813888 * (w3.toNat % 4096) := by omega
  have y4 : x4.toNat = w3.toNat / 4096 % 2251799813685248 := by omega
  clear m1 m2 m3 m4 o1 o2 o3 s0 s1 s2 s3 s4
  unfold LF
  have e : leS b 32 = (w0.toNat % 2251799813685248 + x1.toNat * 2251799813685248 + x2.toNat * 5070602400912917605986812821504 + x3.toNat * 11417981541647679048466287755595961091061972992 + x4.toNat * 25711008708143844408671393477458601640355247900524685364822016) + (w3.toNat / 9223372036854775808) * 57896044618658097711785492504343953926634992332820282019728792003956564819968 := by omega
  rw [zf_cut e]
  congr 1
  show x0.toNat + x1.toNat * _ + x2.toNat * _ + x3.toNat * _ + x4.toNat * _ = _
  omega
end Go.Proofs.Ytcgncafhonlmlaa
namespace Go.Proofs.Ytcgncafhonlmlaa
open Go.RowKit
def lmMul_L6_S (a : List (BitVec 64)) (b : List (BitVec 64)) (j3 : Nat) (X3 : List (BitVec 64)) (X4 : List (BitVec 64)) (j6 : Nat) : List (BitVec 64) × List (BitVec 64) := (put X3 ((j3 + j6) % 5) ((nth X3 ((j3 + j6) % 5)) + ((mul640 (nth a j3) (if 5 ≤ j3 + j6 then (nth b j6) * 19#64 else nth b j6)) + (addC (nth X4 ((j3 + j6) % 5)) (mul641 (nth a j3) (if 5 ≤ j3 + j6 then (nth b j6) * 19#64 else nth b j6)) 0#64))), put X4 ((j3 + j6) % 5) ((nth X4 ((j3 + j6) % 5)) + (mul641 (nth a j3) (if 5 ≤ j3 + j6 then (nth b j6) * 19#64 else nth b j6)) + 0#64))
def lmMul_L6 (a : List (BitVec 64)) (b : List (BitVec 64)) (X1 : List (BitVec 64)) (X2 : List (BitVec 64)) (j3 : Nat) : Nat → List (BitVec 64) × List (BitVec 64)
  | 0 => (X1, X2)
  | j6 + 1 => lmMul_L6_S a b j3 (lmMul_L6 a b X1 X2 j3 j6).1 (lmMul_L6 a b X1 X2 j3 j6).2 j6
theorem lmMul_L6_lens (a : List (BitVec 64)) (b : List (BitVec 64)) (X1 : List (BitVec 64)) (X2 : List (BitVec 64)) (j3 : Nat) (ha : a.length = 5) (hb : b.length = 5) (hX1 : X1.length = 5) (hX2 : X2.length = 5) (j6 : Nat) : (lmMul_L6 a b X1 X2 j3 j6).1.length = 5 ∧ (lmMul_L6 a b X1 X2 j3 j6).2.length = 5 := by
  induction j6 with
  | zero => refine ⟨?_, ?_⟩ <;> first | (simp (maxDischargeDepth := 9) [lmMul_L6, *]; done) | (simp (maxDischargeDepth := 9) [lmMul_L6, *]; omega)
  | succ j6 ih =>
    obtain ⟨ih0, ih1⟩ := ih
    rw [lmMul_L6.eq_2, lmMul_L6_S]
    refine ⟨?_, ?_⟩ <;> first | (simp (maxDischargeDepth := 9) [*]; done) | (simp (maxDischargeDepth := 9) [*]; omega) | (split <;> first | (simp (maxDischargeDepth := 9) [*]; done) | (simp (maxDischargeDepth := 9) [*]; omega))
theorem lmMul_L6_len0 (a : List (BitVec 64)) (b : List (BitVec 64)) (X1 : List (BitVec 64)) (X2 : List (BitVec 64)) (j3 : Nat) (ha : a.length = 5) (hb : b.length = 5) (hX1 : X1.length = 5) (hX2 : X2.length = 5) (j6 : Nat) : (lmMul_L6 a b X1 X2 j3 j6).1.length = 5 := (lmMul_L6_lens a b X1 X2 j3 ha hb hX1 hX2 j6).1
theorem lmMul_L6_len1 (a : List (BitVec 64)) (b : List (BitVec 64)) (X1 : List (BitVec 64)) (X2 : List (BitVec 64)) (j3 : Nat) (ha : a.length = 5) (hb : b.length = 5) (hX1 : X1.length = 5) (hX2 : X2.length = 5) (j6 : Nat) : (lmMul_L6 a b X1 X2 j3 j6).2.length = 5 := (lmMul_L6_lens a b X1 X2 j3 ha hb hX1 hX2 j6).2
def lmMul_L3_S (a : List (BitVec 64)) (b : List (BitVec 64)) (X1 : List (BitVec 64)) (X2 : List (BitVec 64)) (j3 : Nat) : List (BitVec 64) × List (BitVec 64) := (((lmMul_L6 a b X1 X2 j3 5).1), ((lmMul_L6 a b X1 X2 j3 5).2))
def lmMul_L3 (a : List (BitVec 64)) (b : List (BitVec 64)) : Nat → List (BitVec 64) × List (BitVec 64)
  | 0 => (zer64 5, zer64 5)
  | j3 + 1 => lmMul_L3_S a b (lmMul_L3 a b j3).1 (lmMul_L3 a b j3).2 j3
theorem lmMul_L3_lens (a : List (BitVec 64)) (b : List (BitVec 64)) (ha : a.length = 5) (hb : b.length = 5) (j3 : Nat) : (lmMul_L3 a b j3).1.length = 5 ∧ (lmMul_L3 a b j3).2.length = 5 := by
  induction j3 with
  | zero => refine ⟨?_, ?_⟩ <;> first | (simp (maxDischargeDepth := 9) [lmMul_L3, *]; done) | (simp (maxDischargeDepth := 9) [lmMul_L3, *]; omega)
  | succ j3 ih =>
    obtain ⟨ih0, ih1⟩ := ih
    rw [lmMul_L3.eq_2, lmMul_L3_S]
    refine ⟨?_, ?_⟩ <;> first | (simp (maxDischargeDepth := 9) [lmMul_L6_len0, lmMul_L6_len1, *]; done) | (simp (maxDischargeDepth := 9) [lmMul_L6_len0, lmMul_L6_len1, *]; omega) | (split <;> first | (simp (maxDischargeDepth := 9) [lmMul_L6_len0, lmMul_L6_len1, *]; done) | (simp (maxDischargeDepth := 9) [lmMul_L6_len0, lmMul_L6_len1, *]; omega))
theorem lmMul_L3_len0 (a : List (BitVec 64)) (b : List (BitVec 64)) (ha : a.length = 5) (hb : b.length = 5) (j3 : Nat) : (lmMul_L3 a b j3).1.length = 5 := (lmMul_L3_lens a b ha hb j3).1
theorem lmMul_L3_len1 (a : List (BitVec 64)) (b : List (BitVec 64)) (ha : a.length = 5) (hb : b.length = 5) (j3 : Nat) : (lmMul_L3 a b j3).2.length = 5 := (lmMul_L3_lens a b ha hb j3).2
def lmMul_L21_S (Y11 : List (BitVec 64)) (Y12 : List (BitVec 64)) (X14 : BitVec 64) (X15 : List (BitVec 64)) (j21 : Nat) : BitVec 64 × List (BitVec 64) := ((((nth Y11 j21) + (addC (nth Y12 j21) X14 0#64)) <<< 13) ||| (((nth Y12 j21) + X14 + 0#64) >>> 51), put X15 j21 (((nth Y12 j21) + X14 + 0#64) &&& 2251799813685247#64))
def lmMul_L21 (Y11 : List (BitVec 64)) (Y12 : List (BitVec 64)) : Nat → BitVec 64 × List (BitVec 64)
  | 0 => (0#64, zer64 5)
  | j21 + 1 => lmMul_L21_S Y11 Y12 (lmMul_L21 Y11 Y12 j21).1 (lmMul_L21 Y11 Y12 j21).2 j21
theorem lmMul_L21_len1 (Y11 : List (BitVec 64)) (Y12 : List (BitVec 64)) (hY11 : Y11.length = 5) (hY12 : Y12.length = 5) (j21 : Nat) : (lmMul_L21 Y11 Y12 j21).2.length = 5 := by
  induction j21 with
  | zero => first | (simp (maxDischargeDepth := 9) [lmMul_L21, *]; done) | (simp (maxDischargeDepth := 9) [lmMul_L21, *]; omega)
  | succ j21 ih => rw [lmMul_L21.eq_2, lmMul_L21_S]; first | (simp (maxDischargeDepth := 9) [ih]; done) | (simp (maxDischargeDepth := 9) [ih]; omega) | (simp (maxDischargeDepth := 9) [lmMul_L6_len0, lmMul_L6_len1, lmMul_L3_len0, lmMul_L3_len1, *]; done) | (simp (maxDischargeDepth := 9) [lmMul_L6_len0, lmMul_L6_len1, lmMul_L3_len0, lmMul_L3_len1, *]; omega) | (split <;> first | (simp (maxDischargeDepth := 9) [ih]; done) | (simp (maxDischargeDepth := 9) [ih]; omega) | (simp (maxDischargeDepth := 9) [lmMul_L6_len0, lmMul_L6_len1, lmMul_L3_len0, lmMul_L3_len1, *]; done))
def lmMul (a : List (BitVec 64)) (b : List (BitVec 64)) : List (BitVec 64) := lmCar (put (put ((lmMul_L21 ((lmMul_L3 a b 5).1) ((lmMul_L3 a b 5).2) 5).2) 0 (((mul641 ((lmMul_L21 ((lmMul_L3 a b 5).1) ((lmMul_L3 a b 5).2) 5).1) 19#64) + (nth ((lmMul_L21 ((lmMul_L3 a b 5).1) ((lmMul_L3 a b 5).2) 5).2) 0) + 0#64) &&& 2251799813685247#64)) 1 ((nth (put ((lmMul_L21 ((lmMul_L3 a b 5).1) ((lmMul_L3 a b 5).2) 5).2) 0 (((mul641 ((lmMul_L21 ((lmMul_L3 a b 5).1) ((lmMul_L3 a b 5).2) 5).1) 19#64) + (nth ((lmMul_L21 ((lmMul_L3 a b 5).1) ((lmMul_L3 a b 5).2) 5).2) 0) + 0#64) &&& 2251799813685247#64)) 1) + ((((mul640 ((lmMul_L21 ((lmMul_L3 a b 5).1) ((lmMul_L3 a b 5).2) 5).1) 19#64) + (addC (mul641 ((lmMul_L21 ((lmMul_L3 a b 5).1) ((lmMul_L3 a b 5).2) 5).1) 19#64) (nth ((lmMul_L21 ((lmMul_L3 a b 5).1) ((lmMul_L3 a b 5).2) 5).2) 0) 0#64)) <<< 13) ||| (((mul641 ((lmMul_L21 ((lmMul_L3 a b 5).1) ((lmMul_L3 a b 5).2) 5).1) 19#64) + (nth ((lmMul_L21 ((lmMul_L3 a b 5).1) ((lmMul_L3 a b 5).2) 5).2) 0) + 0#64) >>> 51))))
set_option maxRecDepth 100000 in
set_option maxHeartbeats 2000000 in
theorem lmMul_ev (a : List (BitVec 64)) (b : List (BitVec 64)) (ha : a.length = 5) (hb : b.length = 5) : Ev Try.prog (.call 65 [.agg (.a64 (a)), .agg (.a64 (b))] []) (.val (.agg (.a64 (lmMul a b))) []) := by
  have hP : Hid (lmMul a b = lmCar (put (put ((lmMul_L21 ((lmMul_L3 a b 5).1) ((lmMul_L3 a b 5).2) 5).2) 0 (((mul641 ((lmMul_L21 ((lmMul_L3 a b 5).1) ((lmMul_L3 a b 5).2) 5).1) 19#64) + (nth ((lmMul_L21 ((lmMul_L3 a b 5).1) ((lmMul_L3 a b 5).2) 5).2) 0) + 0#64) &&& 2251799813685247#64)) 1 ((nth (put ((lmMul_L21 ((lmMul_L3 a b 5).1) ((lmMul_L3 a b 5).2) 5).2) 0 (((mul641 ((lmMul_L21 ((lmMul_L3 a b 5).1) ((lmMul_L3 a b 5).2) 5).1) 19#64) + (nth ((lmMul_L21 ((lmMul_L3 a b 5).1) ((lmMul_L3 a b 5).2) 5).2) 0) + 0#64) &&& 2251799813685247#64)) 1) + ((((mul640 ((lmMul_L21 ((lmMul_L3 a b 5).1) ((lmMul_L3 a b 5).2) 5).1) 19#64) + (addC (mul641 ((lmMul_L21 ((lmMul_L3 a b 5).1) ((lmMul_L3 a b 5).2) 5).1) 19#64) (nth ((lmMul_L21 ((lmMul_L3 a b 5).1) ((lmMul_L3 a b 5).2) 5).2) 0) 0#64)) <<< 13) ||| (((mul641 ((lmMul_L21 ((lmMul_L3 a b 5).1) ((lmMul_L3 a b 5).2) 5).1) 19#64) + (nth ((lmMul_L21 ((lmMul_L3 a b 5).1) ((lmMul_L3 a b 5).2) 5).2) 0) + 0#64) >>> 51))))) := ⟨rfl⟩
  refine c_call Try.func65 rfl Try.ntmps65 rfl LEN_ ?_
  refine S_ ?_
  refine c_region ?_
  refine s_memN (m_box BX_ LEN_) APP_ rfl ?_
  refine s_memN (m_box BX_ LEN_) APP_ rfl ?_
  refine s_memN (m_alloc al_52 LEN_) APP_ rfl ?_
  refine s_nil ?_
  refine S_ ?_
  refine c_region ?_
  refine s_memN (m_alloc al_51 LEN_) APP_ rfl ?_
  refine s_memN (m_alloc al_51 LEN_) APP_ rfl ?_
  refine s_nil ?_
  refine S_ ?_
  refine c_region ?_
  refine s_val (v_moveC rfl) rfl ?_
  refine s_nil ?_
  refine S_ ?_
  refine c_loopC [2, 3, 4, 5, 6, 22] (fun (zz : Nat × List (BitVec 64) × List (BitVec 64)) => ⟨122, keepT [2, 3, 4, 5, 6, 22] [.c (.ptr 0 0), .c (.ptr 1 0), .c (.ptr 2 0), .c (.ptr 3 0), .c (.ptr 4 0), .c (.val (.int .i64 (((zz.1 : Nat) : Int))))], [.row true (.a64 (a)), .row true (.a64 (b)), .row true (.a64 (zer64 5)), .row true (.a64 (zz.2.1)), .row true (.a64 (zz.2.2))]⟩) (fun j3 => (j3, lmMul_L3 a b j3)) (5) (by kernel_rfl) ?_ ?_
  · intro j3 hj3
    try dsimp only
    have hX1 : (lmMul_L3 a b j3).1.length = 5 := by rw [lmMul_L3_len0 a b ha hb _]; try omega
    have hX2 : (lmMul_L3 a b j3).2.length = 5 := by rw [lmMul_L3_len1 a b ha hb _]; try omega
    rw [lmMul_L3.eq_2, lmMul_L3_S]
    generalize lmMul_L3 a b j3 = Z3 at *
    obtain ⟨X1, X2⟩ := Z3
    try dsimp only at *
    refine S_ ?_
    refine c_region ?_
    refine s_val (v_lssN (b := 5) rfl rfl) rfl ?_
    refine s_nil ?_
    refine S_ ?_
    refine c_region ?_
    refine s_val (v_moveC rfl) rfl ?_
    refine s_val (v_assignC rfl) rfl ?_
    refine s_nil ?_
    refine S_ ?_
    refine c_region ?_
    refine s_val (v_moveC rfl) rfl ?_
    refine s_nil ?_
    refine S_ ?_
    refine c_loopC [2, 3, 4, 5, 6, 7, 22, 25] (fun (zz : Nat × List (BitVec 64) × List (BitVec 64)) => ⟨122, keepT [2, 3, 4, 5, 6, 7, 22, 25] [.c (.ptr 0 0), .c (.ptr 1 0), .c (.ptr 2 0), .c (.ptr 3 0), .c (.ptr 4 0), .c (.val (.int .i64 (((j3 : Nat) : Int)))), .c (.val (.int .i64 (((j3 : Nat) : Int)))), .c (.val (.int .i64 (((zz.1 : Nat) : Int))))], [.row true (.a64 (a)), .row true (.a64 (b)), .row true (.a64 (zer64 5)), .row true (.a64 (zz.2.1)), .row true (.a64 (zz.2.2))]⟩) (fun j6 => (j6, lmMul_L6 a b X1 X2 j3 j6)) (5) (by kernel_rfl) ?_ ?_
    · intro j6 hj6
      try dsimp only
      have hX4 : (lmMul_L6 a b X1 X2 j3 j6).1.length = 5 := by rw [lmMul_L6_len0 a b X1 X2 j3 ha hb hX1 hX2 _]; try omega
      have hX5 : (lmMul_L6 a b X1 X2 j3 j6).2.length = 5 := by rw [lmMul_L6_len1 a b X1 X2 j3 ha hb hX1 hX2 _]; try omega
      rw [lmMul_L6.eq_2, lmMul_L6_S]
      generalize lmMul_L6 a b X1 X2 j3 j6 = Z6 at *
      obtain ⟨X4, X5⟩ := Z6
      try dsimp only at *
      refine S_ ?_
      refine c_region ?_
      refine s_val (v_lssN (b := 5) rfl rfl) rfl ?_
      refine s_nil ?_
      refine S_ ?_
      refine c_region ?_
      refine s_val (v_moveC rfl) rfl ?_
      refine s_val (v_assignC rfl) rfl ?_
      refine s_nil ?_
      refine S_ ?_
      refine c_region ?_
      refine s_val (v_moveC rfl) rfl ?_
      refine s_val (v_idxA1 rfl rfl Try.underlying52 sz_40 (by omega)) rfl ?_
      refine s_val (v_load64 rfl rfl row_40 LT_) rfl ?_
      refine s_val (v_assignC rfl) rfl ?_
      refine s_nil ?_
      refine S_ ?_
      refine c_region ?_
      refine s_val (v_moveC rfl) rfl ?_
      refine s_val (v_moveC rfl) rfl ?_
      refine s_val (v_addN rfl rfl (by omega)) rfl ?_
      refine s_val (v_geqN (b := 5) rfl rfl) rfl ?_
      refine s_nil ?_
      refine Q_ ?_
      refine c_join [2, 3, 4, 5, 6, 7, 8, 9, 22, 25] (fun (zz : BitVec 64) => ⟨122, keepT [2, 3, 4, 5, 6, 7, 8, 9, 22, 25] [.c (.ptr 0 0), .c (.ptr 1 0), .c (.ptr 2 0), .c (.ptr 3 0), .c (.ptr 4 0), .c (.val (.int .i64 (((j3 : Nat) : Int)))), .c (.val (.int .i64 (((j6 : Nat) : Int)))), .c (.val (U64 (zz))), .c (.val (.int .i64 (((j3 : Nat) : Int)))), .c (.val (.int .i64 (((j6 : Nat) : Int))))], [.row true (.a64 (a)), .row true (.a64 (b)), .row true (.a64 (zer64 5)), .row true (.a64 (X4)), .row true (.a64 (X5))]⟩) (if 5 ≤ j3 + j6 then (nth b j6) * 19#64 else nth b j6) rfl (fun hb => ?_) (fun hb => ?_) ?_
      · -- the test is True
        have hb_ := of_decide_eq_true hb
        refine S_ ?_
        refine c_region ?_
        refine s_val (v_moveC rfl) rfl ?_
        refine s_val (v_mul64 (b := 19#64) rfl rfl) rfl ?_
        refine s_val (v_assignC rfl) rfl ?_
        refine s_nil ?_
        refine S_ ?_
        refine ⟨((nth b j6) * 19#64), by kernel_rfl, ?_⟩
        rw [if_pos (of_decide_eq_true hb)]
      · -- the test is False
        have hb_ := of_decide_eq_false hb
        refine S_ ?_
        refine ⟨(nth b j6), by kernel_rfl, ?_⟩
        rw [if_neg (of_decide_eq_false hb)]
      generalize (if 5 ≤ j3 + j6 then (nth b j6) * 19#64 else nth b j6) = J7 at *
      refine S_ ?_
      refine c_region ?_
      refine s_val (v_moveC rfl) rfl ?_
      refine s_val (v_idxA1 rfl rfl Try.underlying52 sz_40 (by omega)) rfl ?_
      refine s_val (v_load64 rfl rfl row_40 LT_) rfl ?_
      refine s_val (v_moveC rfl) rfl ?_
      refine s_evN (e_callR (bs := []) (mul64_ev (nth a j3) J7) ok_86 (by kernel_rfl) (by kernel_rfl) rfl VAL_) APP_ rfl ?_
      refine s_val (v_moveT rfl) rfl ?_
      refine s_val (v_extract rfl rfl) rfl ?_
      refine s_val (v_extract rfl rfl) rfl ?_
      refine s_val (v_assignC rfl) rfl ?_
      refine s_val (v_assignC rfl) rfl ?_
      refine s_nil ?_
      refine S_ ?_
      refine c_region ?_
      refine s_val (v_moveC rfl) rfl ?_
      refine s_val (v_moveC rfl) rfl ?_
      refine s_val (v_addN rfl rfl (by omega)) rfl ?_
      refine s_val (v_remN (b := 5) rfl rfl (by omega) (by omega)) rfl ?_
      refine s_val (v_assignC rfl) rfl ?_
      refine s_nil ?_
      refine S_ ?_
      refine c_region ?_
      refine s_val (v_assignC rfl) rfl ?_
      refine s_nil ?_
      refine S_ ?_
      refine c_region ?_
      refine s_val (v_moveC rfl) rfl ?_
      refine s_val (v_moveC rfl) rfl ?_
      refine s_val (v_idxA1 rfl rfl Try.underlying51 sz_40 (by omega)) rfl ?_
      refine s_val (v_load64 rfl rfl row_40 LT_) rfl ?_
      refine s_val (v_moveC rfl) rfl ?_
      refine s_evN (e_add ext_62 rfl rfl rfl (rfl : _ = U64 (0#64)) (by decide)) APP_ rfl ?_
      refine s_val (v_moveT rfl) rfl ?_
      refine s_val (v_extract rfl rfl) rfl ?_
      refine s_val (v_extract rfl rfl) rfl ?_
      refine s_val (v_idxA1 rfl rfl Try.underlying51 sz_40 (by omega)) rfl ?_
      refine s_store64 rfl rfl rfl sz_40 LT_ SET_ ?_
      refine s_val (v_assignC rfl) rfl ?_
      refine s_nil ?_
      refine S_ ?_
      refine c_region ?_
      refine s_val (v_moveC rfl) rfl ?_
      refine s_val (v_idxA1 rfl rfl Try.underlying51 sz_40 (by omega)) rfl ?_
      refine s_val (v_load64 rfl rfl row_40 LT_) rfl ?_
      refine s_val (v_moveC rfl) rfl ?_
      refine s_val (v_moveC rfl) rfl ?_
      refine s_val (v_add64 rfl rfl) rfl ?_
      refine s_val (v_add64 rfl rfl) rfl ?_
      refine s_val (v_idxA1 rfl rfl Try.underlying51 sz_40 (by omega)) rfl ?_
      refine s_store64 rfl rfl rfl sz_40 LT_ SET_ ?_
      refine s_nil ?_
      refine S_ ?_
      refine c_region ?_
      refine s_val (v_addN (b := 1) rfl rfl (by omega)) rfl ?_
      refine s_val (v_moveC rfl) rfl ?_
      refine s_nil ?_
      exact ⟨(j6 + 1, _), by kernel_rfl, rfl⟩
    · try dsimp only
      have hY8 : (lmMul_L6 a b X1 X2 j3 5).1.length = 5 := by rw [lmMul_L6_len0 a b X1 X2 j3 ha hb hX1 hX2 _]; try omega
      have hY9 : (lmMul_L6 a b X1 X2 j3 5).2.length = 5 := by rw [lmMul_L6_len1 a b X1 X2 j3 ha hb hX1 hX2 _]; try omega
      generalize lmMul_L6 a b X1 X2 j3 5 = Z10 at *
      obtain ⟨Y8, Y9⟩ := Z10
      try dsimp only at *
      refine S_ ?_
      refine c_region ?_
      refine s_val (v_lssN (a := 5) (b := 5) rfl rfl) rfl ?_
      refine s_nil ?_
      refine S_ ?_
      refine c_region ?_
      refine s_val (v_addN (b := 1) rfl rfl (by omega)) rfl ?_
      refine s_val (v_moveC rfl) rfl ?_
      refine s_nil ?_
      exact ⟨(j3 + 1, _), by kernel_rfl, rfl⟩
  · try dsimp only
    have hY11 : (lmMul_L3 a b 5).1.length = 5 := by rw [lmMul_L3_len0 a b ha hb _]; try omega
    have hY12 : (lmMul_L3 a b 5).2.length = 5 := by rw [lmMul_L3_len1 a b ha hb _]; try omega
    generalize lmMul_L3 a b 5 = Z13 at *
    obtain ⟨Y11, Y12⟩ := Z13
    try dsimp only at *
    refine S_ ?_
    refine c_region ?_
    refine s_val (v_lssN (a := 5) (b := 5) rfl rfl) rfl ?_
    refine s_nil ?_
    refine S_ ?_
    refine c_region ?_
    refine s_memN (m_alloc al_52 LEN_) APP_ rfl ?_
    refine s_nil ?_
    refine S_ ?_
    refine c_region ?_
    refine s_val (v_assignC rfl) rfl ?_
    refine s_nil ?_
    refine S_ ?_
    refine c_region ?_
    refine s_val (v_moveC rfl) rfl ?_
    refine s_nil ?_
    refine S_ ?_
    refine c_loopC [4, 5, 6, 14, 15, 69] (fun (zz : Nat × BitVec 64 × List (BitVec 64)) => ⟨122, keepT [4, 5, 6, 14, 15, 69] [.c (.ptr 0 0), .c (.ptr 1 0), .c (.ptr 2 0), .c (.ptr 3 0), .c (.val (U64 (zz.2.1))), .c (.val (.int .i64 (((zz.1 : Nat) : Int))))], [.row true (.a64 (zer64 5)), .row true (.a64 (Y11)), .row true (.a64 (Y12)), .row true (.a64 (zz.2.2))]⟩) (fun j21 => (j21, lmMul_L21 Y11 Y12 j21)) (5) (by kernel_rfl) ?_ ?_
    · intro j21 hj21
      try dsimp only
      have hX15 : (lmMul_L21 Y11 Y12 j21).2.length = 5 := by rw [lmMul_L21_len1 Y11 Y12 hY11 hY12 _]; try omega
      rw [lmMul_L21.eq_2, lmMul_L21_S]
      generalize lmMul_L21 Y11 Y12 j21 = Z16 at *
      obtain ⟨X14, X15⟩ := Z16
      try dsimp only at *
      refine S_ ?_
      refine c_region ?_
      refine s_val (v_lssN (b := 5) rfl rfl) rfl ?_
      refine s_nil ?_
      refine S_ ?_
      refine c_region ?_
      refine s_val (v_moveC rfl) rfl ?_
      refine s_val (v_assignC rfl) rfl ?_
      refine s_nil ?_
      refine S_ ?_
      refine c_region ?_
      refine s_val (v_moveC rfl) rfl ?_
      refine s_val (v_idxA1 rfl rfl Try.underlying51 sz_40 (by omega)) rfl ?_
      refine s_val (v_load64 rfl rfl row_40 LT_) rfl ?_
      refine s_val (v_moveC rfl) rfl ?_
      refine s_evN (e_add ext_62 rfl rfl rfl (rfl : _ = U64 (0#64)) (by decide)) APP_ rfl ?_
      refine s_val (v_moveT rfl) rfl ?_
      refine s_val (v_extract rfl rfl) rfl ?_
      refine s_val (v_extract rfl rfl) rfl ?_
      refine s_val (v_assignC rfl) rfl ?_
      refine s_val (v_assignC rfl) rfl ?_
      refine s_nil ?_
      refine S_ ?_
      refine c_region ?_
      refine s_val (v_moveC rfl) rfl ?_
      refine s_val (v_moveC rfl) rfl ?_
      refine s_val (v_and64 (b := 2251799813685247#64) rfl rfl) rfl ?_
      refine s_val (v_idxA1 rfl rfl Try.underlying52 sz_40 (by omega)) rfl ?_
      refine s_store64 rfl rfl rfl sz_40 LT_ SET_ ?_
      refine s_nil ?_
      refine S_ ?_
      refine c_region ?_
      refine s_val (v_moveC rfl) rfl ?_
      refine s_val (v_idxA1 rfl rfl Try.underlying51 sz_40 (by omega)) rfl ?_
      refine s_val (v_load64 rfl rfl row_40 LT_) rfl ?_
      refine s_val (v_moveC rfl) rfl ?_
      refine s_val (v_add64 rfl rfl) rfl ?_
      refine s_val (v_shl64n (j := 13) rfl rfl) rfl ?_
      refine s_val (v_moveC rfl) rfl ?_
      refine s_val (v_shr64n (j := 51) rfl rfl) rfl ?_
      refine s_val (v_or64 rfl rfl) rfl ?_
      refine s_val (v_assignC rfl) rfl ?_
      refine s_nil ?_
      refine S_ ?_
      refine c_region ?_
      refine s_val (v_addN (b := 1) rfl rfl (by omega)) rfl ?_
      refine s_val (v_moveC rfl) rfl ?_
      refine s_nil ?_
      exact ⟨(j21 + 1, _), by kernel_rfl, rfl⟩
    · try dsimp only
      have hY18 : (lmMul_L21 Y11 Y12 5).2.length = 5 := by rw [lmMul_L21_len1 Y11 Y12 hY11 hY12 _]; try omega
      generalize lmMul_L21 Y11 Y12 5 = Z19 at *
      obtain ⟨Y17, Y18⟩ := Z19
      try dsimp only at *
      refine S_ ?_
      refine c_region ?_
      refine s_val (v_lssN (a := 5) (b := 5) rfl rfl) rfl ?_
      refine s_nil ?_
      refine S_ ?_
      refine c_region ?_
      refine s_val (v_moveC rfl) rfl ?_
      refine s_evN (e_callR (bs := []) (mul64_ev Y17 19#64) ok_86 (by kernel_rfl) (by kernel_rfl) rfl VAL_) APP_ rfl ?_
      refine s_val (v_moveT rfl) rfl ?_
      refine s_val (v_extract rfl rfl) rfl ?_
      refine s_val (v_extract rfl rfl) rfl ?_
      refine s_val (v_assignC rfl) rfl ?_
      refine s_val (v_assignC rfl) rfl ?_
      refine s_nil ?_
      refine S_ ?_
      refine c_region ?_
      refine s_val (v_moveC rfl) rfl ?_
      refine s_val (v_idxA1 (j := 0) rfl rfl Try.underlying52 sz_40 (by omega)) rfl ?_
      refine s_val (v_load64 rfl rfl row_40 LT_) rfl ?_
      refine s_evN (e_add ext_62 rfl rfl rfl (rfl : _ = U64 (0#64)) (by decide)) APP_ rfl ?_
      refine s_val (v_moveT rfl) rfl ?_
      refine s_val (v_extract rfl rfl) rfl ?_
      refine s_val (v_extract rfl rfl) rfl ?_
      refine s_val (v_assignC rfl) rfl ?_
      refine s_val (v_assignC rfl) rfl ?_
      refine s_nil ?_
      refine S_ ?_
      refine c_region ?_
      refine s_val (v_moveC rfl) rfl ?_
      refine s_val (v_and64 (b := 2251799813685247#64) rfl rfl) rfl ?_
      refine s_val (v_idxA1 (j := 0) rfl rfl Try.underlying52 sz_40 (by omega)) rfl ?_
      refine s_store64 rfl rfl rfl sz_40 LT_ SET_ ?_
      refine s_nil ?_
      refine S_ ?_
      refine c_region ?_
      refine s_val (v_idxA1 (j := 1) rfl rfl Try.underlying52 sz_40 (by omega)) rfl ?_
      refine s_val (v_load64 rfl rfl row_40 LT_) rfl ?_
      refine s_val (v_moveC rfl) rfl ?_
      refine s_val (v_moveC rfl) rfl ?_
      refine s_val (v_add64 rfl rfl) rfl ?_
      refine s_val (v_shl64n (j := 13) rfl rfl) rfl ?_
      refine s_val (v_moveC rfl) rfl ?_
      refine s_val (v_shr64n (j := 51) rfl rfl) rfl ?_
      refine s_val (v_or64 rfl rfl) rfl ?_
      refine s_val (v_add64 rfl rfl) rfl ?_
      refine s_val (v_idxA1 (j := 1) rfl rfl Try.underlying52 sz_40 (by omega)) rfl ?_
      refine s_store64 rfl rfl rfl sz_40 LT_ SET_ ?_
      refine s_nil ?_
      have hQ20 : (lmCar (put (put Y18 0 (((mul641 Y17 19#64) + (nth Y18 0) + 0#64) &&& 2251799813685247#64)) 1 ((nth (put Y18 0 (((mul641 Y17 19#64) + (nth Y18 0) + 0#64) &&& 2251799813685247#64)) 1) + ((((mul640 Y17 19#64) + (addC (mul641 Y17 19#64) (nth Y18 0) 0#64)) <<< 13) ||| (((mul641 Y17 19#64) + (nth Y18 0) + 0#64) >>> 51))))).length = 5 := LQ_
      refine S_ ?_
      refine c_region ?_
      refine s_val (v_loadR rfl rfl row_52 sz_52 EQ_ (by decide)) rfl ?_
      refine s_evN (e_callR (bs := []) (lmCar_ev (put (put Y18 0 (((mul641 Y17 19#64) + (nth Y18 0) + 0#64) &&& 2251799813685247#64)) 1 ((nth (put Y18 0 (((mul641 Y17 19#64) + (nth Y18 0) + 0#64) &&& 2251799813685247#64)) 1) + ((((mul640 Y17 19#64) + (addC (mul641 Y17 19#64) (nth Y18 0) 0#64)) <<< 13) ||| (((mul641 Y17 19#64) + (nth Y18 0) + 0#64) >>> 51)))) HYP_) ok_96 (by kernel_rfl) (by kernel_rfl) rfl VAL_) APP_ rfl ?_
      refine s_storeR rfl rfl rfl rfl sz_52 EQ_ EQ_ SET_ ?_
      refine s_nil ?_
      refine S_ ?_
      rw [hP.out]
      exact k_1 (r_row rfl rfl row_52 sz_52 EQ_ (by decide)) (by first | kernel_rfl | rfl)
@[simp] theorem lmMul_len (a : List (BitVec 64)) (b : List (BitVec 64)) (ha : a.length = 5) (hb : b.length = 5) : (lmMul a b).length = 5 := by
  unfold lmMul
  first | (simp (maxDischargeDepth := 9) [lmMul_L6_len0, lmMul_L6_len1, lmMul_L3_len0, lmMul_L3_len1, lmMul_L21_len1, *]; done) | (simp (maxDischargeDepth := 9) [lmMul_L6_len0, lmMul_L6_len1, lmMul_L3_len0, lmMul_L3_len1, lmMul_L21_len1, *]; omega) | (split <;> (simp (maxDischargeDepth := 9) [lmMul_L6_len0, lmMul_L6_len1, lmMul_L3_len0, lmMul_L3_len1, lmMul_L21_len1, *]; done))
attribute [irreducible] lmMul
end Go.Proofs.Ytcgncafhonlmlaa
namespace Go.Proofs.Ytcgncafhonlmlaa
open Go.RowKit
theorem prod5 (a0 a1 a2 a3 a4 b0 b1 b2 b3 b4 : Nat) : (a0 + a1 * 2251799813685248 + a2 * 5070602400912917605986812821504 + a3 * 11417981541647679048466287755595961091061972992 + a4 * 25711008708143844408671393477458601640355247900524685364822016) * (b0 + b1 * 2251799813685248 + b2 * 5070602400912917605986812821504 + b3 * 11417981541647679048466287755595961091061972992 + b4 * 25711008708143844408671393477458601640355247900524685364822016) = (a0 * b0 + a1 * (19 * b4) + a2 * (19 * b3) + a3 * (19 * b2) + a4 * (19 * b1)) + (a0 * b1 + a1 * b0 + a2 * (19 * b4) + a3 * (19 * b3) + a4 * (19 * b2)) * 2251799813685248 + (a0 * b2 + a1 * b1 + a2 * b0 + a3 * (19 * b4) + a4 * (19 * b3)) * 5070602400912917605986812821504 + (a0 * b3 + a1 * b2 + a2 * b1 + a3 * b0 + a4 * (19 * b4)) * 11417981541647679048466287755595961091061972992 + (a0 * b4 + a1 * b3 + a2 * b2 + a3 * b1 + a4 * b0) * 25711008708143844408671393477458601640355247900524685364822016 + 57896044618658097711785492504343953926634992332820282019728792003956564819949 * (a1 * b4 * 1 + a2 * b3 * 1 + a2 * b4 * 2251799813685248 + a3 * b2 * 1 + a3 * b3 * 2251799813685248 + a3 * b4 * 5070602400912917605986812821504 + a4 * b1 * 1 + a4 * b2 * 2251799813685248 + a4 * b3 * 5070602400912917605986812821504 + a4 * b4 * 11417981541647679048466287755595961091061972992) := by grind
theorem low32 (x : BitVec 64) : (x &&& 4294967295#64).toNat = x.toNat % 4294967296 := by
  rw [BitVec.toNat_and]
  exact Nat.and_two_pow_sub_one_eq_mod x.toNat 32
theorem mul_nat {x y : BitVec 64} (h : x.toNat * y.toNat < 18446744073709551616) : (x * y).toNat = x.toNat * y.toNat := by
  rw [BitVec.toNat_mul, Nat.mod_eq_of_lt h]
theorem mul641_nat (x y : BitVec 64) : (mul641 x y).toNat = x.toNat * y.toNat % 18446744073709551616 := by
  unfold mul641; rw [BitVec.toNat_mul]
theorem mul640_nat (x y : BitVec 64) : (mul640 x y).toNat = x.toNat * y.toNat / 18446744073709551616 := by
  obtain ⟨g1, g2, g3, g4⟩ := Go.Lib.mul64_hi x.toNat y.toNat x.isLt y.isLt
  have hx := x.isLt
  have hy := y.isLt
  have hxy : x.toNat * y.toNat / 18446744073709551616 < 18446744073709551616 := by
    rw [Nat.div_lt_iff_lt_mul (by decide)]
    exact Nat.mul_lt_mul'' hx hy
  have x1 := shr_nat x 32
  have y1 := shr_nat y 32
  simp only [Nat.reducePow] at x1 y1
  have x0 := low32 x
  have y0 := low32 y
  have a1 := Go.Lib.half_mul_le (a := x.toNat / 4294967296) (b := y.toNat / 4294967296) (by omega) (by omega)
  have a2 := Go.Lib.half_mul_le (a := x.toNat / 4294967296) (b := y.toNat % 4294967296) (by omega) (by omega)
  have a3 := Go.Lib.half_mul_le (a := x.toNat % 4294967296) (b := y.toNat / 4294967296) (by omega) (by omega)
  have p00 := mul_nat (x := x &&& 4294967295#64) (y := y &&& 4294967295#64) (by rw [x0, y0]; exact g1)
  have p10 := mul_nat (x := x >>> 32) (y := y &&& 4294967295#64) (by rw [x1, y0]; omega)
  have p01 := mul_nat (x := x &&& 4294967295#64) (y := y >>> 32) (by rw [x0, y1]; omega)
  have p11 := mul_nat (x := x >>> 32) (y := y >>> 32) (by rw [x1, y1]; omega)
  rw [x0, y0] at p00
  rw [x1, y0] at p10
  rw [x0, y1] at p01
  rw [x1, y1] at p11
  have s00 := shr_nat ((x &&& 4294967295#64) * (y &&& 4294967295#64)) 32
  simp only [Nat.reducePow] at s00
  rw [p00] at s00
  have t := add_nat (x := (x >>> 32) * (y &&& 4294967295#64)) (y := ((x &&& 4294967295#64) * (y &&& 4294967295#64)) >>> 32) (by rw [p10, s00]; exact g2)
  rw [p10, s00] at t
  unfold mul640
  generalize (x >>> 32) * (y &&& 4294967295#64) + ((x &&& 4294967295#64) * (y &&& 4294967295#64)) >>> 32 = T at *
  have tl := low32 T
  have ts := shr_nat T 32
  simp only [Nat.reducePow] at ts
  rw [t] at tl ts
  have u := add_nat (x := T &&& 4294967295#64) (y := (x &&& 4294967295#64) * (y >>> 32)) (by rw [tl, p01]; exact g3)
  rw [tl, p01] at u
  generalize (T &&& 4294967295#64) + (x &&& 4294967295#64) * (y >>> 32) = U at *
  have us := shr_nat U 32
  simp only [Nat.reducePow] at us
  rw [u] at us
  have v := add_nat (x := (x >>> 32) * (y >>> 32)) (y := T >>> 32) (by rw [p11, ts]; omega)
  rw [p11, ts] at v
  have w := add_nat (x := (x >>> 32) * (y >>> 32) + T >>> 32) (y := U >>> 32) (by rw [v, us]; omega)
  rw [w, v, us]
  exact g4
theorem addC_nat {x y : BitVec 64} : (addC x y 0#64).toNat = (x.toNat + y.toNat) / 18446744073709551616 := by
  have := x.isLt
  have := y.isLt
  unfold addC
  rw [BitVec.toNat_ofNat, show (0#64 : BitVec 64).toNat = 0 from rfl, Nat.add_zero]
  omega
def acc (hi lo : List (BitVec 64)) (t : Nat) : Nat := (nth hi t).toNat * 18446744073709551616 + (nth lo t).toNat
theorem mul_step {hi lo : List (BitVec 64)} (hh : hi.length = 5) (hl : lo.length = 5) (x y : BitVec 64) {t : Nat} (ht : t < 5) (hb : acc hi lo t + x.toNat * y.toNat < 340282366920938463463374607431768211456) (s : Nat) :
    acc (put hi t (nth hi t + (mul640 x y + addC (nth lo t) (mul641 x y) 0#64))) (put lo t (nth lo t + mul641 x y + 0#64)) s = acc hi lo s + (if t = s then x.toNat * y.toNat else 0) := by
  unfold acc at *
  rw [nth_put _ _ _ _ (by omega), nth_put _ _ _ _ (by omega)]
  by_cases e : t = s
  · subst e
    rw [if_pos rfl, if_pos rfl, if_pos rfl, BitVec.add_zero]
    have e0 := mul640_nat x y
    have e1 := mul641_nat x y
    have e2 := addC_nat (x := nth lo t) (y := mul641 x y)
    generalize x.toNat * y.toNat = q at *
    have b0 := (nth lo t).isLt
    have b1 := (mul641 x y).isLt
    have f1 := add_nat (x := mul640 x y) (y := addC (nth lo t) (mul641 x y) 0#64) (by rw [e0, e2]; omega)
    have f2 := add_nat (x := nth hi t) (y := mul640 x y + addC (nth lo t) (mul641 x y) 0#64) (by rw [f1, e0, e2]; omega)
    rw [f2, f1, e0, e2, BitVec.toNat_add]
    omega
  · rw [if_neg e, if_neg e, if_neg e, Nat.add_zero]
def mulP (a b : List (BitVec 64)) (i k : Nat) : Nat := (nth a i).toNat * (if 5 ≤ i + k then 19 * (nth b k).toNat else (nth b k).toNat)
def sI (a b : List (BitVec 64)) (i t : Nat) : Nat → Nat
  | 0 => 0
  | k + 1 => sI a b i t k + (if (i + k) % 5 = t then mulP a b i k else 0)
def sO (a b : List (BitVec 64)) (t : Nat) : Nat → Nat
  | 0 => 0
  | i + 1 => sO a b t i + sI a b i t 5
theorem fine_lt {n : Nat} {a : List (BitVec 64)} (h : Low n a) (i : Nat) (hi : i < 5) : (nth a i).toNat < n := by
  obtain ⟨_, h0, h1, h2, h3, h4⟩ := h
  rcases (by omega : i = 0 ∨ i = 1 ∨ i = 2 ∨ i = 3 ∨ i = 4) with e | e | e | e | e <;> subst e <;> assumption
theorem mulP_lt {a b : List (BitVec 64)} (ha : Fine a) (hb : Fine b) (i k : Nat) (hi : i < 5) (hk : k < 5) : mulP a b i k ≤ 649037107316853453566312041152512 := by
  have h1 := fine_lt ha i hi
  have h2 := fine_lt hb k hk
  unfold mulP
  refine Nat.le_trans (Nat.mul_le_mul (Nat.le_of_lt h1) (show _ ≤ 144115188075855872 from ?_)) (by decide)
  split <;> omega
theorem mulx {b : List (BitVec 64)} (hb : Fine b) (i k : Nat) (hk : k < 5) : (if 5 ≤ i + k then (nth b k) * 19#64 else nth b k).toNat = (if 5 ≤ i + k then 19 * (nth b k).toNat else (nth b k).toNat) := by
  have h2 := fine_lt hb k hk
  split
  · rw [mul_nat (by show (nth b k).toNat * 19 < _; omega)]
    show (nth b k).toNat * 19 = _
    omega
  · rfl
theorem sI_le {a b : List (BitVec 64)} (ha : Fine a) (hb : Fine b) (i t : Nat) (hi : i < 5) : ∀ k, k ≤ 5 → sI a b i t k ≤ k * 649037107316853453566312041152512 := by
  intro k
  induction k with
  | zero => intro _; exact Nat.zero_le _
  | succ k ih =>
    intro hk
    have h1 := ih (by omega)
    have h2 := mulP_lt ha hb i k hi (by omega)
    rw [sI, Nat.succ_mul]
    refine Nat.add_le_add h1 ?_
    by_cases e : (i + k) % 5 = t
    · rw [if_pos e]; exact h2
    · rw [if_neg e]; exact Nat.zero_le _
theorem inner_acc {a b X1 X2 : List (BitVec 64)} (ha : Fine a) (hb : Fine b) (h1 : X1.length = 5) (h2 : X2.length = 5) (i : Nat) (hi : i < 5) (hX : ∀ t, acc X1 X2 t ≤ i * 3245185536584267267831560205762560) : ∀ k, k ≤ 5 →
    ∀ t, acc (lmMul_L6 a b X1 X2 i k).1 (lmMul_L6 a b X1 X2 i k).2 t = acc X1 X2 t + sI a b i t k := by
  intro k
  induction k with
  | zero => intro _ t; show acc X1 X2 t = acc X1 X2 t + 0; rw [Nat.add_zero]
  | succ k ih =>
    intro hk t
    have hl := lmMul_L6_lens a b X1 X2 i ha.1 hb.1 h1 h2 k
    have hx := mulx hb i k (by omega)
    have hP := mulP_lt ha hb i k hi (by omega)
    have hS := sI_le ha hb i ((i + k) % 5) hi k (by omega)
    have hA := hX ((i + k) % 5)
    have he := ih (by omega) ((i + k) % 5)
    rw [lmMul_L6, lmMul_L6_S, sI, ← Nat.add_assoc, ← ih (by omega) t]
    unfold mulP at hP
    rw [← hx] at hP
    have := mul_step hl.1 hl.2 (nth a i) (if 5 ≤ i + k then (nth b k) * 19#64 else nth b k) (t := (i + k) % 5) (by omega) (by rw [he]; omega) t
    rw [this]
    unfold mulP
    rw [hx]
theorem outer_acc {a b : List (BitVec 64)} (ha : Fine a) (hb : Fine b) : ∀ i, i ≤ 5 → (∀ t, acc (lmMul_L3 a b i).1 (lmMul_L3 a b i).2 t = sO a b t i) ∧ ∀ t, sO a b t i ≤ i * 3245185536584267267831560205762560 := by
  intro i
  induction i with
  | zero =>
    intro _
    refine ⟨fun t => ?_, fun t => Nat.zero_le _⟩
    show (nth (zer64 5) t).toNat * 18446744073709551616 + (nth (zer64 5) t).toNat = 0
    have : nth (zer64 5) t = 0#64 := by
      unfold nth zer64
      rw [List.getD_eq_getElem?_getD, List.getElem?_replicate]
      split <;> rfl
    rw [this]; rfl
  | succ i ih =>
    intro hi
    obtain ⟨h1, h2⟩ := ih (by omega)
    have hl := lmMul_L3_lens a b ha.1 hb.1 i
    have hin := inner_acc ha hb hl.1 hl.2 i (by omega) (fun t => by rw [h1]; exact h2 t) 5 (Nat.le_refl _)
    refine ⟨fun t => ?_, fun t => ?_⟩
    · rw [lmMul_L3, lmMul_L3_S, sO, ← h1 t]; exact hin t
    · rw [sO]
      have := sI_le ha hb i t (by omega) 5 (Nat.le_refl _)
      have := h2 t
      omega
theorem carry_step {hi lo c : BitVec 64} (h : hi.toNat * 18446744073709551616 + lo.toNat + c.toNat < 41538374868278621028243970633760768) :
    ((lo + c + 0#64) &&& 2251799813685247#64).toNat = (hi.toNat * 18446744073709551616 + lo.toNat + c.toNat) % 2251799813685248 ∧
    (((hi + addC lo c 0#64) <<< 13) ||| ((lo + c + 0#64) >>> 51)).toNat = (hi.toNat * 18446744073709551616 + lo.toNat + c.toNat) / 2251799813685248 := by
  have b0 := lo.isLt
  have b1 := c.isLt
  have e := addC_nat (x := lo) (y := c)
  have f := add_nat (x := hi) (y := addC lo c 0#64) (by rw [e]; omega)
  rw [e] at f
  have g : (lo + c + 0#64).toNat = (lo.toNat + c.toNat) % 18446744073709551616 := by rw [BitVec.add_zero, BitVec.toNat_add]
  generalize lo + c + 0#64 = l at *
  generalize hi + addC lo c 0#64 = q at *
  have s := shr51 l
  refine ⟨by rw [mask_toNat, g]; omega, ?_⟩
  have o := or_low (x := l >>> 51) (y := q) 13 (by rw [s]; show _ < 8192; omega)
  simp only [Nat.reducePow] at o
  rw [BitVec.or_comm, o, s, f, g]
  omega
def chain5 (h0 h1 h2 h3 h4 l0 l1 l2 l3 l4 : BitVec 64) : BitVec 64 × List (BitVec 64) :=
  let c0 := 0#64
  let c1 := ((h0 + addC l0 c0 0#64) <<< 13) ||| ((l0 + c0 + 0#64) >>> 51)
  let c2 := ((h1 + addC l1 c1 0#64) <<< 13) ||| ((l1 + c1 + 0#64) >>> 51)
  let c3 := ((h2 + addC l2 c2 0#64) <<< 13) ||| ((l2 + c2 + 0#64) >>> 51)
  let c4 := ((h3 + addC l3 c3 0#64) <<< 13) ||| ((l3 + c3 + 0#64) >>> 51)
  let c5 := ((h4 + addC l4 c4 0#64) <<< 13) ||| ((l4 + c4 + 0#64) >>> 51)
  (c5, [(l0 + c0 + 0#64) &&& 2251799813685247#64, (l1 + c1 + 0#64) &&& 2251799813685247#64, (l2 + c2 + 0#64) &&& 2251799813685247#64, (l3 + c3 + 0#64) &&& 2251799813685247#64, (l4 + c4 + 0#64) &&& 2251799813685247#64])
theorem chain_eq (h0 h1 h2 h3 h4 l0 l1 l2 l3 l4 : BitVec 64) : lmMul_L21 [h0, h1, h2, h3, h4] [l0, l1, l2, l3, l4] 5 = chain5 h0 h1 h2 h3 h4 l0 l1 l2 l3 l4 := by kernel_rfl
theorem chain_spec (h0 h1 h2 h3 h4 l0 l1 l2 l3 l4 : BitVec 64) (b0 : h0.toNat * 18446744073709551616 + l0.toNat ≤ 16225927682921336339157801028812800) (b1 : h1.toNat * 18446744073709551616 + l1.toNat ≤ 16225927682921336339157801028812800) (b2 : h2.toNat * 18446744073709551616 + l2.toNat ≤ 16225927682921336339157801028812800) (b3 : h3.toNat * 18446744073709551616 + l3.toNat ≤ 16225927682921336339157801028812800) (b4 : h4.toNat * 18446744073709551616 + l4.toNat ≤ 16225927682921336339157801028812800) :
    ∃ c r0 r1 r2 r3 r4 : BitVec 64, chain5 h0 h1 h2 h3 h4 l0 l1 l2 l3 l4 = (c, [r0, r1, r2, r3, r4]) ∧ r0.toNat < 2251799813685248 ∧ r1.toNat < 2251799813685248 ∧ r2.toNat < 2251799813685248 ∧ r3.toNat < 2251799813685248 ∧ r4.toNat < 2251799813685248 ∧
      (h0.toNat * 18446744073709551616 + l0.toNat) + (h1.toNat * 18446744073709551616 + l1.toNat) * 2251799813685248 + (h2.toNat * 18446744073709551616 + l2.toNat) * 5070602400912917605986812821504 + (h3.toNat * 18446744073709551616 + l3.toNat) * 11417981541647679048466287755595961091061972992 + (h4.toNat * 18446744073709551616 + l4.toNat) * 25711008708143844408671393477458601640355247900524685364822016 =
      r0.toNat + r1.toNat * 2251799813685248 + r2.toNat * 5070602400912917605986812821504 + r3.toNat * 11417981541647679048466287755595961091061972992 + r4.toNat * 25711008708143844408671393477458601640355247900524685364822016 + c.toNat * 57896044618658097711785492504343953926634992332820282019728792003956564819968 := by
  refine ⟨_, _, _, _, _, _, rfl, ?_⟩
  have z : (0#64 : BitVec 64).toNat = 0 := rfl
  obtain ⟨m0, k0⟩ := carry_step (hi := h0) (lo := l0) (c := 0#64) (by rw [z]; omega)
  generalize ((h0 + addC l0 0#64 0#64) <<< 13) ||| ((l0 + 0#64 + 0#64) >>> 51) = c1 at *
  have := c1.isLt
  obtain ⟨m1, k1⟩ := carry_step (hi := h1) (lo := l1) (c := c1) (by omega)
  generalize ((h1 + addC l1 c1 0#64) <<< 13) ||| ((l1 + c1 + 0#64) >>> 51) = c2 at *
  have := c2.isLt
  obtain ⟨m2, k2⟩ := carry_step (hi := h2) (lo := l2) (c := c2) (by omega)
  generalize ((h2 + addC l2 c2 0#64) <<< 13) ||| ((l2 + c2 + 0#64) >>> 51) = c3 at *
  have := c3.isLt
  obtain ⟨m3, k3⟩ := carry_step (hi := h3) (lo := l3) (c := c3) (by omega)
  generalize ((h3 + addC l3 c3 0#64) <<< 13) ||| ((l3 + c3 + 0#64) >>> 51) = c4 at *
  have := c4.isLt
  obtain ⟨m4, k4⟩ := carry_step (hi := h4) (lo := l4) (c := c4) (by omega)
  rw [m0, m1, m2, m3, m4, k4, z]
  omega
theorem mul_fine {a b : List (BitVec 64)} (ha : Fine a) (hb : Fine b) : Fine (lmMul a b) ∧ LF (lmMul a b) = LF a * LF b := by
  obtain ⟨hac, hle⟩ := outer_acc ha hb 5 (Nat.le_refl _)
  have hl := lmMul_L3_lens a b ha.1 hb.1 5
  unfold lmMul
  generalize lmMul_L3 a b 5 = Y at *
  obtain ⟨hi, lo⟩ := Y
  dsimp only at hac hl ⊢
  obtain ⟨h0, h1, h2, h3, h4, rfl⟩ := five hl.1
  obtain ⟨l0, l1, l2, l3, l4, rfl⟩ := five hl.2
  have a0 := hac 0
  have a1 := hac 1
  have a2 := hac 2
  have a3 := hac 3
  have a4 := hac 4
  change h0.toNat * 18446744073709551616 + l0.toNat = _ at a0
  change h1.toNat * 18446744073709551616 + l1.toNat = _ at a1
  change h2.toNat * 18446744073709551616 + l2.toNat = _ at a2
  change h3.toNat * 18446744073709551616 + l3.toNat = _ at a3
  change h4.toNat * 18446744073709551616 + l4.toNat = _ at a4
  have d0 := hle 0
  have d1 := hle 1
  have d2 := hle 2
  have d3 := hle 3
  have d4 := hle 4
  rw [chain_eq]
  obtain ⟨c, r0, r1, r2, r3, r4, he, g0, g1, g2, g3, g4, g5⟩ := chain_spec h0 h1 h2 h3 h4 l0 l1 l2 l3 l4 (by omega) (by omega) (by omega) (by omega) (by omega)
  rw [he]
  dsimp only
  have p0 := mul640_nat c 19#64
  have p1 := mul641_nat c 19#64
  rw [show (19#64 : BitVec 64).toNat = 19 from rfl] at p0 p1
  have hc := c.isLt
  obtain ⟨q0, q1⟩ := carry_step (hi := mul640 c 19#64) (lo := mul641 c 19#64) (c := r0) (by omega)
  show Fine (lmCar [(mul641 c 19#64 + r0 + 0#64) &&& 2251799813685247#64, r1 + (((mul640 c 19#64 + addC (mul641 c 19#64) r0 0#64) <<< 13) ||| ((mul641 c 19#64 + r0 + 0#64) >>> 51)), r2, r3, r4]) ∧ LF (lmCar [(mul641 c 19#64 + r0 + 0#64) &&& 2251799813685247#64, r1 + (((mul640 c 19#64 + addC (mul641 c 19#64) r0 0#64) <<< 13) ||| ((mul641 c 19#64 + r0 + 0#64) >>> 51)), r2, r3, r4]) = _
  generalize ((mul640 c 19#64 + addC (mul641 c 19#64) r0 0#64) <<< 13) ||| ((mul641 c 19#64 + r0 + 0#64) >>> 51) = u at *
  generalize (mul641 c 19#64 + r0 + 0#64) &&& 2251799813685247#64 = v at *
  have hu := add_nat (x := r1) (y := u) (by omega)
  generalize r1 + u = w at *
  obtain ⟨f1, f2⟩ := car_fine (a := [v, w, r2, r3, r4]) ⟨rfl, by show v.toNat < _; omega, by show w.toNat < _; omega, by show r2.toNat < _; omega, by show r3.toNat < _; omega, by show r4.toNat < _; omega⟩
  refine ⟨f1, f2.trans ?_⟩
  unfold LF
  rw [← zf_mul]
  have e1 : lV a * lV b = (h0.toNat * 18446744073709551616 + l0.toNat) + (h1.toNat * 18446744073709551616 + l1.toNat) * 2251799813685248 + (h2.toNat * 18446744073709551616 + l2.toNat) * 5070602400912917605986812821504 + (h3.toNat * 18446744073709551616 + l3.toNat) * 11417981541647679048466287755595961091061972992 + (h4.toNat * 18446744073709551616 + l4.toNat) * 25711008708143844408671393477458601640355247900524685364822016 + 57896044618658097711785492504343953926634992332820282019728792003956564819949 * ((nth a 1).toNat * (nth b 4).toNat * 1 + (nth a 2).toNat * (nth b 3).toNat * 1 + (nth a 2).toNat * (nth b 4).toNat * 2251799813685248 + (nth a 3).toNat * (nth b 2).toNat * 1 + (nth a 3).toNat * (nth b 3).toNat * 2251799813685248 + (nth a 3).toNat * (nth b 4).toNat * 5070602400912917605986812821504 + (nth a 4).toNat * (nth b 1).toNat * 1 + (nth a 4).toNat * (nth b 2).toNat * 2251799813685248 + (nth a 4).toNat * (nth b 3).toNat * 5070602400912917605986812821504 + (nth a 4).toNat * (nth b 4).toNat * 11417981541647679048466287755595961091061972992) := by
    rw [a0, a1, a2, a3, a4]
    unfold lV
    rw [prod5]
    simp only [sO, sI, mulP, Nat.reduceAdd, Nat.reduceMod, Nat.reduceLeDiff, Nat.zero_add, Nat.add_zero, if_true, if_false, Nat.reduceEqDiff, reduceIte]
  have e2 : zf (lV a * lV b) = zf (r0.toNat + r1.toNat * 2251799813685248 + r2.toNat * 5070602400912917605986812821504 + r3.toNat * 11417981541647679048466287755595961091061972992 + r4.toNat * 25711008708143844408671393477458601640355247900524685364822016 + c.toNat * 57896044618658097711785492504343953926634992332820282019728792003956564819968) := by
    rw [zf_eq, e1, Nat.add_mul_mod_self_left, g5]
  rw [e2, zf_cut rfl]
  congr 1
  show v.toNat + w.toNat * _ + r2.toNat * _ + r3.toNat * _ + r4.toNat * _ = _
  omega
end Go.Proofs.Ytcgncafhonlmlaa
namespace Go.Proofs.Ytcgncafhonlmlaa
open Go.RowKit
def rfSub (a : List (BitVec 64)) (b : List (BitVec 64)) : List (BitVec 64) := rfMod (rfsub0 (rfadd0 (rfMod a) rfP) (rfMod b))
@[simp] theorem rfSub_len (a : List (BitVec 64)) (b : List (BitVec 64)) (ha : a.length = 4) (hb : b.length = 4) : (rfSub a b).length = 4 := by
  unfold rfSub
  first | (simp (maxDischargeDepth := 9) [*]; done) | (simp (maxDischargeDepth := 9) [*]; omega) | (split <;> (simp (maxDischargeDepth := 9) [*]; done))
attribute [irreducible] rfSub
def rfTimes_L7_S (a : List (BitVec 64)) (b : List (BitVec 64)) (j3 : Nat) (X2 : BitVec 64) (X3 : List (BitVec 64)) (j7 : Nat) : BitVec 64 × List (BitVec 64) := (((mul640 (nth a j3) (nth b j7)) + (addC (mul641 (nth a j3) (nth b j7)) (nth X3 (j3 + j7)) 0#64)) + (addC ((mul641 (nth a j3) (nth b j7)) + (nth X3 (j3 + j7)) + 0#64) X2 0#64), put X3 (j3 + j7) (((mul641 (nth a j3) (nth b j7)) + (nth X3 (j3 + j7)) + 0#64) + X2 + 0#64))
def rfTimes_L7 (a : List (BitVec 64)) (b : List (BitVec 64)) (X1 : List (BitVec 64)) (j3 : Nat) : Nat → BitVec 64 × List (BitVec 64)
  | 0 => (0#64, X1)
  | j7 + 1 => rfTimes_L7_S a b j3 (rfTimes_L7 a b X1 j3 j7).1 (rfTimes_L7 a b X1 j3 j7).2 j7
theorem rfTimes_L7_len1 (a : List (BitVec 64)) (b : List (BitVec 64)) (X1 : List (BitVec 64)) (j3 : Nat) (ha : a.length = 4) (hb : b.length = 4) (hX1 : X1.length = 8) (j7 : Nat) : (rfTimes_L7 a b X1 j3 j7).2.length = 8 := by
  induction j7 with
  | zero => first | (simp (maxDischargeDepth := 9) [rfTimes_L7, *]; done) | (simp (maxDischargeDepth := 9) [rfTimes_L7, *]; omega)
  | succ j7 ih => rw [rfTimes_L7.eq_2, rfTimes_L7_S]; first | (simp (maxDischargeDepth := 9) [ih]; done) | (simp (maxDischargeDepth := 9) [ih]; omega) | (simp (maxDischargeDepth := 9) [*]; done) | (simp (maxDischargeDepth := 9) [*]; omega) | (split <;> first | (simp (maxDischargeDepth := 9) [ih]; done) | (simp (maxDischargeDepth := 9) [ih]; omega) | (simp (maxDischargeDepth := 9) [*]; done))
def rfTimes_L3_S (a : List (BitVec 64)) (b : List (BitVec 64)) (X1 : List (BitVec 64)) (j3 : Nat) : List (BitVec 64) := put ((rfTimes_L7 a b X1 j3 4).2) (j3 + 4) ((rfTimes_L7 a b X1 j3 4).1)
def rfTimes_L3 (a : List (BitVec 64)) (b : List (BitVec 64)) : Nat → List (BitVec 64)
  | 0 => zer64 8
  | j3 + 1 => rfTimes_L3_S a b (rfTimes_L3 a b j3) j3
theorem rfTimes_L3_len (a : List (BitVec 64)) (b : List (BitVec 64)) (ha : a.length = 4) (hb : b.length = 4) (j3 : Nat) : (rfTimes_L3 a b j3).length = 8 := by
  induction j3 with
  | zero => first | (simp (maxDischargeDepth := 9) [rfTimes_L3, *]; done) | (simp (maxDischargeDepth := 9) [rfTimes_L3, *]; omega)
  | succ j3 ih => rw [rfTimes_L3.eq_2, rfTimes_L3_S]; first | (simp (maxDischargeDepth := 9) [ih]; done) | (simp (maxDischargeDepth := 9) [ih]; omega) | (simp (maxDischargeDepth := 9) [rfTimes_L7_len1, *]; done) | (simp (maxDischargeDepth := 9) [rfTimes_L7_len1, *]; omega) | (split <;> first | (simp (maxDischargeDepth := 9) [ih]; done) | (simp (maxDischargeDepth := 9) [ih]; omega) | (simp (maxDischargeDepth := 9) [rfTimes_L7_len1, *]; done))
def rfTimes (a : List (BitVec 64)) (b : List (BitVec 64)) : List (BitVec 64) := (rfTimes_L3 a b 4)
@[simp] theorem rfTimes_len (a : List (BitVec 64)) (b : List (BitVec 64)) (ha : a.length = 4) (hb : b.length = 4) : (rfTimes a b).length = 8 := by
  unfold rfTimes
  first | (simp (maxDischargeDepth := 9) [rfTimes_L7_len1, rfTimes_L3_len, *]; done) | (simp (maxDischargeDepth := 9) [rfTimes_L7_len1, rfTimes_L3_len, *]; omega) | (split <;> (simp (maxDischargeDepth := 9) [rfTimes_L7_len1, rfTimes_L3_len, *]; done))
attribute [irreducible] rfTimes
end Go.Proofs.Ytcgncafhonlmlaa
namespace Go.Proofs.Ytcgncafhonlmlaa
open Go.RowKit
theorem four {a : List (BitVec 64)} (h : a.length = 4) : ∃ a0 a1 a2 a3, a = [a0, a1, a2, a3] := by
  match a, h with
  | [a0, a1, a2, a3], _ => exact ⟨_, _, _, _, rfl⟩
def wordsOf (n : Nat) : List (BitVec 64) := [BitVec.ofNat 64 n, BitVec.ofNat 64 (n / 18446744073709551616), BitVec.ofNat 64 (n / 340282366920938463463374607431768211456), BitVec.ofNat 64 (n / 6277101735386680763835789423207666416102355444464034512896)]
@[simp] theorem wordsOf_len (n : Nat) : (wordsOf n).length = 4 := rfl
theorem wV_lt (a : List (BitVec 64)) : wV a < 115792089237316195423570985008687907853269984665640564039457584007913129639936 := by
  have h0 := (nth a 0).isLt
  have h1 := (nth a 1).isLt
  have h2 := (nth a 2).isLt
  have h3 := (nth a 3).isLt
  unfold wV
  omega
theorem addC_nat3 {x y c : BitVec 64} (hc : c.toNat ≤ 1) : (addC x y c).toNat = (x.toNat + y.toNat + c.toNat) / 18446744073709551616 := by
  have := x.isLt
  have := y.isLt
  unfold addC
  rw [BitVec.toNat_ofNat]
  omega
theorem add3 (x y c : BitVec 64) : (x + y + c).toNat = (x.toNat + y.toNat + c.toNat) % 18446744073709551616 := by
  rw [BitVec.toNat_add, BitVec.toNat_add]
  omega
theorem subC_nat3 (x y c : BitVec 64) : (subC x y c).toNat = if x.toNat < y.toNat + c.toNat then 1 else 0 := by
  unfold subC
  split <;> rfl
theorem sub3 (x y c : BitVec 64) : (x - y - c).toNat = (x.toNat + 36893488147419103232 - y.toNat - c.toNat) % 18446744073709551616 := by
  have := x.isLt
  have := y.isLt
  have := c.isLt
  rw [BitVec.toNat_sub, BitVec.toNat_sub]
  omega
theorem rfsub_val {a b : List (BitVec 64)} (ha : a.length = 4) (hb : b.length = 4) : wV (rfsub0 a b) + wV b = wV a + (rfsub1 a b).toNat * 115792089237316195423570985008687907853269984665640564039457584007913129639936 ∧ (rfsub1 a b).toNat ≤ 1 := by
  obtain ⟨a0, a1, a2, a3, rfl⟩ := four ha
  obtain ⟨b0, b1, b2, b3, rfl⟩ := four hb
  have z : (0#64 : BitVec 64).toNat = 0 := rfl
  have e0 : rfsub0 [a0, a1, a2, a3] [b0, b1, b2, b3] = [a0 - b0 - 0#64, a1 - b1 - subC a0 b0 0#64, a2 - b2 - subC a1 b1 (subC a0 b0 0#64), a3 - b3 - subC a2 b2 (subC a1 b1 (subC a0 b0 0#64))] := by unfold rfsub0; rfl
  have e1 : rfsub1 [a0, a1, a2, a3] [b0, b1, b2, b3] = subC a3 b3 (subC a2 b2 (subC a1 b1 (subC a0 b0 0#64))) := by unfold rfsub1; rfl
  rw [e0, e1]
  have i0 := a0.isLt
  have i1 := a1.isLt
  have i2 := a2.isLt
  have i3 := a3.isLt
  have j0 := b0.isLt
  have j1 := b1.isLt
  have j2 := b2.isLt
  have j3 := b3.isLt
  have c1 := subC_nat3 a0 b0 0#64
  have s0 := sub3 a0 b0 0#64
  generalize subC a0 b0 0#64 = k1 at *
  have c2 := subC_nat3 a1 b1 k1
  have s1 := sub3 a1 b1 k1
  generalize subC a1 b1 k1 = k2 at *
  have c3 := subC_nat3 a2 b2 k2
  have s2 := sub3 a2 b2 k2
  generalize subC a2 b2 k2 = k3 at *
  have c4 := subC_nat3 a3 b3 k3
  have s3 := sub3 a3 b3 k3
  generalize subC a3 b3 k3 = k4 at *
  show (a0 - b0 - 0#64).toNat + (a1 - b1 - k1).toNat * _ + (a2 - b2 - k2).toNat * _ + (a3 - b3 - k3).toNat * _ + (b0.toNat + b1.toNat * _ + b2.toNat * _ + b3.toNat * _) = a0.toNat + a1.toNat * _ + a2.toNat * _ + a3.toNat * _ + _ ∧ _
  rw [s0, s1, s2, s3]
  rw [z] at *
  split at c1 <;> split at c2 <;> split at c3 <;> split at c4 <;> (rw [c1] at *; rw [c2] at *; rw [c3] at *; rw [c4]; constructor <;> omega)
def WF (u : Fp) : List (BitVec 64) := wordsOf u.val
def ZW (a : List (BitVec 64)) : Fp := zf (wV a)
@[simp] theorem WF_len (u : Fp) : (WF u).length = 4 := rfl
def v64 (a : List (BitVec 64)) : Nat → Nat
  | 0 => 0
  | n + 1 => v64 a n + (nth a n).toNat * 18446744073709551616 ^ n
theorem v64_put (a : List (BitVec 64)) (p : Nat) (v : BitVec 64) (hp : p < a.length) : ∀ n, v64 (put a p v) n + (if p < n then (nth a p).toNat * 18446744073709551616 ^ p else 0) = v64 a n + (if p < n then v.toNat * 18446744073709551616 ^ p else 0) := by
  intro n
  induction n with
  | zero => rfl
  | succ n ih =>
    rw [v64, v64, nth_put _ _ _ _ hp]
    by_cases e : p = n
    · subst e
      rw [if_neg (Nat.lt_irrefl _), if_neg (Nat.lt_irrefl _)] at ih
      rw [if_pos rfl, if_pos (Nat.lt_succ_self _), if_pos (Nat.lt_succ_self _)]
      omega
    · rw [if_neg e]
      by_cases h : p < n
      · rw [if_pos h, if_pos h] at ih
        rw [if_pos (by omega), if_pos (by omega)]
        omega
      · rw [if_neg h, if_neg h] at ih
        rw [if_neg (by omega), if_neg (by omega)]
        omega
theorem times_word (x y o c : BitVec 64) : ((mul640 x y + addC (mul641 x y) o 0#64) + addC (mul641 x y + o + 0#64) c 0#64).toNat * 18446744073709551616 + ((mul641 x y + o + 0#64) + c + 0#64).toNat = x.toNat * y.toNat + o.toNat + c.toNat := by
  have hx := x.isLt
  have hy := y.isLt
  have ho := o.isLt
  have hc := c.isLt
  have hxy : x.toNat * y.toNat ≤ 18446744073709551615 * 18446744073709551615 := Nat.mul_le_mul (by omega) (by omega)
  have e0 := mul640_nat x y
  have e1 := mul641_nat x y
  generalize x.toNat * y.toNat = q at *
  have f1 := addC_nat (x := mul641 x y) (y := o)
  have g1 : (mul641 x y + o + 0#64).toNat = ((mul641 x y).toNat + o.toNat) % 18446744073709551616 := by rw [BitVec.add_zero, BitVec.toNat_add]
  generalize mul641 x y + o + 0#64 = l1 at *
  have f2 := addC_nat (x := l1) (y := c)
  have g2 : (l1 + c + 0#64).toNat = (l1.toNat + c.toNat) % 18446744073709551616 := by rw [BitVec.add_zero, BitVec.toNat_add]
  have s1 := add_nat (x := mul640 x y) (y := addC (mul641 x y) o 0#64) (by rw [e0, f1, e1]; omega)
  have s2 := add_nat (x := mul640 x y + addC (mul641 x y) o 0#64) (y := addC l1 c 0#64) (by rw [s1, e0, f1, f2, g1, e1]; omega)
  rw [s2, s1, e0, f1, f2, g2, g1, e1]
  omega
theorem ring1 (V W Tp v Q M c' ab c X : Nat) (h1 : V + Tp * Q = W + v * Q) (h2 : c' * M + v = ab + Tp + c) (hX : W + c * Q = X) : V + c' * (Q * M) = X + ab * Q := by
  grind
theorem v64_four (a : List (BitVec 64)) : v64 a 4 = wV a := by
  simp only [v64, wV, Nat.pow_zero, Nat.reducePow]
  omega
end Go.Proofs.Ytcgncafhonlmlaa
