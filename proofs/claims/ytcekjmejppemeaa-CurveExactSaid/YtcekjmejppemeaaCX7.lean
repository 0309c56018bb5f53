/- The texts RfModB, RfMA, RfNumL, CvNbB, CvNbM, CvNbS, CvNb, merged into one. -/
import Derived.Test.YtcekjmejppemeaaCX6
/- trystref06.ModL (Drawn up by a program.) -/
namespace Go.Proofs.Ytcekjmejppemeaa
open Go.RowKit
def rfModB_L3_S (b : List (BitVec 8)) (X1 : List (BitVec 64)) (j3 : Nat) : List (BitVec 64) := put X1 (j3 / 8) ((nth X1 (j3 / 8)) ||| (((nth b j3).setWidth 64) <<< (BitVec.ofNat 64 (8 * (j3 % 8))).toNat))
def rfModB_L3 (b : List (BitVec 8)) : Nat → List (BitVec 64)
  | 0 => zer64 8
  | j3 + 1 => rfModB_L3_S b (rfModB_L3 b j3) j3
@[simp] theorem rfModB_L3_len (b : List (BitVec 8)) (j3 : Nat) : (rfModB_L3 b j3).length = 8 := by
  induction j3 with
  | zero => first | (simp [rfModB_L3, *]; done) | (simp [rfModB_L3, *]; omega)
  | succ j3 ih => rw [rfModB_L3.eq_2, rfModB_L3_S]; first | (simp [ih]; done) | (simp [ih]; omega) | (simp [*]; done) | (simp [*]; omega) | (split <;> first | (simp [ih]; done) | (simp [ih]; omega) | (simp [*]; done))
def rfModB (b : List (BitVec 8)) : List (BitVec 8) := rB (rfModL (rfModB_L3 b b.length))
set_option maxRecDepth 100000 in
set_option maxHeartbeats 2000000 in
theorem rfModB_ev (b : List (BitVec 8)) (n : Nat) (cap : Nat) (hb : b.length = n) (hn : n ≤ 1099511627776) (hN : n ≤ 64) : Ev Try.prog (.call 33 [.c (.sl 0 0 n cap 1)] [.row false (.a8 (b))]) (.val (.agg (.a8 (rfModB b))) [.row false (.a8 (b))]) := by
  have hP : Hid (rfModB b = rB (rfModL (rfModB_L3 b b.length))) := ⟨rfl⟩
  subst hb
  refine c_call Try.func33 rfl Try.ntmps33 rfl LEN_ ?_
  refine S_ ?_
  refine c_region ?_
  refine s_memN (m_alloc al_22 LEN_) APP_ rfl ?_
  refine s_nil ?_
  refine S_ ?_
  refine c_region ?_
  refine s_memN (m_alloc al_85 LEN_) APP_ rfl ?_
  refine s_nil ?_
  refine S_ ?_
  refine c_region ?_
  refine s_val (v_assignC rfl) rfl ?_
  refine s_nil ?_
  refine S_ ?_
  refine c_loopC [0, 2, 3, 4] (fun (zz : Nat × List (BitVec 64)) => ⟨30, keepT [0, 2, 3, 4] [.c (.sl 0 0 b.length cap 1), .c (.ptr 1 0), .c (.ptr 2 0), .c (.val (.int .i64 (((zz.1 : Nat) : Int))))], [.row false (.a8 (b)), .row true (.a8 (zer8 32)), .row true (.a64 (zz.2))]⟩) (fun j3 => (j3, rfModB_L3 b j3)) (b.length) (by kernel_rfl) ?_ ?_
  · intro j3 hj3
    try dsimp only
    have hX1 : (rfModB_L3 b j3).length = 8 := by rw [rfModB_L3_len b _]; try omega
    rw [rfModB_L3.eq_2, rfModB_L3_S]
    generalize rfModB_L3 b j3 = X1 at *
    refine S_ ?_
    refine c_region ?_
    refine s_val (v_moveC rfl) rfl ?_
    refine s_val (v_moveC rfl) rfl ?_
    refine s_val (v_lenS rfl Try.underlying47) rfl ?_
    refine s_val (v_lssN rfl rfl) rfl ?_
    refine s_nil ?_
    refine S_ ?_
    refine c_draw 16 mixed (by kernel_rfl) rfl rfl rfl ?_
    refine h_val (v_moveC rfl) rfl ?_
    refine h_val (v_quoN (b := 8) rfl rfl (by omega) (by omega)) rfl ?_
    refine h_val (v_idxA1 rfl rfl Try.underlying85 sz_29 (by omega)) rfl ?_
    refine h_val (v_load64 rfl rfl row_29 LT_) rfl ?_
    refine h_val (v_moveC rfl) rfl ?_
    refine h_val (v_moveC rfl) rfl ?_
    refine h_val (v_idxS1 rfl rfl Try.underlying47 sz_5 (by omega)) rfl ?_
    refine h_val (v_load8 rfl rfl row_5 LT_) rfl ?_
    refine h_val (v_conv rfl Try.underlying5 Try.underlying29 (w8_64 _)) rfl ?_
    refine h_val (v_moveC rfl) rfl ?_
    refine h_val (v_remN (b := 8) rfl rfl (by omega) (by omega)) rfl ?_
    refine h_val (v_mulN (a := 8) rfl rfl (by omega)) rfl ?_
    refine h_val (v_conv rfl Try.underlying3 Try.underlying51 (wi_64 _)) rfl ?_
    refine h_val (v_shl64w rfl rfl) rfl ?_
    refine h_val (v_or64 rfl rfl) rfl ?_
    refine h_val (v_idxA1 rfl rfl Try.underlying85 sz_29 (by omega)) rfl ?_
    refine h_nil ?_
    refine s_store64 rfl rfl rfl sz_29 LT_ SET_ ?_
    refine s_nil ?_
    refine S_ ?_
    refine c_region ?_
    refine s_val (v_moveC rfl) rfl ?_
    refine s_val (v_addN (b := 1) rfl rfl (by omega)) rfl ?_
    refine s_val (v_assignC rfl) rfl ?_
    refine s_nil ?_
    exact ⟨(j3 + 1, _), by kernel_rfl, rfl⟩
  · try dsimp only
    have hY2 : (rfModB_L3 b b.length).length = 8 := by rw [rfModB_L3_len b _]; try omega
    generalize rfModB_L3 b b.length = Y2 at *
    refine S_ ?_
    refine c_region ?_
    refine s_val (v_moveC rfl) rfl ?_
    refine s_val (v_moveC rfl) rfl ?_
    refine s_val (v_lenS rfl Try.underlying47) rfl ?_
    refine s_val (v_lssN rfl rfl) rfl ?_
    refine s_nil ?_
    have hQ3 : (rfModL Y2).length = 4 := LQ_
    have hQ4 : (rB (rfModL Y2)).length = 32 := LQ_
    refine S_ ?_
    refine c_region ?_
    refine s_val (v_loadR rfl rfl row_85 sz_85 EQ_ (by decide)) rfl ?_
    refine s_evN (e_callR (bs := []) (rfModL_ev Y2 HYP_) ok_69 (by kernel_rfl) (by kernel_rfl) rfl VAL_) APP_ rfl ?_
    refine s_evN (e_callR (bs := []) (rB_ev (rfModL Y2) HYP_) ok_25 (by kernel_rfl) (by kernel_rfl) rfl VAL_) APP_ rfl ?_
    refine s_storeR rfl rfl rfl rfl sz_22 EQ_ EQ_ SET_ ?_
    refine s_nil ?_
    refine S_ ?_
    rw [hP.out]
    exact k_1 (r_row rfl rfl row_22 sz_22 EQ_ (by decide)) (by first | kernel_rfl | rfl)

@[simp] theorem rfModB_len (b : List (BitVec 8)) : (rfModB b).length = 32 := by
  unfold rfModB
  first | (simp [*]; done) | (simp [rfModB_L3_len, *]; omega)

attribute [irreducible] rfModB
end Go.Proofs.Ytcekjmejppemeaa
/- trystref06.MulAdd, trystref06.Below (Drawn up by a program.) -/
namespace Go.Proofs.Ytcekjmejppemeaa
open Go.RowKit
def rfMA_L5_S (c : List (BitVec 8)) (X5 : BitVec 64) (X6 : List (BitVec 64)) (j5 : Nat) : BitVec 64 × List (BitVec 64) := (addC (nth X6 j5) (if j5 < 4 then nth (rfOf c) j5 else 0#64) X5, put X6 j5 ((nth X6 j5) + (if j5 < 4 then nth (rfOf c) j5 else 0#64) + X5))
def rfMA_L5 (a : List (BitVec 8)) (b : List (BitVec 8)) (c : List (BitVec 8)) : Nat → BitVec 64 × List (BitVec 64)
  | 0 => (0#64, rfTimes (rfOf a) (rfOf b))
  | j5 + 1 => rfMA_L5_S c (rfMA_L5 a b c j5).1 (rfMA_L5 a b c j5).2 j5
theorem rfMA_L5_len1 (a : List (BitVec 8)) (b : List (BitVec 8)) (c : List (BitVec 8)) (ha : a.length = 32) (hb : b.length = 32) (_hc : c.length = 32) (j5 : Nat) : (rfMA_L5 a b c j5).2.length = 8 := by
  induction j5 with
  | zero => first | (simp (maxDischargeDepth := 9) [rfMA_L5, *]; done) | (simp (maxDischargeDepth := 9) [rfMA_L5, *]; omega)
  | succ j5 ih => rw [rfMA_L5.eq_2, rfMA_L5_S]; first | (simp (maxDischargeDepth := 9) [ih]; done) | (simp (maxDischargeDepth := 9) [ih]; omega) | (simp (maxDischargeDepth := 9) [*]; done) | (simp (maxDischargeDepth := 9) [*]; omega) | (split <;> first | (simp (maxDischargeDepth := 9) [ih]; done) | (simp (maxDischargeDepth := 9) [ih]; omega) | (simp (maxDischargeDepth := 9) [*]; done))
def rfMA (a : List (BitVec 8)) (b : List (BitVec 8)) (c : List (BitVec 8)) : List (BitVec 8) := rB (rfModL ((rfMA_L5 a b c 8).2))
theorem rfMA_c (a b c : List (BitVec 8)) (j : Nat) : (rfMA_L5 a b c j).1.toNat ≤ 1 := by
  induction j with
  | zero => show (0#64).toNat ≤ 1; decide
  | succ j ih => rw [rfMA_L5.eq_2, rfMA_L5_S]; exact addC_le _ _ _ ih
set_option maxRecDepth 100000 in
set_option maxHeartbeats 2000000 in
theorem rfMA_ev (a : List (BitVec 8)) (b : List (BitVec 8)) (c : List (BitVec 8)) (ha : a.length = 32) (hb : b.length = 32) (hc : c.length = 32) : Ev Try.prog (.call 34 [.agg (.a8 (a)), .agg (.a8 (b)), .agg (.a8 (c))] []) (.val (.agg (.a8 (rfMA a b c))) []) := by
  have hP : Hid (rfMA a b c = rB (rfModL ((rfMA_L5 a b c 8).2))) := ⟨rfl⟩
  refine c_call Try.func34 rfl Try.ntmps34 rfl LEN_ ?_
  refine S_ ?_
  refine c_region ?_
  refine s_memN (m_box BX_ LEN_) APP_ rfl ?_
  refine s_memN (m_box BX_ LEN_) APP_ rfl ?_
  refine s_memN (m_box BX_ LEN_) APP_ rfl ?_
  refine s_memN (m_alloc al_22 LEN_) APP_ rfl ?_
  refine s_nil ?_
  have hQ1 : (rfOf a).length = 4 := LQ_
  have hQ2 : (rfOf b).length = 4 := LQ_
  have hQ3 : (rfTimes (rfOf a) (rfOf b)).length = 8 := LQ_
  refine S_ ?_
  refine c_draw 6 mixed (by kernel_rfl) rfl rfl rfl ?_
  refine h_val (v_loadR rfl rfl row_22 sz_22 EQ_ (by decide)) rfl ?_
  refine h_evN (e_callR (bs := []) (rfOf_ev a HYP_) ok_50 (by kernel_rfl) (by kernel_rfl) rfl VAL_) APP_ rfl ?_
  refine h_val (v_loadR rfl rfl row_22 sz_22 EQ_ (by decide)) rfl ?_
  refine h_evN (e_callR (bs := []) (rfOf_ev b HYP_) ok_50 (by kernel_rfl) (by kernel_rfl) rfl VAL_) APP_ rfl ?_
  refine h_evN (e_callR (bs := []) (rfTimes_ev (rfOf a) (rfOf b) HYP_ HYP_) ok_70 (by kernel_rfl) (by kernel_rfl) rfl VAL_) APP_ rfl ?_
  refine h_memN (m_alloc al_85 LEN_) APP_ rfl ?_
  refine h_nil ?_
  refine s_storeR rfl rfl rfl rfl sz_85 EQ_ EQ_ SET_ ?_
  refine s_nil ?_
  have hQ4 : (rfOf c).length = 4 := LQ_
  refine S_ ?_
  refine c_region ?_
  refine s_val (v_loadR rfl rfl row_22 sz_22 EQ_ (by decide)) rfl ?_
  refine s_evN (e_callR (bs := []) (rfOf_ev c HYP_) ok_50 (by kernel_rfl) (by kernel_rfl) rfl VAL_) APP_ rfl ?_
  refine s_memN (m_alloc al_38 LEN_) APP_ rfl ?_
  refine s_storeR rfl rfl rfl rfl sz_38 EQ_ EQ_ SET_ ?_
  refine s_nil ?_
  refine S_ ?_
  refine c_region ?_
  refine s_val (v_assignC rfl) rfl ?_
  refine s_nil ?_
  refine S_ ?_
  refine c_region ?_
  refine s_val (v_assignC rfl) rfl ?_
  refine s_nil ?_
  refine S_ ?_
  refine c_loopC [6, 7, 8, 9, 10] (fun (zz : Nat × BitVec 64 × List (BitVec 64)) => ⟨42, keepT [6, 7, 8, 9, 10] [.c (.ptr 0 0), .c (.ptr 1 0), .c (.ptr 2 0), .c (.val (U64 (zz.2.1))), .c (.val (.int .i64 (((zz.1 : Nat) : Int))))], [.row true (.a8 (zer8 32)), .row true (.a64 (zz.2.2)), .row true (.a64 (rfOf c))]⟩) (fun j5 => (j5, rfMA_L5 a b c j5)) (8) (by kernel_rfl) ?_ ?_
  · intro j5 hj5
    try dsimp only
    have hX6 : (rfMA_L5 a b c j5).2.length = 8 := by rw [rfMA_L5_len1 a b c ha hb hc _]; try omega
    have hcc := rfMA_c a b c j5
    rw [rfMA_L5.eq_2, rfMA_L5_S]
    generalize rfMA_L5 a b c j5 = Z7 at *
    obtain ⟨X5, X6⟩ := Z7
    try dsimp only at *
    refine S_ ?_
    refine c_region ?_
    refine s_val (v_moveC rfl) rfl ?_
    refine s_val (v_lssN (b := 8) rfl rfl) rfl ?_
    refine s_nil ?_
    refine S_ ?_
    refine c_region ?_
    refine s_val (v_assignC rfl) rfl ?_
    refine s_nil ?_
    refine S_ ?_
    refine c_region ?_
    refine s_val (v_moveC rfl) rfl ?_
    refine s_val (v_lssN (b := 4) rfl rfl) rfl ?_
    refine s_nil ?_
    refine Q_ ?_
    refine c_join [6, 7, 8, 9, 10, 11] (fun (zz : BitVec 64) => ⟨42, keepT [6, 7, 8, 9, 10, 11] [.c (.ptr 0 0), .c (.ptr 1 0), .c (.ptr 2 0), .c (.val (U64 (X5))), .c (.val (.int .i64 (((j5 : Nat) : Int)))), .c (.val (U64 (zz)))], [.row true (.a8 (zer8 32)), .row true (.a64 (X6)), .row true (.a64 (rfOf c))]⟩) (if j5 < 4 then nth (rfOf c) j5 else 0#64) rfl (fun hb => ?_) (fun hb => ?_) ?_
    · -- the test is True
      have hb_ := of_decide_eq_true hb
      refine S_ ?_
      refine c_region ?_
      refine s_val (v_moveC rfl) rfl ?_
      refine s_val (v_idxA1 rfl rfl Try.underlying38 sz_29 (by omega)) rfl ?_
      refine s_val (v_load64 rfl rfl row_29 LT_) rfl ?_
      refine s_val (v_assignC rfl) rfl ?_
      refine s_nil ?_
      refine S_ ?_
      refine ⟨(nth (rfOf c) j5), by kernel_rfl, ?_⟩
      rw [if_pos (of_decide_eq_true hb)]
    · -- the test is False
      have hb_ := of_decide_eq_false hb
      refine S_ ?_
      refine ⟨0#64, by kernel_rfl, ?_⟩
      rw [if_neg (of_decide_eq_false hb)]
    generalize (if j5 < 4 then nth (rfOf c) j5 else 0#64) = J8 at *
    refine S_ ?_
    refine c_region ?_
    refine s_val (v_moveC rfl) rfl ?_
    refine s_val (v_moveC rfl) rfl ?_
    refine s_val (v_idxA1 rfl rfl Try.underlying85 sz_29 (by omega)) rfl ?_
    refine s_val (v_load64 rfl rfl row_29 LT_) rfl ?_
    refine s_val (v_moveC rfl) rfl ?_
    refine s_val (v_moveC rfl) rfl ?_
    refine s_evN (e_add ext_71 rfl rfl rfl (rfl : _ = U64 (X5)) (by repeat (first | decide | assumption | apply addC_le | apply subC_le))) APP_ rfl ?_
    refine s_val (v_moveT rfl) rfl ?_
    refine s_val (v_extract rfl rfl) rfl ?_
    refine s_val (v_extract rfl rfl) rfl ?_
    refine s_val (v_idxA1 rfl rfl Try.underlying85 sz_29 (by omega)) rfl ?_
    refine s_store64 rfl rfl rfl sz_29 LT_ SET_ ?_
    refine s_val (v_assignC rfl) rfl ?_
    refine s_nil ?_
    refine S_ ?_
    refine c_region ?_
    refine s_val (v_moveC rfl) rfl ?_
    refine s_val (v_addN (b := 1) rfl rfl (by omega)) rfl ?_
    refine s_val (v_assignC rfl) rfl ?_
    refine s_nil ?_
    exact ⟨(j5 + 1, _), by kernel_rfl, rfl⟩
  · try dsimp only
    have hY10 : (rfMA_L5 a b c 8).2.length = 8 := by rw [rfMA_L5_len1 a b c ha hb hc _]; try omega
    have hcc := rfMA_c a b c 8
    generalize rfMA_L5 a b c 8 = Z11 at *
    obtain ⟨Y9, Y10⟩ := Z11
    try dsimp only at *
    refine S_ ?_
    refine c_region ?_
    refine s_val (v_moveC rfl) rfl ?_
    refine s_val (v_lssN (a := 8) (b := 8) rfl rfl) rfl ?_
    refine s_nil ?_
    have hQ12 : (rfModL Y10).length = 4 := LQ_
    have hQ13 : (rB (rfModL Y10)).length = 32 := LQ_
    refine S_ ?_
    refine c_region ?_
    refine s_val (v_loadR rfl rfl row_85 sz_85 EQ_ (by decide)) rfl ?_
    refine s_evN (e_callR (bs := []) (rfModL_ev Y10 HYP_) ok_69 (by kernel_rfl) (by kernel_rfl) rfl VAL_) APP_ rfl ?_
    refine s_evN (e_callR (bs := []) (rB_ev (rfModL Y10) HYP_) ok_25 (by kernel_rfl) (by kernel_rfl) rfl VAL_) APP_ rfl ?_
    refine s_storeR rfl rfl rfl rfl sz_22 EQ_ EQ_ SET_ ?_
    refine s_nil ?_
    refine S_ ?_
    rw [hP.out]
    exact k_1 (r_row rfl rfl row_22 sz_22 EQ_ (by decide)) (by first | kernel_rfl | rfl)

@[simp] theorem rfMA_len (a : List (BitVec 8)) (b : List (BitVec 8)) (c : List (BitVec 8)) (_ha : a.length = 32) (_hb : b.length = 32) (_hc : c.length = 32) : (rfMA a b c).length = 32 := by
  unfold rfMA
  first | (simp (maxDischargeDepth := 9) [*]; done) | (simp (maxDischargeDepth := 9) [rfMA_L5_len1, *]; omega) | (split <;> (simp (maxDischargeDepth := 9) [rfMA_L5_len1, *]; done))

attribute [irreducible] rfMA


set_option maxRecDepth 100000 in
set_option maxHeartbeats 2000000 in
theorem rfBelow_ev (n : List (BitVec 8)) (hn : n.length = 32) : Ev Try.prog (.call 35 [.agg (.a8 (n))] []) (.val (.c (.val (.bool ((rfsub1 (rfOf n) rfL) == 1#64)))) []) := by
  refine c_call Try.func35 rfl Try.ntmps35 rfl LEN_ ?_
  refine S_ ?_
  refine c_region ?_
  refine s_memN (m_box BX_ LEN_) APP_ rfl ?_
  refine s_val (v_assignC rfl) rfl ?_
  refine s_nil ?_
  have hQ1 : (rfOf n).length = 4 := LQ_
  have hQ2 : (rfL).length = 4 := LQ_
  refine S_ ?_
  refine c_region ?_
  refine s_val (v_loadR rfl rfl row_22 sz_22 EQ_ (by decide)) rfl ?_
  refine s_evN (e_callR (bs := []) (rfOf_ev n HYP_) ok_50 (by kernel_rfl) (by kernel_rfl) rfl VAL_) APP_ rfl ?_
  refine s_evN (e_callR (bs := []) (rfL_ev) ok_24 (by kernel_rfl) (by kernel_rfl) rfl VAL_) APP_ rfl ?_
  refine s_evN (e_callR (bs := []) (rfless_ev (rfOf n) rfL HYP_ HYP_) ok_51 (by kernel_rfl) (by kernel_rfl) rfl VAL_) APP_ rfl ?_
  refine s_val (v_assignC rfl) rfl ?_
  refine s_nil ?_
  refine S_ ?_
  exact k_1 (by first | exact r_tmpC rfl | exact r_tmpA rfl) (by first | kernel_rfl | rfl)
end Go.Proofs.Ytcekjmejppemeaa
/- The reference's numbers modulo L, told by numbers. -/
namespace Go.Proofs.Ytcekjmejppemeaa
open Go.RowKit
theorem or_even (x b : BitVec 64) (hx : x.toNat % 2 = 0) (hb : b.toNat < 2) : (x ||| b).toNat = x.toNat + b.toNat := by
  have e : (x >>> 1) <<< 1 = x := by
    apply BitVec.eq_of_toNat_eq
    rw [BitVec.toNat_shiftLeft, BitVec.toNat_ushiftRight, Nat.shiftLeft_eq, Nat.shiftRight_eq_div_pow]
    have := x.isLt
    omega
  have h := or_low (x := b) (y := x >>> 1) 1 (by omega)
  rw [e, BitVec.or_comm] at h
  rw [h, BitVec.toNat_ushiftRight, Nat.shiftRight_eq_div_pow]
  have := x.isLt
  omega
theorem wbit_at (t : List (BitVec 64)) (n i : Nat) (hi : i < 64 * n) : (((nth t (i / 64)) >>> (BitVec.ofNat 64 (i % 64)).toNat) &&& 1#64).toNat = v64 t n / 2 ^ i % 2 := by
  have hm : (BitVec.ofNat 64 (i % 64)).toNat = i % 64 := by rw [BitVec.toNat_ofNat]; omega
  have e1 : (((nth t (i / 64)) >>> (i % 64)) &&& 1#64).toNat = ((nth t (i / 64)) >>> (i % 64)).toNat % 2 := by
    rw [BitVec.toNat_and]
    exact Nat.and_two_pow_sub_one_eq_mod _ 1
  rw [hm, e1, BitVec.toNat_ushiftRight, Nat.shiftRight_eq_div_pow, ← v64_digit t n (i / 64) (by omega)]
  have h2 : (2 : Nat) ^ i = 18446744073709551616 ^ (i / 64) * 2 ^ (i % 64) := by
    rw [show (18446744073709551616 : Nat) = 2 ^ 64 from rfl, ← Nat.pow_mul, ← Nat.pow_add, Nat.div_add_mod]
  rw [h2, ← Nat.div_div_eq_div_mul]
  generalize v64 t n / 18446744073709551616 ^ (i / 64) = x
  have h3 : i % 64 < 64 := Nat.mod_lt _ (by decide)
  generalize i % 64 = k at h3
  have h4 : (18446744073709551616 : Nat) = 2 ^ k * (2 * 2 ^ (63 - k)) := by
    rw [← Nat.mul_assoc, Nat.mul_comm (2 ^ k) 2, Nat.mul_assoc, ← Nat.pow_add, show k + (63 - k) = 63 by omega]
  rw [h4, Nat.mod_mul_right_div_self, Nat.mod_mul_right_mod]
theorem dblL {X : List (BitVec 64)} (hX : X.length = 4) (hl : wV X < L25519) (b : BitVec 64) (hb : b.toNat < 2) : (put (rfadd0 X X) 0 ((nth (rfadd0 X X) 0) ||| b)).length = 4 ∧ wV (put (rfadd0 X X) 0 ((nth (rfadd0 X X) 0) ||| b)) = 2 * wV X + b.toNat := by
  obtain ⟨e, hc⟩ := rfadd_val hX hX
  have l := rfadd_lenA X X
  have l1 := wV_lt (rfadd0 X X)
  change _ < 7237005577332262213973186563042994240857116359379907606001950938285454250989 at hl
  have hv : wV (rfadd0 X X) = 2 * wV X := by omega
  generalize rfadd0 X X = Y at *
  obtain ⟨a0, a1, a2, a3, rfl⟩ := four l
  change a0.toNat + a1.toNat * 18446744073709551616 + a2.toNat * 340282366920938463463374607431768211456 + a3.toNat * 6277101735386680763835789423207666416102355444464034512896 = 2 * wV X at hv
  refine ⟨rfl, ?_⟩
  show (a0 ||| b).toNat + a1.toNat * 18446744073709551616 + a2.toNat * 340282366920938463463374607431768211456 + a3.toNat * 6277101735386680763835789423207666416102355444464034512896 = 2 * wV X + b.toNat
  rw [or_even a0 b (by omega) hb]
  omega
theorem rfL_len4 : rfL.length = 4 := by simp
theorem lessL {Y : List (BitVec 64)} (hY : Y.length = 4) : (rfsub1 Y rfL == 1#64) = decide (wV Y < L25519) := by
  obtain ⟨e, hc⟩ := rfsub_val hY rfL_len4
  have l1 := wV_lt (rfsub0 Y rfL)
  rw [rfL_val] at e
  by_cases h : wV Y < L25519
  · rw [decide_eq_true h, beq_iff_eq]
    apply BitVec.eq_of_toNat_eq
    show _ = 1
    omega
  · rw [decide_eq_false h, beq_eq_false_iff_ne]
    intro h2
    have : (rfsub1 Y rfL).toNat = 1 := by rw [h2]; rfl
    omega
theorem subL {Y : List (BitVec 64)} (hY : Y.length = 4) (h : ¬ wV Y < L25519) (h2 : wV Y < 2 * L25519) : (rfsub0 Y rfL).length = 4 ∧ wV (rfsub0 Y rfL) = wV Y % L25519 := by
  obtain ⟨e, hc⟩ := rfsub_val hY rfL_len4
  have l1 := wV_lt (rfsub0 Y rfL)
  refine ⟨rfsub_lenB Y rfL hY, ?_⟩
  rw [rfL_val] at e
  have hm : wV Y % L25519 = wV Y - L25519 := by
    rw [Nat.mod_eq_sub_mod (by omega), Nat.mod_eq_of_lt (by omega)]
  rw [hm]
  have hc0 : (rfsub1 Y rfL).toNat = 0 := by omega
  rw [hc0] at e
  omega
theorem div_big (v k n : Nat) (hk : k = 64 * n) (h : v < 18446744073709551616 ^ n) : v / 2 ^ k = 0 := by
  subst hk
  rw [Nat.pow_mul]
  exact Nat.div_eq_of_lt h
theorem modL_run (t : List (BitVec 64)) : ∀ j, j ≤ 512 → (rfModL_L3 t j).length = 4 ∧ wV (rfModL_L3 t j) = v64 t 8 / 2 ^ (512 - j) % L25519 := by
  intro j
  induction j with
  | zero =>
    intro _
    rw [rfModL_L3]
    refine ⟨rfl, ?_⟩
    have h := v64_lt t 8
    rw [Nat.sub_zero, div_big (v64 t 8) 512 8 rfl h]
    decide +kernel
  | succ j ih =>
    intro hj
    obtain ⟨h1, h2⟩ := ih (by omega)
    have hl : wV (rfModL_L3 t j) < L25519 := by rw [h2]; exact Nat.mod_lt _ L_pos
    have hbit := wbit_at t 8 (511 - j) (by omega)
    rw [rfModL_L3, rfModL_L3_S]
    generalize hB : (((nth t ((511 - j) / 64)) >>> (BitVec.ofNat 64 ((511 - j) % 64)).toNat) &&& 1#64) = B at *
    have hB2 : B.toNat < 2 := by rw [hbit]; exact Nat.mod_lt _ (by decide)
    obtain ⟨d1, d2⟩ := dblL h1 hl B hB2
    have hs : v64 t 8 / 2 ^ (512 - (j + 1)) % L25519 = (2 * wV (rfModL_L3 t j) + B.toNat) % L25519 := by
      rw [h2, hbit, step_mod]
      congr 1
      rw [show 512 - j = (511 - j) + 1 by omega, show 512 - (j + 1) = 511 - j by omega, Nat.pow_succ, ← Nat.div_div_eq_div_mul]
      omega
    rw [hs, ← d2]
    have hlt : wV (put (rfadd0 (rfModL_L3 t j) (rfModL_L3 t j)) 0 ((nth (rfadd0 (rfModL_L3 t j) (rfModL_L3 t j)) 0) ||| B)) < 2 * L25519 := by rw [d2]; omega
    generalize put (rfadd0 (rfModL_L3 t j) (rfModL_L3 t j)) 0 ((nth (rfadd0 (rfModL_L3 t j) (rfModL_L3 t j)) 0) ||| B) = Y at *
    rw [lessL d1]
    by_cases h : wV Y < L25519
    · rw [decide_eq_true h, if_neg (by decide), Nat.mod_eq_of_lt h]
      exact ⟨d1, rfl⟩
    · rw [decide_eq_false h, if_pos (by decide)]
      exact subL d1 h hlt
theorem modL_val (t : List (BitVec 64)) : wV (rfModL t) = v64 t 8 % L25519 := by
  obtain ⟨_, h⟩ := modL_run t 512 (Nat.le_refl _)
  unfold rfModL
  rw [h, Nat.sub_self, Nat.pow_zero, Nat.div_one]
theorem modB_run (b : List (BitVec 8)) : ∀ j, j ≤ 64 → (rfModB_L3 b j).length = 8 ∧ v64 (rfModB_L3 b j) 8 = leS b j := by
  intro j
  induction j with
  | zero => intro _; exact ⟨rfl, by rw [rfModB_L3, leS]; decide⟩
  | succ j ih =>
    intro hj
    obtain ⟨h1, h2⟩ := ih (by omega)
    rw [rfModB_L3, rfModB_L3_S, BitVec.toNat_ofNat, Nat.mod_eq_of_lt (show 8 * (j % 8) < 2 ^ 64 by omega)]
    have hd := v64_digit (rfModB_L3 b j) 8 (j / 8) (by omega)
    have hlt := leS_lt b j
    have hw : (nth (rfModB_L3 b j) (j / 8)).toNat < 256 ^ (j % 8) := by
      rw [← hd, h2]
      refine Nat.lt_of_le_of_lt (Nat.mod_le _ _) ?_
      rw [Nat.div_lt_iff_lt_mul (Nat.pow_pos (by decide))]
      rw [show (18446744073709551616 : Nat) = 256 ^ 8 from rfl, ← Nat.pow_mul, ← Nat.pow_add, Nat.add_comm, Nat.div_add_mod]
      exact hlt
    have hb := or_byte (nth (rfModB_L3 b j) (j / 8)) (nth b j) (j % 8) (Nat.mod_lt _ (by decide)) hw
    have hp := v64_put (rfModB_L3 b j) (j / 8) ((nth (rfModB_L3 b j) (j / 8)) ||| (((nth b j).setWidth 64) <<< (8 * (j % 8)))) (by omega) 8
    rw [if_pos (by omega), if_pos (by omega), hb, h2, Nat.add_mul] at hp
    refine ⟨by rw [put_length, h1], ?_⟩
    rw [leS]
    have e : (256 : Nat) ^ j = 256 ^ (j % 8) * 18446744073709551616 ^ (j / 8) := by
      rw [show (18446744073709551616 : Nat) = 256 ^ 8 from rfl, ← Nat.pow_mul, ← Nat.pow_add, Nat.add_comm, Nat.div_add_mod]
    rw [e, ← Nat.mul_assoc]
    omega
theorem rfModB_same {b : List (BitVec 8)} (hb : b.length ≤ 64) : rfModB b = sMod b := by
  unfold rfModB sMod rB
  rw [modL_val, (modB_run b b.length hb).2]
theorem addm (m : Nat) {c Y : List (BitVec 64)} (hY : Y.length = m) : ∀ j, j ≤ m → (scProd_L19 c Y j).2.length = m ∧ v64 (scProd_L19 c Y j).2 m + (scProd_L19 c Y j).1.toNat * 18446744073709551616 ^ j = v64 Y m + cSum c j := by
  intro j
  induction j with
  | zero => intro _; exact ⟨hY, by show v64 Y m + 0 * _ = v64 Y m + 0; rw [Nat.zero_mul]⟩
  | succ j ih =>
    intro hj
    obtain ⟨h1, h2⟩ := ih (by omega)
    have hc := scProd_c c Y j
    rw [scProd_L19, scProd_L19_S]
    generalize scProd_L19 c Y j = X at *
    obtain ⟨k, t⟩ := X
    dsimp only at h1 h2 hc ⊢
    rw [show (if j < 4 then nth c j else 0#64) = cAt c j from rfl]
    have hv : (nth t j + cAt c j + k).toNat + (addC (nth t j) (cAt c j) k).toNat * 18446744073709551616 = (nth t j).toNat + (cAt c j).toNat + k.toNat := by
      rw [addC_nat3 hc, add3]
      omega
    generalize nth t j + cAt c j + k = v at *
    generalize addC (nth t j) (cAt c j) k = k' at *
    have hp := v64_put t j v (by omega) m
    rw [if_pos (by omega), if_pos (by omega)] at hp
    refine ⟨by rw [put_length, h1], ?_⟩
    rw [cSum, Nat.pow_succ]
    generalize 18446744073709551616 ^ j = Q at *
    generalize 18446744073709551616 = M at *
    generalize v64 (put t j v) m = V at *
    generalize v64 t m = W at *
    generalize v64 Y m = S at *
    clear h1
    have e1 : k'.toNat * (Q * M) = (k'.toNat * M) * Q := by rw [Nat.mul_comm Q M, Nat.mul_assoc]
    have e2 : (k'.toNat * M) * Q + v.toNat * Q = (nth t j).toNat * Q + (cAt c j).toNat * Q + k.toNat * Q := by rw [← Nat.add_mul, ← Nat.add_mul, ← Nat.add_mul, ← hv, Nat.add_comm]
    rw [e1]
    omega
theorem rfMA_run (a b c : List (BitVec 8)) (j : Nat) : rfMA_L5 a b c j = scProd_L19 (rfOf c) (rfTimes (rfOf a) (rfOf b)) j := by
  induction j with
  | zero => rfl
  | succ j ih => rw [rfMA_L5, rfMA_L5_S, scProd_L19, scProd_L19_S, ih]
theorem cSum8 (c : List (BitVec 64)) : cSum c 8 = wV c := by
  simp only [cSum, cAt, wV, Nat.pow_zero, Nat.reducePow, show (0#64 : BitVec 64).toNat = 0 from rfl, Nat.reduceLT, if_true, if_false]
  omega
theorem rfTimes_len8 (a b : List (BitVec 64)) : (rfTimes a b).length = 8 := by
  obtain ⟨h, _⟩ := times_outer (a := a) (b := b) 4 (Nat.le_refl _)
  unfold rfTimes
  exact h
theorem rfMA_same (a b c : List (BitVec 8)) : rfMA a b c = sMA a b c := by
  obtain ⟨g1, g2⟩ := addm 8 (c := rfOf c) (rfTimes_len8 (rfOf a) (rfOf b)) 8 (Nat.le_refl _)
  rw [cSum8, rfTimes_val] at g2
  have la := wV_lt (rfOf a)
  have lb := wV_lt (rfOf b)
  have lc := wV_lt (rfOf c)
  have hab : wV (rfOf a) * wV (rfOf b) ≤ 115792089237316195423570985008687907853269984665640564039457584007913129639935 * 115792089237316195423570985008687907853269984665640564039457584007913129639935 := Nat.mul_le_mul (by omega) (by omega)
  unfold rfMA sMA rB
  rw [modL_val, rfMA_run, ← ZW_of (b := a), ← ZW_of (b := b), ← ZW_of (b := c)]
  have e : v64 (scProd_L19 (rfOf c) (rfTimes (rfOf a) (rfOf b)) 8).2 8 = wV (rfOf a) * wV (rfOf b) + wV (rfOf c) := by
    generalize v64 (scProd_L19 (rfOf c) (rfTimes (rfOf a) (rfOf b)) 8).2 8 = V at *
    generalize (scProd_L19 (rfOf c) (rfTimes (rfOf a) (rfOf b)) 8).1.toNat = k at *
    generalize wV (rfOf a) * wV (rfOf b) = q at *
    simp only [Nat.reducePow, Nat.reduceMul] at *
    omega
  rw [e]
theorem rfBelow_same {n : List (BitVec 8)} (hn : n.length = 32) : ((rfsub1 (rfOf n) rfL) == 1#64) = sBelow n := by
  unfold sBelow
  rw [lessL (rfOf_len n hn), ZW_of]
theorem rMA_ev (a b c : List (BitVec 8)) (ha : a.length = 32) (hb : b.length = 32) (hc : c.length = 32) : Ev Try.prog (.call 34 [.agg (.a8 a), .agg (.a8 b), .agg (.a8 c)] []) (.val (.agg (.a8 (sMA a b c))) []) := by
  rw [← rfMA_same]; exact rfMA_ev a b c ha hb hc
theorem rBelow_ev (n : List (BitVec 8)) (hn : n.length = 32) : Ev Try.prog (.call 35 [.agg (.a8 n)] []) (.val (.c (.val (.bool (sBelow n)))) []) := by
  rw [← rfBelow_same hn]; exact rfBelow_ev n hn
theorem rMod_ev (b : List (BitVec 8)) (n cap : Nat) (hb : b.length = n) (hn : n ≤ 64) : Ev Try.prog (.call 33 [.c (.sl 0 0 n cap 1)] [.row false (.a8 b)]) (.val (.agg (.a8 (sMod b))) [.row false (.a8 b)]) := by
  rw [← rfModB_same (hb ▸ hn)]; exact rfModB_ev b n cap hb (by omega) hn
end Go.Proofs.Ytcekjmejppemeaa
/- trystlaw08.CurveNumbers (Drawn up by a program.) -/
namespace Go.Proofs.Ytcekjmejppemeaa
open Go.RowKit

set_option maxRecDepth 100000 in
set_option maxHeartbeats 2000000 in
theorem cvNbB_ev (b : List (BitVec 8)) (cap : Nat) (x : List (BitVec 8)) (y : List (BitVec 8)) (z : List (BitVec 8)) (_hx : x.length = 32) (_hy : y.length = 32) (_hz : z.length = 32) (hb : 200 < b.length) : Ev Try.prog (.call 10 [.c (.sl 0 0 b.length cap 1), .agg (.a8 (x)), .agg (.a8 (y)), .agg (.a8 (z))] [.row false (.a8 (b))]) (.val (.c (.val (.bool (true)))) [.row false (.a8 (b))]) := by
  refine c_call Try.func10 rfl Try.ntmps10 rfl LEN_ ?_
  refine S_ ?_
  refine c_region ?_
  refine s_memN (m_box BX_ LEN_) APP_ rfl ?_
  refine s_memN (m_box BX_ LEN_) APP_ rfl ?_
  refine s_memN (m_box BX_ LEN_) APP_ rfl ?_
  refine s_val (v_assignC rfl) rfl ?_
  refine s_nil ?_
  refine S_ ?_
  refine c_region ?_
  refine s_val (v_moveC rfl) rfl ?_
  refine s_val (v_lenS rfl Try.underlying47) rfl ?_
  refine s_val (v_gtrN (b := 200) rfl rfl) rfl ?_
  refine s_nil ?_
  refine S_ ?_
  refine c_region ?_
  refine s_val (v_assignC rfl) rfl ?_
  refine s_nil ?_
  refine S_ ?_
  exact k_1 (by first | exact r_tmpC rfl | exact r_tmpA rfl) (by first | kernel_rfl | rfl)
end Go.Proofs.Ytcekjmejppemeaa
/- trystlaw08.CurveNumbers (Drawn up by a program.) -/
namespace Go.Proofs.Ytcekjmejppemeaa
open Go.RowKit

set_option maxRecDepth 100000 in
set_option maxHeartbeats 2000000 in
theorem cvNbM_ev (b : List (BitVec 8)) (cap : Nat) (x : List (BitVec 8)) (y : List (BitVec 8)) (z : List (BitVec 8)) (hx : x.length = 32) (hy : y.length = 32) (hz : z.length = 32) (hb : 64 < b.length ∧ b.length ≤ 200) : Ev Try.prog (.call 10 [.c (.sl 0 0 b.length cap 1), .agg (.a8 (x)), .agg (.a8 (y)), .agg (.a8 (z))] [.row false (.a8 (b))]) (.val (.c (.val (.bool (true)))) [.row false (.a8 (b))]) := by
  refine c_call Try.func10 rfl Try.ntmps10 rfl LEN_ ?_
  refine S_ ?_
  refine c_region ?_
  refine s_memN (m_box BX_ LEN_) APP_ rfl ?_
  refine s_memN (m_box BX_ LEN_) APP_ rfl ?_
  refine s_memN (m_box BX_ LEN_) APP_ rfl ?_
  refine s_val (v_assignC rfl) rfl ?_
  refine s_nil ?_
  refine S_ ?_
  refine c_region ?_
  refine s_val (v_moveC rfl) rfl ?_
  refine s_val (v_lenS rfl Try.underlying47) rfl ?_
  refine s_val (v_gtrN (b := 200) rfl rfl) rfl ?_
  refine s_nil ?_
  have hQ1 : (scModF0).length = 32 := LQ_
  refine S_ ?_
  refine c_region ?_
  refine s_val (v_moveC rfl) rfl ?_
  refine s_evN (e_callR (bs := [0]) (scModF_ev b b.length cap rfl (by omega) hb.1) ok_30 (by kernel_rfl) (by kernel_rfl) rfl VAL_) APP_ rfl ?_
  refine s_val (v_moveT rfl) rfl ?_
  refine s_val (v_extract rfl rfl) rfl ?_
  refine s_val (v_extract rfl rfl) rfl ?_
  refine s_memN (m_alloc al_22 LEN_) APP_ rfl ?_
  refine s_storeR rfl rfl rfl rfl sz_22 EQ_ EQ_ SET_ ?_
  refine s_val (v_assignC rfl) rfl ?_
  refine s_nil ?_
  refine S_ ?_
  refine c_region ?_
  refine s_val (v_moveC rfl) rfl ?_
  refine s_val (v_lenS rfl Try.underlying47) rfl ?_
  refine s_val (v_gtrN (b := 64) rfl rfl) rfl ?_
  refine s_nil ?_
  have hE2 : (!decide (scModF0 = zer8 32)) = false := by rw [decide_eq_true (by unfold scModF0; rfl)]; rfl
  refine S_ ?_
  refine c_region ?_
  refine s_val (v_moveC rfl) rfl ?_
  refine s_val (v_neqN (a := 2) (b := 2) rfl rfl) rfl ?_
  refine s_val (v_moveC rfl) rfl ?_
  refine s_go GO_ ?_
  refine s_val (v_loadR rfl rfl row_22 sz_22 EQ_ (by decide)) rfl ?_
  refine s_go GO_ ?_
  refine s_val (v_blf8 (l := (zer8 32)) za_22 Try.underlying22 sz_5 rfl rfl) rfl ?_
  refine s_go GO_ ?_
  refine s_val (v_bool (v_neqR8 rfl rfl Try.underlying22 Try.underlying5 sz_5 EQ_ EQ_) hE2) rfl ?_
  refine s_val (v_pickF rfl PK_ rfl) rfl ?_
  refine s_nil ?_
  have hQ3 : (sMA x y z).length = 32 := LQ_
  refine S_ ?_
  refine c_region ?_
  refine s_val (v_loadR rfl rfl row_22 sz_22 EQ_ (by decide)) rfl ?_
  refine s_val (v_loadR rfl rfl row_22 sz_22 EQ_ (by decide)) rfl ?_
  refine s_val (v_loadR rfl rfl row_22 sz_22 EQ_ (by decide)) rfl ?_
  refine s_evN (e_callR (bs := []) (sMA_ev x y z HYP_ HYP_ HYP_) ok_32 (by kernel_rfl) (by kernel_rfl) rfl VAL_) APP_ rfl ?_
  refine s_memN (m_alloc al_22 LEN_) APP_ rfl ?_
  refine s_storeR rfl rfl rfl rfl sz_22 EQ_ EQ_ SET_ ?_
  refine s_nil ?_
  have hQ6 : (sMA x y z).length = 32 := LQ_
  have hE4 : (decide (sMA x y z = sMA x y z)) = true := decide_eq_true rfl
  have hE5 : (((sBelow x) == (sBelow x))) = true := beq_self_eq_true _
  refine S_ ?_
  refine c_draw 21 mixed (by kernel_rfl) rfl rfl rfl ?_
  refine h_val (v_loadR rfl rfl row_22 sz_22 EQ_ (by decide)) rfl ?_
  refine h_val (v_loadR rfl rfl row_22 sz_22 EQ_ (by decide)) rfl ?_
  refine h_val (v_loadR rfl rfl row_22 sz_22 EQ_ (by decide)) rfl ?_
  refine h_val (v_loadR rfl rfl row_22 sz_22 EQ_ (by decide)) rfl ?_
  refine h_evN (e_callR (bs := []) (rMA_ev x y z HYP_ HYP_ HYP_) ok_34 (by kernel_rfl) (by kernel_rfl) rfl VAL_) APP_ rfl ?_
  refine h_val (v_bool (v_eqlR8 rfl rfl Try.underlying22 Try.underlying5 sz_5 EQ_ EQ_) hE4) rfl ?_
  refine h_val (v_moveC rfl) rfl ?_
  refine h_go GO_ ?_
  refine h_val (v_loadR rfl rfl row_22 sz_22 EQ_ (by decide)) rfl ?_
  refine h_go GO_ ?_
  refine h_evN (e_callR (bs := []) (sMA_below_ev x y z) ok_31 (by kernel_rfl) (by kernel_rfl) rfl VAL_) APP_ rfl ?_
  refine h_val (v_pickT rfl PK_ rfl) rfl ?_
  refine h_val (v_moveC rfl) rfl ?_
  refine h_go GO_ ?_
  refine h_val (v_loadR rfl rfl row_22 sz_22 EQ_ (by decide)) rfl ?_
  refine h_go GO_ ?_
  refine h_evN (e_callR (bs := []) (sBelow_ev x HYP_) ok_31 (by kernel_rfl) (by kernel_rfl) rfl VAL_) APP_ rfl ?_
  refine h_go GO_ ?_
  refine h_val (v_loadR rfl rfl row_22 sz_22 EQ_ (by decide)) rfl ?_
  refine h_go GO_ ?_
  refine h_evN (e_callR (bs := []) (rBelow_ev x HYP_) ok_35 (by kernel_rfl) (by kernel_rfl) rfl VAL_) APP_ rfl ?_
  refine h_go GO_ ?_
  refine h_val (v_bool (v_eqlB rfl rfl Try.underlying4) hE5) rfl ?_
  refine h_val (v_pickT rfl PK_ rfl) rfl ?_
  refine h_val (v_moveC rfl) rfl ?_
  refine h_go GO_ ?_
  refine h_evN (e_callR (wakes_ev) ok_16 rfl rfl rfl VAL_) APP_ rfl ?_
  refine h_val (v_pickT rfl PK_ rfl) rfl ?_
  refine h_val (v_assignC rfl) rfl ?_
  refine h_nil ?_
  refine s_nil ?_
  refine S_ ?_
  exact k_1 (by first | exact r_tmpC rfl | exact r_tmpA rfl) (by first | kernel_rfl | rfl)
end Go.Proofs.Ytcekjmejppemeaa
/- trystlaw08.CurveNumbers (Drawn up by a program.) -/
namespace Go.Proofs.Ytcekjmejppemeaa
open Go.RowKit

set_option maxRecDepth 100000 in
set_option maxHeartbeats 2000000 in
theorem cvNbS_ev (b : List (BitVec 8)) (cap : Nat) (x : List (BitVec 8)) (y : List (BitVec 8)) (z : List (BitVec 8)) (hx : x.length = 32) (hy : y.length = 32) (hz : z.length = 32) (hb : b.length ≤ 64) : Ev Try.prog (.call 10 [.c (.sl 0 0 b.length cap 1), .agg (.a8 (x)), .agg (.a8 (y)), .agg (.a8 (z))] [.row false (.a8 (b))]) (.val (.c (.val (.bool (true)))) [.row false (.a8 (b))]) := by
  refine c_call Try.func10 rfl Try.ntmps10 rfl LEN_ ?_
  refine S_ ?_
  refine c_region ?_
  refine s_memN (m_box BX_ LEN_) APP_ rfl ?_
  refine s_memN (m_box BX_ LEN_) APP_ rfl ?_
  refine s_memN (m_box BX_ LEN_) APP_ rfl ?_
  refine s_val (v_assignC rfl) rfl ?_
  refine s_nil ?_
  refine S_ ?_
  refine c_region ?_
  refine s_val (v_moveC rfl) rfl ?_
  refine s_val (v_lenS rfl Try.underlying47) rfl ?_
  refine s_val (v_gtrN (b := 200) rfl rfl) rfl ?_
  refine s_nil ?_
  have hQ1 : (sMod b).length = 32 := LQ_
  refine S_ ?_
  refine c_region ?_
  refine s_val (v_moveC rfl) rfl ?_
  refine s_evN (e_callR (bs := [0]) (sMod_ev b b.length cap HYP_ HYP_) ok_30 (by kernel_rfl) (by kernel_rfl) rfl VAL_) APP_ rfl ?_
  refine s_val (v_moveT rfl) rfl ?_
  refine s_val (v_extract rfl rfl) rfl ?_
  refine s_val (v_extract rfl rfl) rfl ?_
  refine s_memN (m_alloc al_22 LEN_) APP_ rfl ?_
  refine s_storeR rfl rfl rfl rfl sz_22 EQ_ EQ_ SET_ ?_
  refine s_val (v_assignC rfl) rfl ?_
  refine s_nil ?_
  refine S_ ?_
  refine c_region ?_
  refine s_val (v_moveC rfl) rfl ?_
  refine s_val (v_lenS rfl Try.underlying47) rfl ?_
  refine s_val (v_gtrN (b := 64) rfl rfl) rfl ?_
  refine s_nil ?_
  have hQ3 : (sMod b).length = 32 := LQ_
  have hE2 : (!decide (sMod b = sMod b)) = false := by rw [decide_eq_true rfl]; rfl
  refine S_ ?_
  refine c_draw 13 mixed (by kernel_rfl) rfl rfl rfl ?_
  refine h_val (v_moveC rfl) rfl ?_
  refine h_val (v_neqN (a := 0) (b := 0) rfl rfl) rfl ?_
  refine h_val (v_moveC rfl) rfl ?_
  refine h_go GO_ ?_
  refine h_val (v_loadR rfl rfl row_22 sz_22 EQ_ (by decide)) rfl ?_
  refine h_go GO_ ?_
  refine h_val (v_moveC rfl) rfl ?_
  refine h_go GO_ ?_
  refine h_evN (e_callR (bs := [0]) (rMod_ev b b.length cap HYP_ HYP_) ok_33 (by kernel_rfl) (by kernel_rfl) rfl VAL_) APP_ rfl ?_
  refine h_go GO_ ?_
  refine h_val (v_bool (v_neqR8 rfl rfl Try.underlying22 Try.underlying5 sz_5 EQ_ EQ_) hE2) rfl ?_
  refine h_val (v_pickF rfl PK_ rfl) rfl ?_
  refine h_val (v_moveC rfl) rfl ?_
  refine h_go GO_ ?_
  refine h_val (v_loadR rfl rfl row_22 sz_22 EQ_ (by decide)) rfl ?_
  refine h_go GO_ ?_
  refine h_evN (e_callR (bs := []) (sMod_below_ev b) ok_31 (by kernel_rfl) (by kernel_rfl) rfl VAL_) APP_ rfl ?_
  refine h_go GO_ ?_
  refine h_val (v_unnotB rfl) rfl ?_
  refine h_val (v_pickF rfl PK_ rfl) rfl ?_
  refine h_nil ?_
  refine s_nil ?_
  have hQ4 : (sMA x y z).length = 32 := LQ_
  refine S_ ?_
  refine c_region ?_
  refine s_val (v_loadR rfl rfl row_22 sz_22 EQ_ (by decide)) rfl ?_
  refine s_val (v_loadR rfl rfl row_22 sz_22 EQ_ (by decide)) rfl ?_
  refine s_val (v_loadR rfl rfl row_22 sz_22 EQ_ (by decide)) rfl ?_
  refine s_evN (e_callR (bs := []) (sMA_ev x y z HYP_ HYP_ HYP_) ok_32 (by kernel_rfl) (by kernel_rfl) rfl VAL_) APP_ rfl ?_
  refine s_memN (m_alloc al_22 LEN_) APP_ rfl ?_
  refine s_storeR rfl rfl rfl rfl sz_22 EQ_ EQ_ SET_ ?_
  refine s_nil ?_
  have hQ7 : (sMA x y z).length = 32 := LQ_
  have hE5 : (decide (sMA x y z = sMA x y z)) = true := decide_eq_true rfl
  have hE6 : (((sBelow x) == (sBelow x))) = true := beq_self_eq_true _
  refine S_ ?_
  refine c_draw 21 mixed (by kernel_rfl) rfl rfl rfl ?_
  refine h_val (v_loadR rfl rfl row_22 sz_22 EQ_ (by decide)) rfl ?_
  refine h_val (v_loadR rfl rfl row_22 sz_22 EQ_ (by decide)) rfl ?_
  refine h_val (v_loadR rfl rfl row_22 sz_22 EQ_ (by decide)) rfl ?_
  refine h_val (v_loadR rfl rfl row_22 sz_22 EQ_ (by decide)) rfl ?_
  refine h_evN (e_callR (bs := []) (rMA_ev x y z HYP_ HYP_ HYP_) ok_34 (by kernel_rfl) (by kernel_rfl) rfl VAL_) APP_ rfl ?_
  refine h_val (v_bool (v_eqlR8 rfl rfl Try.underlying22 Try.underlying5 sz_5 EQ_ EQ_) hE5) rfl ?_
  refine h_val (v_moveC rfl) rfl ?_
  refine h_go GO_ ?_
  refine h_val (v_loadR rfl rfl row_22 sz_22 EQ_ (by decide)) rfl ?_
  refine h_go GO_ ?_
  refine h_evN (e_callR (bs := []) (sMA_below_ev x y z) ok_31 (by kernel_rfl) (by kernel_rfl) rfl VAL_) APP_ rfl ?_
  refine h_val (v_pickT rfl PK_ rfl) rfl ?_
  refine h_val (v_moveC rfl) rfl ?_
  refine h_go GO_ ?_
  refine h_val (v_loadR rfl rfl row_22 sz_22 EQ_ (by decide)) rfl ?_
  refine h_go GO_ ?_
  refine h_evN (e_callR (bs := []) (sBelow_ev x HYP_) ok_31 (by kernel_rfl) (by kernel_rfl) rfl VAL_) APP_ rfl ?_
  refine h_go GO_ ?_
  refine h_val (v_loadR rfl rfl row_22 sz_22 EQ_ (by decide)) rfl ?_
  refine h_go GO_ ?_
  refine h_evN (e_callR (bs := []) (rBelow_ev x HYP_) ok_35 (by kernel_rfl) (by kernel_rfl) rfl VAL_) APP_ rfl ?_
  refine h_go GO_ ?_
  refine h_val (v_bool (v_eqlB rfl rfl Try.underlying4) hE6) rfl ?_
  refine h_val (v_pickT rfl PK_ rfl) rfl ?_
  refine h_val (v_moveC rfl) rfl ?_
  refine h_go GO_ ?_
  refine h_evN (e_callR (wakes_ev) ok_16 rfl rfl rfl VAL_) APP_ rfl ?_
  refine h_val (v_pickT rfl PK_ rfl) rfl ?_
  refine h_val (v_assignC rfl) rfl ?_
  refine h_nil ?_
  refine s_nil ?_
  refine S_ ?_
  exact k_1 (by first | exact r_tmpC rfl | exact r_tmpA rfl) (by first | kernel_rfl | rfl)
end Go.Proofs.Ytcekjmejppemeaa
/- curve's numbers are the reference's: all lengths. -/
namespace Go.Proofs.Ytcekjmejppemeaa
open Go.RowKit
theorem curveNumbers_ev (b : List (BitVec 8)) (cap : Nat) (x y z : List (BitVec 8)) (hx : x.length = 32) (hy : y.length = 32) (hz : z.length = 32) : Ev Try.prog (.call 10 [.c (.sl 0 0 b.length cap 1), .agg (.a8 (x)), .agg (.a8 (y)), .agg (.a8 (z))] [.row false (.a8 (b))]) (.val (.c (.val (.bool (true)))) [.row false (.a8 (b))]) := by
  by_cases h : 200 < b.length
  · exact cvNbB_ev b cap x y z hx hy hz h
  · by_cases h' : 64 < b.length
    · exact cvNbM_ev b cap x y z hx hy hz ⟨h', by omega⟩
    · exact cvNbS_ev b cap x y z hx hy hz (by omega)
end Go.Proofs.Ytcekjmejppemeaa
