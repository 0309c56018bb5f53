/- The texts RfModL, RfModB, RfMA, RfNumL, CvSmall, CvWakes, CvNbB, CvNbM, CvNbS, CvNb, Slice, Open, AvOpen, merged into one. -/
import Derived.Test.YtcekjmejppemeaaCN5
import Derived.Laws.AppendOwnNone
import Derived.Deep.RegionLaw
import Derived.WalkKit
import Derived.ProofKit
import Derived.OpenShut
import Derived.ShutString
import Derived.ChangeOld
import Derived.Below
/- trystref06.modL (Drawn up by a program.) -/
namespace Go.Proofs.Ytcekjmejppemeaa
open Go.RowKit
def rfModL_L3_S (t : List (BitVec 64)) (X1 : List (BitVec 64)) (j3 : Nat) : List (BitVec 64) := (if (!((rfsub1 (put (rfadd0 X1 X1) 0 ((nth (rfadd0 X1 X1) 0) ||| (((nth t ((511 - j3) / 64)) >>> (BitVec.ofNat 64 ((511 - j3) % 64)).toNat) &&& 1#64))) rfL) == 1#64)) = true then rfsub0 (put (rfadd0 X1 X1) 0 ((nth (rfadd0 X1 X1) 0) ||| (((nth t ((511 - j3) / 64)) >>> (BitVec.ofNat 64 ((511 - j3) % 64)).toNat) &&& 1#64))) rfL else put (rfadd0 X1 X1) 0 ((nth (rfadd0 X1 X1) 0) ||| (((nth t ((511 - j3) / 64)) >>> (BitVec.ofNat 64 ((511 - j3) % 64)).toNat) &&& 1#64)))
def rfModL_L3 (t : List (BitVec 64)) : Nat → List (BitVec 64)
  | 0 => zer64 4
  | j3 + 1 => rfModL_L3_S t (rfModL_L3 t j3) j3
theorem rfModL_L3_len (t : List (BitVec 64)) (ht : t.length = 8) (j3 : Nat) : (rfModL_L3 t j3).length = 4 := by
  induction j3 with
  | zero => first | (simp (maxDischargeDepth := 9) [rfModL_L3, *]; done) | (simp (maxDischargeDepth := 9) [rfModL_L3, *]; omega)
  | succ j3 ih => rw [rfModL_L3.eq_2, rfModL_L3_S]; first | (simp (maxDischargeDepth := 9) [ih]; done) | (simp (maxDischargeDepth := 9) [ih]; omega) | (simp (maxDischargeDepth := 9) [*]; done) | (simp (maxDischargeDepth := 9) [*]; omega) | (split <;> first | (simp (maxDischargeDepth := 9) [ih]; done) | (simp (maxDischargeDepth := 9) [ih]; omega) | (simp (maxDischargeDepth := 9) [*]; done))
def rfModL (t : List (BitVec 64)) : List (BitVec 64) := (rfModL_L3 t 512)
set_option maxRecDepth 100000 in
set_option maxHeartbeats 2000000 in
theorem rfModL_ev (t : List (BitVec 64)) (ht : t.length = 8) : Ev Try.prog (.call 69 [.agg (.a64 (t))] []) (.val (.agg (.a64 (rfModL t))) []) := by
  have hP : Hid (rfModL t = (rfModL_L3 t 512)) := ⟨rfl⟩
  refine c_call Try.func69 rfl Try.ntmps69 rfl LEN_ ?_
  refine S_ ?_
  refine c_region ?_
  refine s_memN (m_box BX_ LEN_) APP_ rfl ?_
  refine s_memN (m_alloc al_38 LEN_) APP_ rfl ?_
  refine s_nil ?_
  refine S_ ?_
  refine c_region ?_
  refine s_memN (m_alloc al_38 LEN_) APP_ rfl ?_
  refine s_nil ?_
  refine S_ ?_
  refine c_region ?_
  refine s_val (v_assignC rfl) rfl ?_
  refine s_nil ?_
  refine S_ ?_
  refine c_loopC [1, 2, 3, 4] (fun (zz : Nat × List (BitVec 64)) => ⟨39, keepT [1, 2, 3, 4] [.c (.ptr 0 0), .c (.ptr 1 0), .c (.ptr 2 0), .c (.val (.int .i64 (((511 : Nat) : Int) - ((zz.1 : Nat) : Int))))], [.row true (.a64 (t)), .row true (.a64 (zer64 4)), .row true (.a64 (zz.2))]⟩) (fun j3 => (j3, rfModL_L3 t j3)) (512) (by kernel_rfl) ?_ ?_
  · intro j3 hj3
    try dsimp only
    have hX1 : (rfModL_L3 t j3).length = 4 := by rw [rfModL_L3_len t ht _]; try omega
    rw [rfModL_L3.eq_2, rfModL_L3_S]
    generalize rfModL_L3 t j3 = X1 at *
    rw [show ((511 : Nat) : Int) - ((j3 : Nat) : Int) = ((511 - j3 : Nat) : Int) from by omega]
    refine S_ ?_
    refine c_region ?_
    refine s_val (v_moveC rfl) rfl ?_
    refine s_val (v_geqN (b := 0) rfl rfl) rfl ?_
    refine s_nil ?_
    have hQ2 : (rfadd0 X1 X1).length = 4 := LQ_
    refine S_ ?_
    refine c_region ?_
    refine s_val (v_loadR rfl rfl row_38 sz_38 EQ_ (by decide)) rfl ?_
    refine s_val (v_loadR rfl rfl row_38 sz_38 EQ_ (by decide)) rfl ?_
    refine s_evN (e_callR (bs := []) (rfadd_ev X1 X1 HYP_ HYP_) ok_81 (by kernel_rfl) (by kernel_rfl) rfl VAL_) APP_ rfl ?_
    refine s_val (v_moveT rfl) rfl ?_
    refine s_val (v_extract rfl rfl) rfl ?_
    refine s_val (v_extract rfl rfl) rfl ?_
    refine s_storeR rfl rfl rfl rfl sz_38 EQ_ EQ_ SET_ ?_
    refine s_nil ?_
    refine S_ ?_
    refine c_draw 13 mixed (by kernel_rfl) rfl rfl rfl ?_
    refine h_val (v_idxA1 (j := 0) rfl rfl Try.underlying38 sz_29 (by omega)) rfl ?_
    refine h_val (v_load64 rfl rfl row_29 LT_) rfl ?_
    refine h_val (v_moveC rfl) rfl ?_
    refine h_val (v_quoN (b := 64) rfl rfl (by omega) (by omega)) rfl ?_
    refine h_val (v_idxA1 rfl rfl Try.underlying85 sz_29 (by omega)) rfl ?_
    refine h_val (v_load64 rfl rfl row_29 LT_) rfl ?_
    refine h_val (v_moveC rfl) rfl ?_
    refine h_val (v_remN (b := 64) rfl rfl (by omega) (by omega)) rfl ?_
    refine h_val (v_conv rfl Try.underlying3 Try.underlying51 (wi_64 _)) rfl ?_
    refine h_val (v_shr64w rfl rfl) rfl ?_
    refine h_val (v_and64 (b := 1#64) rfl rfl) rfl ?_
    refine h_val (v_or64 rfl rfl) rfl ?_
    refine h_val (v_idxA1 (j := 0) rfl rfl Try.underlying38 sz_29 (by omega)) rfl ?_
    refine h_nil ?_
    refine s_store64 rfl rfl rfl sz_29 LT_ SET_ ?_
    refine s_nil ?_
    have hQ3 : (rfL).length = 4 := LQ_
    refine S_ ?_
    refine c_draw 4 mixed (by kernel_rfl) rfl rfl rfl ?_
    refine h_val (v_loadR rfl rfl row_38 sz_38 EQ_ (by decide)) rfl ?_
    refine h_evN (e_callR (bs := []) (rfL_ev) ok_24 (by kernel_rfl) (by kernel_rfl) rfl VAL_) APP_ rfl ?_
    refine h_evN (e_callR (bs := []) (rfless_ev (put (rfadd0 X1 X1) 0 ((nth (rfadd0 X1 X1) 0) ||| (((nth t ((511 - j3) / 64)) >>> (BitVec.ofNat 64 ((511 - j3) % 64)).toNat) &&& 1#64))) rfL HYP_ HYP_) ok_51 (by kernel_rfl) (by kernel_rfl) rfl VAL_) APP_ rfl ?_
    refine h_val (v_unnotB rfl) rfl ?_
    refine h_nil ?_
    refine s_nil ?_
    refine Q_ ?_
    refine c_join [1, 2, 3, 4] (fun (zz : List (BitVec 64)) => ⟨39, keepT [1, 2, 3, 4] [.c (.ptr 0 0), .c (.ptr 1 0), .c (.ptr 2 0), .c (.val (.int .i64 (((511 - j3 : Nat) : Int))))], [.row true (.a64 (t)), .row true (.a64 (zer64 4)), .row true (.a64 (zz))]⟩) (if (!((rfsub1 (put (rfadd0 X1 X1) 0 ((nth (rfadd0 X1 X1) 0) ||| (((nth t ((511 - j3) / 64)) >>> (BitVec.ofNat 64 ((511 - j3) % 64)).toNat) &&& 1#64))) rfL) == 1#64)) = true then rfsub0 (put (rfadd0 X1 X1) 0 ((nth (rfadd0 X1 X1) 0) ||| (((nth t ((511 - j3) / 64)) >>> (BitVec.ofNat 64 ((511 - j3) % 64)).toNat) &&& 1#64))) rfL else put (rfadd0 X1 X1) 0 ((nth (rfadd0 X1 X1) 0) ||| (((nth t ((511 - j3) / 64)) >>> (BitVec.ofNat 64 ((511 - j3) % 64)).toNat) &&& 1#64))) rfl (fun hb => ?_) (fun hb => ?_) ?_
    · -- the test is True
      have hQ5 : (rfL).length = 4 := LQ_
      have hQ6 : (rfsub0 (put (rfadd0 X1 X1) 0 ((nth (rfadd0 X1 X1) 0) ||| (((nth t ((511 - j3) / 64)) >>> (BitVec.ofNat 64 ((511 - j3) % 64)).toNat) &&& 1#64))) rfL).length = 4 := LQ_
      refine S_ ?_
      refine c_late 6 5 mixed (by kernel_rfl) (by kernel_rfl) rfl rfl rfl ?_
      refine h_val (v_loadR rfl rfl row_38 sz_38 EQ_ (by decide)) rfl ?_
      refine h_evN (e_callR (bs := []) (rfL_ev) ok_24 (by kernel_rfl) (by kernel_rfl) rfl VAL_) APP_ rfl ?_
      refine h_evN (e_callR (bs := []) (rfsub_ev (put (rfadd0 X1 X1) 0 ((nth (rfadd0 X1 X1) 0) ||| (((nth t ((511 - j3) / 64)) >>> (BitVec.ofNat 64 ((511 - j3) % 64)).toNat) &&& 1#64))) rfL HYP_ HYP_) ok_80 (by kernel_rfl) (by kernel_rfl) rfl VAL_) APP_ rfl ?_
      refine h_val (v_moveT rfl) rfl ?_
      refine h_val (v_extract rfl rfl) rfl ?_
      refine h_val (v_extract rfl rfl) rfl ?_
      refine h_nil ?_
      refine s_storeR rfl rfl rfl rfl sz_38 EQ_ EQ_ SET_ ?_
      refine s_nil ?_
      refine S_ ?_
      refine ⟨(rfsub0 (put (rfadd0 X1 X1) 0 ((nth (rfadd0 X1 X1) 0) ||| (((nth t ((511 - j3) / 64)) >>> (BitVec.ofNat 64 ((511 - j3) % 64)).toNat) &&& 1#64))) rfL), by kernel_rfl, ?_⟩
      rw [if_pos (hb)]
    · -- the test is False
      refine S_ ?_
      refine ⟨(put (rfadd0 X1 X1) 0 ((nth (rfadd0 X1 X1) 0) ||| (((nth t ((511 - j3) / 64)) >>> (BitVec.ofNat 64 ((511 - j3) % 64)).toNat) &&& 1#64))), by kernel_rfl, ?_⟩
      rw [if_neg (by first | (rw [hb]; decide) | simp [hb])]
    have hJ4 : (if (!((rfsub1 (put (rfadd0 X1 X1) 0 ((nth (rfadd0 X1 X1) 0) ||| (((nth t ((511 - j3) / 64)) >>> (BitVec.ofNat 64 ((511 - j3) % 64)).toNat) &&& 1#64))) rfL) == 1#64)) = true then rfsub0 (put (rfadd0 X1 X1) 0 ((nth (rfadd0 X1 X1) 0) ||| (((nth t ((511 - j3) / 64)) >>> (BitVec.ofNat 64 ((511 - j3) % 64)).toNat) &&& 1#64))) rfL else put (rfadd0 X1 X1) 0 ((nth (rfadd0 X1 X1) 0) ||| (((nth t ((511 - j3) / 64)) >>> (BitVec.ofNat 64 ((511 - j3) % 64)).toNat) &&& 1#64))).length = 4 := by split <;> simp [*]
    generalize (if (!((rfsub1 (put (rfadd0 X1 X1) 0 ((nth (rfadd0 X1 X1) 0) ||| (((nth t ((511 - j3) / 64)) >>> (BitVec.ofNat 64 ((511 - j3) % 64)).toNat) &&& 1#64))) rfL) == 1#64)) = true then rfsub0 (put (rfadd0 X1 X1) 0 ((nth (rfadd0 X1 X1) 0) ||| (((nth t ((511 - j3) / 64)) >>> (BitVec.ofNat 64 ((511 - j3) % 64)).toNat) &&& 1#64))) rfL else put (rfadd0 X1 X1) 0 ((nth (rfadd0 X1 X1) 0) ||| (((nth t ((511 - j3) / 64)) >>> (BitVec.ofNat 64 ((511 - j3) % 64)).toNat) &&& 1#64))) = J4 at *
    refine S_ ?_
    refine c_region ?_
    refine s_val (v_moveC rfl) rfl ?_
    first
      | refine s_val (v_subN (b := 1) rfl rfl (by omega) (by omega)) rfl ?_
      | refine s_val (v_subI rfl rfl (by omega)) rfl ?_
    refine s_val (v_assignC rfl) rfl ?_
    refine s_nil ?_
    refine ⟨(j3 + 1, _), (by
      dsimp only
      rw [show ((511 : Nat) : Int) - ((j3 + 1 : Nat) : Int) = ((511 - j3 : Nat) : Int) - 1 from by omega]
      kernel_rfl), rfl⟩
  · try dsimp only
    have hY7 : (rfModL_L3 t 512).length = 4 := by rw [rfModL_L3_len t ht _]; try omega
    generalize rfModL_L3 t 512 = Y7 at *
    refine S_ ?_
    refine c_region ?_
    refine s_val (v_moveC rfl) rfl ?_
    refine s_val (v_geqI rfl rfl) rfl ?_
    refine s_nil ?_
    refine S_ ?_
    refine c_region ?_
    refine s_val (v_loadR rfl rfl row_38 sz_38 EQ_ (by decide)) rfl ?_
    refine s_storeR rfl rfl rfl rfl sz_38 EQ_ EQ_ SET_ ?_
    refine s_nil ?_
    refine S_ ?_
    rw [hP.out]
    exact k_1 (r_row rfl rfl row_38 sz_38 EQ_ (by decide)) (by first | kernel_rfl | rfl)

@[simp] theorem rfModL_len (t : List (BitVec 64)) (ht : t.length = 8) : (rfModL t).length = 4 := by
  unfold rfModL
  first | (simp (maxDischargeDepth := 9) [rfModL_L3_len, *]; done) | (simp (maxDischargeDepth := 9) [rfModL_L3_len, *]; omega) | (split <;> (simp (maxDischargeDepth := 9) [rfModL_L3_len, *]; done))

attribute [irreducible] rfModL
end Go.Proofs.Ytcekjmejppemeaa
/- trystref06.ModL (Drawn up by a program.) -/
namespace Go.Proofs.Ytcekjmejppemeaa
open Go.RowKit
def rfModB_L3_S (b : List (BitVec 8)) (X1 : List (BitVec 64)) (j3 : Nat) : List (BitVec 64) := put X1 (j3 / 8) ((nth X1 (j3 / 8)) ||| (((nth b j3).setWidth 64) <<< (BitVec.ofNat 64 (8 * (j3 % 8))).toNat))
def rfModB_L3 (b : List (BitVec 8)) : Nat → List (BitVec 64)
  | 0 => zer64 8
  | j3 + 1 => rfModB_L3_S b (rfModB_L3 b j3) j3
@[simp] theorem rfModB_L3_len (b : List (BitVec 8)) (j3 : Nat) : (rfModB_L3 b j3).length = 8 := by
  induction j3 with
  | zero => first | (simp [rfModB_L3, *]; done) | (simp [rfModB_L3, *]; omega)
  | succ j3 ih => rw [rfModB_L3.eq_2, rfModB_L3_S]; first | (simp [ih]; done) | (simp [ih]; omega) | (simp [*]; done) | (simp [*]; omega) | (split <;> first | (simp [ih]; done) | (simp [ih]; omega) | (simp [*]; done))
def rfModB (b : List (BitVec 8)) : List (BitVec 8) := rB (rfModL (rfModB_L3 b b.length))
set_option maxRecDepth 100000 in
set_option maxHeartbeats 2000000 in
theorem rfModB_ev (b : List (BitVec 8)) (n : Nat) (cap : Nat) (hb : b.length = n) (hn : n ≤ 1099511627776) (hN : n ≤ 64) : Ev Try.prog (.call 33 [.c (.sl 0 0 n cap 1)] [.row false (.a8 (b))]) (.val (.agg (.a8 (rfModB b))) [.row false (.a8 (b))]) := by
  have hP : Hid (rfModB b = rB (rfModL (rfModB_L3 b b.length))) := ⟨rfl⟩
  subst hb
  refine c_call Try.func33 rfl Try.ntmps33 rfl LEN_ ?_
  refine S_ ?_
  refine c_region ?_
  refine s_memN (m_alloc al_22 LEN_) APP_ rfl ?_
  refine s_nil ?_
  refine S_ ?_
  refine c_region ?_
  refine s_memN (m_alloc al_85 LEN_) APP_ rfl ?_
  refine s_nil ?_
  refine S_ ?_
  refine c_region ?_
  refine s_val (v_assignC rfl) rfl ?_
  refine s_nil ?_
  refine S_ ?_
  refine c_loopC [0, 2, 3, 4] (fun (zz : Nat × List (BitVec 64)) => ⟨30, keepT [0, 2, 3, 4] [.c (.sl 0 0 b.length cap 1), .c (.ptr 1 0), .c (.ptr 2 0), .c (.val (.int .i64 (((zz.1 : Nat) : Int))))], [.row false (.a8 (b)), .row true (.a8 (zer8 32)), .row true (.a64 (zz.2))]⟩) (fun j3 => (j3, rfModB_L3 b j3)) (b.length) (by kernel_rfl) ?_ ?_
  · intro j3 hj3
    try dsimp only
    have hX1 : (rfModB_L3 b j3).length = 8 := by rw [rfModB_L3_len b _]; try omega
    rw [rfModB_L3.eq_2, rfModB_L3_S]
    generalize rfModB_L3 b j3 = X1 at *
    refine S_ ?_
    refine c_region ?_
    refine s_val (v_moveC rfl) rfl ?_
    refine s_val (v_moveC rfl) rfl ?_
    refine s_val (v_lenS rfl Try.underlying47) rfl ?_
    refine s_val (v_lssN rfl rfl) rfl ?_
    refine s_nil ?_
    refine S_ ?_
    refine c_draw 16 mixed (by kernel_rfl) rfl rfl rfl ?_
    refine h_val (v_moveC rfl) rfl ?_
    refine h_val (v_quoN (b := 8) rfl rfl (by omega) (by omega)) rfl ?_
    refine h_val (v_idxA1 rfl rfl Try.underlying85 sz_29 (by omega)) rfl ?_
    refine h_val (v_load64 rfl rfl row_29 LT_) rfl ?_
    refine h_val (v_moveC rfl) rfl ?_
    refine h_val (v_moveC rfl) rfl ?_
    refine h_val (v_idxS1 rfl rfl Try.underlying47 sz_5 (by omega)) rfl ?_
    refine h_val (v_load8 rfl rfl row_5 LT_) rfl ?_
    refine h_val (v_conv rfl Try.underlying5 Try.underlying29 (w8_64 _)) rfl ?_
    refine h_val (v_moveC rfl) rfl ?_
    refine h_val (v_remN (b := 8) rfl rfl (by omega) (by omega)) rfl ?_
    refine h_val (v_mulN (a := 8) rfl rfl (by omega)) rfl ?_
    refine h_val (v_conv rfl Try.underlying3 Try.underlying51 (wi_64 _)) rfl ?_
    refine h_val (v_shl64w rfl rfl) rfl ?_
    refine h_val (v_or64 rfl rfl) rfl ?_
    refine h_val (v_idxA1 rfl rfl Try.underlying85 sz_29 (by omega)) rfl ?_
    refine h_nil ?_
    refine s_store64 rfl rfl rfl sz_29 LT_ SET_ ?_
    refine s_nil ?_
    refine S_ ?_
    refine c_region ?_
    refine s_val (v_moveC rfl) rfl ?_
    refine s_val (v_addN (b := 1) rfl rfl (by omega)) rfl ?_
    refine s_val (v_assignC rfl) rfl ?_
    refine s_nil ?_
    exact ⟨(j3 + 1, _), by kernel_rfl, rfl⟩
  · try dsimp only
    have hY2 : (rfModB_L3 b b.length).length = 8 := by rw [rfModB_L3_len b _]; try omega
    generalize rfModB_L3 b b.length = Y2 at *
    refine S_ ?_
    refine c_region ?_
    refine s_val (v_moveC rfl) rfl ?_
    refine s_val (v_moveC rfl) rfl ?_
    refine s_val (v_lenS rfl Try.underlying47) rfl ?_
    refine s_val (v_lssN rfl rfl) rfl ?_
    refine s_nil ?_
    have hQ3 : (rfModL Y2).length = 4 := LQ_
    have hQ4 : (rB (rfModL Y2)).length = 32 := LQ_
    refine S_ ?_
    refine c_region ?_
    refine s_val (v_loadR rfl rfl row_85 sz_85 EQ_ (by decide)) rfl ?_
    refine s_evN (e_callR (bs := []) (rfModL_ev Y2 HYP_) ok_69 (by kernel_rfl) (by kernel_rfl) rfl VAL_) APP_ rfl ?_
    refine s_evN (e_callR (bs := []) (rB_ev (rfModL Y2) HYP_) ok_25 (by kernel_rfl) (by kernel_rfl) rfl VAL_) APP_ rfl ?_
    refine s_storeR rfl rfl rfl rfl sz_22 EQ_ EQ_ SET_ ?_
    refine s_nil ?_
    refine S_ ?_
    rw [hP.out]
    exact k_1 (r_row rfl rfl row_22 sz_22 EQ_ (by decide)) (by first | kernel_rfl | rfl)

@[simp] theorem rfModB_len (b : List (BitVec 8)) : (rfModB b).length = 32 := by
  unfold rfModB
  first | (simp [rfModB_L3_len, *]; done) | (simp [rfModB_L3_len, *]; omega)

attribute [irreducible] rfModB
end Go.Proofs.Ytcekjmejppemeaa
/- trystref06.MulAdd, trystref06.Below (Drawn up by a program.) -/
namespace Go.Proofs.Ytcekjmejppemeaa
open Go.RowKit
def rfMA_L5_S (c : List (BitVec 8)) (X5 : BitVec 64) (X6 : List (BitVec 64)) (j5 : Nat) : BitVec 64 × List (BitVec 64) := (addC (nth X6 j5) (if j5 < 4 then nth (rfOf c) j5 else 0#64) X5, put X6 j5 ((nth X6 j5) + (if j5 < 4 then nth (rfOf c) j5 else 0#64) + X5))
def rfMA_L5 (a : List (BitVec 8)) (b : List (BitVec 8)) (c : List (BitVec 8)) : Nat → BitVec 64 × List (BitVec 64)
  | 0 => (0#64, rfTimes (rfOf a) (rfOf b))
  | j5 + 1 => rfMA_L5_S c (rfMA_L5 a b c j5).1 (rfMA_L5 a b c j5).2 j5
theorem rfMA_L5_len1 (a : List (BitVec 8)) (b : List (BitVec 8)) (c : List (BitVec 8)) (ha : a.length = 32) (hb : b.length = 32) (hc : c.length = 32) (j5 : Nat) : (rfMA_L5 a b c j5).2.length = 8 := by
  induction j5 with
  | zero => first | (simp (maxDischargeDepth := 9) [rfMA_L5, *]; done) | (simp (maxDischargeDepth := 9) [rfMA_L5, *]; omega)
  | succ j5 ih => rw [rfMA_L5.eq_2, rfMA_L5_S]; first | (simp (maxDischargeDepth := 9) [ih]; done) | (simp (maxDischargeDepth := 9) [ih]; omega) | (simp (maxDischargeDepth := 9) [*]; done) | (simp (maxDischargeDepth := 9) [*]; omega) | (split <;> first | (simp (maxDischargeDepth := 9) [ih]; done) | (simp (maxDischargeDepth := 9) [ih]; omega) | (simp (maxDischargeDepth := 9) [*]; done))
def rfMA (a : List (BitVec 8)) (b : List (BitVec 8)) (c : List (BitVec 8)) : List (BitVec 8) := rB (rfModL ((rfMA_L5 a b c 8).2))
theorem rfMA_c (a b c : List (BitVec 8)) (j : Nat) : (rfMA_L5 a b c j).1.toNat ≤ 1 := by
  induction j with
  | zero => show (0#64).toNat ≤ 1; decide
  | succ j ih => rw [rfMA_L5.eq_2, rfMA_L5_S]; exact addC_le _ _ _ ih
set_option maxRecDepth 100000 in
set_option maxHeartbeats 2000000 in
theorem rfMA_ev (a : List (BitVec 8)) (b : List (BitVec 8)) (c : List (BitVec 8)) (ha : a.length = 32) (hb : b.length = 32) (hc : c.length = 32) : Ev Try.prog (.call 34 [.agg (.a8 (a)), .agg (.a8 (b)), .agg (.a8 (c))] []) (.val (.agg (.a8 (rfMA a b c))) []) := by
  have hP : Hid (rfMA a b c = rB (rfModL ((rfMA_L5 a b c 8).2))) := ⟨rfl⟩
  refine c_call Try.func34 rfl Try.ntmps34 rfl LEN_ ?_
  refine S_ ?_
  refine c_region ?_
  refine s_memN (m_box BX_ LEN_) APP_ rfl ?_
  refine s_memN (m_box BX_ LEN_) APP_ rfl ?_
  refine s_memN (m_box BX_ LEN_) APP_ rfl ?_
  refine s_memN (m_alloc al_22 LEN_) APP_ rfl ?_
  refine s_nil ?_
  have hQ1 : (rfOf a).length = 4 := LQ_
  have hQ2 : (rfOf b).length = 4 := LQ_
  have hQ3 : (rfTimes (rfOf a) (rfOf b)).length = 8 := LQ_
  refine S_ ?_
  refine c_draw 6 mixed (by kernel_rfl) rfl rfl rfl ?_
  refine h_val (v_loadR rfl rfl row_22 sz_22 EQ_ (by decide)) rfl ?_
  refine h_evN (e_callR (bs := []) (rfOf_ev a HYP_) ok_50 (by kernel_rfl) (by kernel_rfl) rfl VAL_) APP_ rfl ?_
  refine h_val (v_loadR rfl rfl row_22 sz_22 EQ_ (by decide)) rfl ?_
  refine h_evN (e_callR (bs := []) (rfOf_ev b HYP_) ok_50 (by kernel_rfl) (by kernel_rfl) rfl VAL_) APP_ rfl ?_
  refine h_evN (e_callR (bs := []) (rfTimes_ev (rfOf a) (rfOf b) HYP_ HYP_) ok_70 (by kernel_rfl) (by kernel_rfl) rfl VAL_) APP_ rfl ?_
  refine h_memN (m_alloc al_85 LEN_) APP_ rfl ?_
  refine h_nil ?_
  refine s_storeR rfl rfl rfl rfl sz_85 EQ_ EQ_ SET_ ?_
  refine s_nil ?_
  have hQ4 : (rfOf c).length = 4 := LQ_
  refine S_ ?_
  refine c_region ?_
  refine s_val (v_loadR rfl rfl row_22 sz_22 EQ_ (by decide)) rfl ?_
  refine s_evN (e_callR (bs := []) (rfOf_ev c HYP_) ok_50 (by kernel_rfl) (by kernel_rfl) rfl VAL_) APP_ rfl ?_
  refine s_memN (m_alloc al_38 LEN_) APP_ rfl ?_
  refine s_storeR rfl rfl rfl rfl sz_38 EQ_ EQ_ SET_ ?_
  refine s_nil ?_
  refine S_ ?_
  refine c_region ?_
  refine s_val (v_assignC rfl) rfl ?_
  refine s_nil ?_
  refine S_ ?_
  refine c_region ?_
  refine s_val (v_assignC rfl) rfl ?_
  refine s_nil ?_
  refine S_ ?_
  refine c_loopC [6, 7, 8, 9, 10] (fun (zz : Nat × BitVec 64 × List (BitVec 64)) => ⟨42, keepT [6, 7, 8, 9, 10] [.c (.ptr 0 0), .c (.ptr 1 0), .c (.ptr 2 0), .c (.val (U64 (zz.2.1))), .c (.val (.int .i64 (((zz.1 : Nat) : Int))))], [.row true (.a8 (zer8 32)), .row true (.a64 (zz.2.2)), .row true (.a64 (rfOf c))]⟩) (fun j5 => (j5, rfMA_L5 a b c j5)) (8) (by kernel_rfl) ?_ ?_
  · intro j5 hj5
    try dsimp only
    have hX6 : (rfMA_L5 a b c j5).2.length = 8 := by rw [rfMA_L5_len1 a b c ha hb hc _]; try omega
    have hcc := rfMA_c a b c j5
    rw [rfMA_L5.eq_2, rfMA_L5_S]
    generalize rfMA_L5 a b c j5 = Z7 at *
    obtain ⟨X5, X6⟩ := Z7
    try dsimp only at *
    refine S_ ?_
    refine c_region ?_
    refine s_val (v_moveC rfl) rfl ?_
    refine s_val (v_lssN (b := 8) rfl rfl) rfl ?_
    refine s_nil ?_
    refine S_ ?_
    refine c_region ?_
    refine s_val (v_assignC rfl) rfl ?_
    refine s_nil ?_
    refine S_ ?_
    refine c_region ?_
    refine s_val (v_moveC rfl) rfl ?_
    refine s_val (v_lssN (b := 4) rfl rfl) rfl ?_
    refine s_nil ?_
    refine Q_ ?_
    refine c_join [6, 7, 8, 9, 10, 11] (fun (zz : BitVec 64) => ⟨42, keepT [6, 7, 8, 9, 10, 11] [.c (.ptr 0 0), .c (.ptr 1 0), .c (.ptr 2 0), .c (.val (U64 (X5))), .c (.val (.int .i64 (((j5 : Nat) : Int)))), .c (.val (U64 (zz)))], [.row true (.a8 (zer8 32)), .row true (.a64 (X6)), .row true (.a64 (rfOf c))]⟩) (if j5 < 4 then nth (rfOf c) j5 else 0#64) rfl (fun hb => ?_) (fun hb => ?_) ?_
    · -- the test is True
      have hb_ := of_decide_eq_true hb
      refine S_ ?_
      refine c_region ?_
      refine s_val (v_moveC rfl) rfl ?_
      refine s_val (v_idxA1 rfl rfl Try.underlying38 sz_29 (by omega)) rfl ?_
      refine s_val (v_load64 rfl rfl row_29 LT_) rfl ?_
      refine s_val (v_assignC rfl) rfl ?_
      refine s_nil ?_
      refine S_ ?_
      refine ⟨(nth (rfOf c) j5), by kernel_rfl, ?_⟩
      rw [if_pos (of_decide_eq_true hb)]
    · -- the test is False
      have hb_ := of_decide_eq_false hb
      refine S_ ?_
      refine ⟨0#64, by kernel_rfl, ?_⟩
      rw [if_neg (of_decide_eq_false hb)]
    generalize (if j5 < 4 then nth (rfOf c) j5 else 0#64) = J8 at *
    refine S_ ?_
    refine c_region ?_
    refine s_val (v_moveC rfl) rfl ?_
    refine s_val (v_moveC rfl) rfl ?_
    refine s_val (v_idxA1 rfl rfl Try.underlying85 sz_29 (by omega)) rfl ?_
    refine s_val (v_load64 rfl rfl row_29 LT_) rfl ?_
    refine s_val (v_moveC rfl) rfl ?_
    refine s_val (v_moveC rfl) rfl ?_
    refine s_evN (e_add ext_71 rfl rfl rfl (rfl : _ = U64 (X5)) (by repeat (first | decide | assumption | apply addC_le | apply subC_le))) APP_ rfl ?_
    refine s_val (v_moveT rfl) rfl ?_
    refine s_val (v_extract rfl rfl) rfl ?_
    refine s_val (v_extract rfl rfl) rfl ?_
    refine s_val (v_idxA1 rfl rfl Try.underlying85 sz_29 (by omega)) rfl ?_
    refine s_store64 rfl rfl rfl sz_29 LT_ SET_ ?_
    refine s_val (v_assignC rfl) rfl ?_
    refine s_nil ?_
    refine S_ ?_
    refine c_region ?_
    refine s_val (v_moveC rfl) rfl ?_
    refine s_val (v_addN (b := 1) rfl rfl (by omega)) rfl ?_
    refine s_val (v_assignC rfl) rfl ?_
    refine s_nil ?_
    exact ⟨(j5 + 1, _), by kernel_rfl, rfl⟩
  · try dsimp only
    have hY10 : (rfMA_L5 a b c 8).2.length = 8 := by rw [rfMA_L5_len1 a b c ha hb hc _]; try omega
    have hcc := rfMA_c a b c 8
    generalize rfMA_L5 a b c 8 = Z11 at *
    obtain ⟨Y9, Y10⟩ := Z11
    try dsimp only at *
    refine S_ ?_
    refine c_region ?_
    refine s_val (v_moveC rfl) rfl ?_
    refine s_val (v_lssN (a := 8) (b := 8) rfl rfl) rfl ?_
    refine s_nil ?_
    have hQ12 : (rfModL Y10).length = 4 := LQ_
    have hQ13 : (rB (rfModL Y10)).length = 32 := LQ_
    refine S_ ?_
    refine c_region ?_
    refine s_val (v_loadR rfl rfl row_85 sz_85 EQ_ (by decide)) rfl ?_
    refine s_evN (e_callR (bs := []) (rfModL_ev Y10 HYP_) ok_69 (by kernel_rfl) (by kernel_rfl) rfl VAL_) APP_ rfl ?_
    refine s_evN (e_callR (bs := []) (rB_ev (rfModL Y10) HYP_) ok_25 (by kernel_rfl) (by kernel_rfl) rfl VAL_) APP_ rfl ?_
    refine s_storeR rfl rfl rfl rfl sz_22 EQ_ EQ_ SET_ ?_
    refine s_nil ?_
    refine S_ ?_
    rw [hP.out]
    exact k_1 (r_row rfl rfl row_22 sz_22 EQ_ (by decide)) (by first | kernel_rfl | rfl)

@[simp] theorem rfMA_len (a : List (BitVec 8)) (b : List (BitVec 8)) (c : List (BitVec 8)) (ha : a.length = 32) (hb : b.length = 32) (hc : c.length = 32) : (rfMA a b c).length = 32 := by
  unfold rfMA
  first | (simp (maxDischargeDepth := 9) [rfMA_L5_len1, *]; done) | (simp (maxDischargeDepth := 9) [rfMA_L5_len1, *]; omega) | (split <;> (simp (maxDischargeDepth := 9) [rfMA_L5_len1, *]; done))

attribute [irreducible] rfMA


set_option maxRecDepth 100000 in
set_option maxHeartbeats 2000000 in
theorem rfBelow_ev (n : List (BitVec 8)) (hn : n.length = 32) : Ev Try.prog (.call 35 [.agg (.a8 (n))] []) (.val (.c (.val (.bool ((rfsub1 (rfOf n) rfL) == 1#64)))) []) := by
  refine c_call Try.func35 rfl Try.ntmps35 rfl LEN_ ?_
  refine S_ ?_
  refine c_region ?_
  refine s_memN (m_box BX_ LEN_) APP_ rfl ?_
  refine s_val (v_assignC rfl) rfl ?_
  refine s_nil ?_
  have hQ1 : (rfOf n).length = 4 := LQ_
  have hQ2 : (rfL).length = 4 := LQ_
  refine S_ ?_
  refine c_region ?_
  refine s_val (v_loadR rfl rfl row_22 sz_22 EQ_ (by decide)) rfl ?_
  refine s_evN (e_callR (bs := []) (rfOf_ev n HYP_) ok_50 (by kernel_rfl) (by kernel_rfl) rfl VAL_) APP_ rfl ?_
  refine s_evN (e_callR (bs := []) (rfL_ev) ok_24 (by kernel_rfl) (by kernel_rfl) rfl VAL_) APP_ rfl ?_
  refine s_evN (e_callR (bs := []) (rfless_ev (rfOf n) rfL HYP_ HYP_) ok_51 (by kernel_rfl) (by kernel_rfl) rfl VAL_) APP_ rfl ?_
  refine s_val (v_assignC rfl) rfl ?_
  refine s_nil ?_
  refine S_ ?_
  exact k_1 (by first | exact r_tmpC rfl | exact r_tmpA rfl) (by first | kernel_rfl | rfl)
end Go.Proofs.Ytcekjmejppemeaa
/- The reference's numbers modulo L, told by numbers. -/
namespace Go.Proofs.Ytcekjmejppemeaa
open Go.RowKit
theorem or_even (x b : BitVec 64) (hx : x.toNat % 2 = 0) (hb : b.toNat < 2) : (x ||| b).toNat = x.toNat + b.toNat := by
  have e : (x >>> 1) <<< 1 = x := by
    apply BitVec.eq_of_toNat_eq
    rw [BitVec.toNat_shiftLeft, BitVec.toNat_ushiftRight, Nat.shiftLeft_eq, Nat.shiftRight_eq_div_pow]
    have := x.isLt
    omega
  have h := or_low (x := b) (y := x >>> 1) 1 (by omega)
  rw [e, BitVec.or_comm] at h
  rw [h, BitVec.toNat_ushiftRight, Nat.shiftRight_eq_div_pow]
  have := x.isLt
  omega
theorem wbit_at (t : List (BitVec 64)) (n i : Nat) (hi : i < 64 * n) : (((nth t (i / 64)) >>> (BitVec.ofNat 64 (i % 64)).toNat) &&& 1#64).toNat = v64 t n / 2 ^ i % 2 := by
  have hm : (BitVec.ofNat 64 (i % 64)).toNat = i % 64 := by rw [BitVec.toNat_ofNat]; omega
  have e1 : (((nth t (i / 64)) >>> (i % 64)) &&& 1#64).toNat = ((nth t (i / 64)) >>> (i % 64)).toNat % 2 := by
    rw [BitVec.toNat_and]
    exact Nat.and_two_pow_sub_one_eq_mod _ 1
  rw [hm, e1, BitVec.toNat_ushiftRight, Nat.shiftRight_eq_div_pow, ← v64_digit t n (i / 64) (by omega)]
  have h2 : (2 : Nat) ^ i = 18446744073709551616 ^ (i / 64) * 2 ^ (i % 64) := by
    rw [show (18446744073709551616 : Nat) = 2 ^ 64 from rfl, ← Nat.pow_mul, ← Nat.pow_add, Nat.div_add_mod]
  rw [h2, ← Nat.div_div_eq_div_mul]
  generalize v64 t n / 18446744073709551616 ^ (i / 64) = x
  have h3 : i % 64 < 64 := Nat.mod_lt _ (by decide)
  generalize i % 64 = k at h3
  have h4 : (18446744073709551616 : Nat) = 2 ^ k * (2 * 2 ^ (63 - k)) := by
    rw [← Nat.mul_assoc, Nat.mul_comm (2 ^ k) 2, Nat.mul_assoc, ← Nat.pow_add, show k + (63 - k) = 63 by omega]
  rw [h4, Nat.mod_mul_right_div_self, Nat.mod_mul_right_mod]
theorem dblL {X : List (BitVec 64)} (hX : X.length = 4) (hl : wV X < L25519) (b : BitVec 64) (hb : b.toNat < 2) : (put (rfadd0 X X) 0 ((nth (rfadd0 X X) 0) ||| b)).length = 4 ∧ wV (put (rfadd0 X X) 0 ((nth (rfadd0 X X) 0) ||| b)) = 2 * wV X + b.toNat := by
  obtain ⟨e, hc⟩ := rfadd_val hX hX
  have l := rfadd_lenA X X
  have l1 := wV_lt (rfadd0 X X)
  change _ < 7237005577332262213973186563042994240857116359379907606001950938285454250989 at hl
  have hv : wV (rfadd0 X X) = 2 * wV X := by omega
  generalize rfadd0 X X = Y at *
  obtain ⟨a0, a1, a2, a3, rfl⟩ := four l
  change a0.toNat + a1.toNat * 18446744073709551616 + a2.toNat * 340282366920938463463374607431768211456 + a3.toNat * 6277101735386680763835789423207666416102355444464034512896 = 2 * wV X at hv
  refine ⟨rfl, ?_⟩
  show (a0 ||| b).toNat + a1.toNat * 18446744073709551616 + a2.toNat * 340282366920938463463374607431768211456 + a3.toNat * 6277101735386680763835789423207666416102355444464034512896 = 2 * wV X + b.toNat
  rw [or_even a0 b (by omega) hb]
  omega
theorem rfL_len4 : rfL.length = 4 := by simp
theorem lessL {Y : List (BitVec 64)} (hY : Y.length = 4) : (rfsub1 Y rfL == 1#64) = decide (wV Y < L25519) := by
  obtain ⟨e, hc⟩ := rfsub_val hY rfL_len4
  have l1 := wV_lt (rfsub0 Y rfL)
  rw [rfL_val] at e
  by_cases h : wV Y < L25519
  · rw [decide_eq_true h, beq_iff_eq]
    apply BitVec.eq_of_toNat_eq
    show _ = 1
    omega
  · rw [decide_eq_false h, beq_eq_false_iff_ne]
    intro h2
    have : (rfsub1 Y rfL).toNat = 1 := by rw [h2]; rfl
    omega
theorem subL {Y : List (BitVec 64)} (hY : Y.length = 4) (h : ¬ wV Y < L25519) (h2 : wV Y < 2 * L25519) : (rfsub0 Y rfL).length = 4 ∧ wV (rfsub0 Y rfL) = wV Y % L25519 := by
  obtain ⟨e, hc⟩ := rfsub_val hY rfL_len4
  have l1 := wV_lt (rfsub0 Y rfL)
  refine ⟨rfsub_lenB Y rfL hY, ?_⟩
  rw [rfL_val] at e
  have hm : wV Y % L25519 = wV Y - L25519 := by
    rw [Nat.mod_eq_sub_mod (by omega), Nat.mod_eq_of_lt (by omega)]
  rw [hm]
  have hc0 : (rfsub1 Y rfL).toNat = 0 := by omega
  rw [hc0] at e
  omega
theorem div_big (v k n : Nat) (hk : k = 64 * n) (h : v < 18446744073709551616 ^ n) : v / 2 ^ k = 0 := by
  subst hk
  rw [Nat.pow_mul]
  exact Nat.div_eq_of_lt h
theorem modL_run (t : List (BitVec 64)) : ∀ j, j ≤ 512 → (rfModL_L3 t j).length = 4 ∧ wV (rfModL_L3 t j) = v64 t 8 / 2 ^ (512 - j) % L25519 := by
  intro j
  induction j with
  | zero =>
    intro _
    rw [rfModL_L3]
    refine ⟨rfl, ?_⟩
    have h := v64_lt t 8
    rw [Nat.sub_zero, div_big (v64 t 8) 512 8 rfl h]
    decide +kernel
  | succ j ih =>
    intro hj
    obtain ⟨h1, h2⟩ := ih (by omega)
    have hl : wV (rfModL_L3 t j) < L25519 := by rw [h2]; exact Nat.mod_lt _ L_pos
    have hbit := wbit_at t 8 (511 - j) (by omega)
    rw [rfModL_L3, rfModL_L3_S]
    generalize hB : (((nth t ((511 - j) / 64)) >>> (BitVec.ofNat 64 ((511 - j) % 64)).toNat) &&& 1#64) = B at *
    have hB2 : B.toNat < 2 := by rw [hbit]; exact Nat.mod_lt _ (by decide)
    obtain ⟨d1, d2⟩ := dblL h1 hl B hB2
    have hs : v64 t 8 / 2 ^ (512 - (j + 1)) % L25519 = (2 * wV (rfModL_L3 t j) + B.toNat) % L25519 := by
      rw [h2, hbit, step_mod]
      congr 1
      rw [show 512 - j = (511 - j) + 1 by omega, show 512 - (j + 1) = 511 - j by omega, Nat.pow_succ, ← Nat.div_div_eq_div_mul]
      omega
    rw [hs, ← d2]
    have hlt : wV (put (rfadd0 (rfModL_L3 t j) (rfModL_L3 t j)) 0 ((nth (rfadd0 (rfModL_L3 t j) (rfModL_L3 t j)) 0) ||| B)) < 2 * L25519 := by rw [d2]; omega
    generalize put (rfadd0 (rfModL_L3 t j) (rfModL_L3 t j)) 0 ((nth (rfadd0 (rfModL_L3 t j) (rfModL_L3 t j)) 0) ||| B) = Y at *
    rw [lessL d1]
    by_cases h : wV Y < L25519
    · rw [decide_eq_true h, if_neg (by decide), Nat.mod_eq_of_lt h]
      exact ⟨d1, rfl⟩
    · rw [decide_eq_false h, if_pos (by decide)]
      exact subL d1 h hlt
theorem modL_val (t : List (BitVec 64)) : wV (rfModL t) = v64 t 8 % L25519 := by
  obtain ⟨_, h⟩ := modL_run t 512 (Nat.le_refl _)
  unfold rfModL
  rw [h, Nat.sub_self, Nat.pow_zero, Nat.div_one]
theorem modB_run (b : List (BitVec 8)) : ∀ j, j ≤ 64 → (rfModB_L3 b j).length = 8 ∧ v64 (rfModB_L3 b j) 8 = leS b j := by
  intro j
  induction j with
  | zero => intro _; exact ⟨rfl, by rw [rfModB_L3, leS]; decide⟩
  | succ j ih =>
    intro hj
    obtain ⟨h1, h2⟩ := ih (by omega)
    rw [rfModB_L3, rfModB_L3_S, BitVec.toNat_ofNat, Nat.mod_eq_of_lt (show 8 * (j % 8) < 2 ^ 64 by omega)]
    have hd := v64_digit (rfModB_L3 b j) 8 (j / 8) (by omega)
    have hlt := leS_lt b j
    have hw : (nth (rfModB_L3 b j) (j / 8)).toNat < 256 ^ (j % 8) := by
      rw [← hd, h2]
      refine Nat.lt_of_le_of_lt (Nat.mod_le _ _) ?_
      rw [Nat.div_lt_iff_lt_mul (Nat.pow_pos (by decide))]
      rw [show (18446744073709551616 : Nat) = 256 ^ 8 from rfl, ← Nat.pow_mul, ← Nat.pow_add, Nat.add_comm, Nat.div_add_mod]
      exact hlt
    have hb := or_byte (nth (rfModB_L3 b j) (j / 8)) (nth b j) (j % 8) (Nat.mod_lt _ (by decide)) hw
    have hp := v64_put (rfModB_L3 b j) (j / 8) ((nth (rfModB_L3 b j) (j / 8)) ||| (((nth b j).setWidth 64) <<< (8 * (j % 8)))) (by omega) 8
    rw [if_pos (by omega), if_pos (by omega), hb, h2, Nat.add_mul] at hp
    refine ⟨by rw [put_length, h1], ?_⟩
    rw [leS]
    have e : (256 : Nat) ^ j = 256 ^ (j % 8) * 18446744073709551616 ^ (j / 8) := by
      rw [show (18446744073709551616 : Nat) = 256 ^ 8 from rfl, ← Nat.pow_mul, ← Nat.pow_add, Nat.add_comm, Nat.div_add_mod]
    rw [e, ← Nat.mul_assoc]
    omega
theorem rfModB_same {b : List (BitVec 8)} (hb : b.length ≤ 64) : rfModB b = sMod b := by
  unfold rfModB sMod rB
  rw [modL_val, (modB_run b b.length hb).2]
theorem addm (m : Nat) {c Y : List (BitVec 64)} (hY : Y.length = m) : ∀ j, j ≤ m → (scProd_L19 c Y j).2.length = m ∧ v64 (scProd_L19 c Y j).2 m + (scProd_L19 c Y j).1.toNat * 18446744073709551616 ^ j = v64 Y m + cSum c j := by
  intro j
  induction j with
  | zero => intro _; exact ⟨hY, by show v64 Y m + 0 * _ = v64 Y m + 0; rw [Nat.zero_mul]⟩
  | succ j ih =>
    intro hj
    obtain ⟨h1, h2⟩ := ih (by omega)
    have hc := scProd_c c Y j
    rw [scProd_L19, scProd_L19_S]
    generalize scProd_L19 c Y j = X at *
    obtain ⟨k, t⟩ := X
    dsimp only at h1 h2 hc ⊢
    rw [show (if j < 4 then nth c j else 0#64) = cAt c j from rfl]
    have hv : (nth t j + cAt c j + k).toNat + (addC (nth t j) (cAt c j) k).toNat * 18446744073709551616 = (nth t j).toNat + (cAt c j).toNat + k.toNat := by
      rw [addC_nat3 hc, add3]
      omega
    generalize nth t j + cAt c j + k = v at *
    generalize addC (nth t j) (cAt c j) k = k' at *
    have hp := v64_put t j v (by omega) m
    rw [if_pos (by omega), if_pos (by omega)] at hp
    refine ⟨by rw [put_length, h1], ?_⟩
    rw [cSum, Nat.pow_succ]
    generalize 18446744073709551616 ^ j = Q at *
    generalize 18446744073709551616 = M at *
    generalize v64 (put t j v) m = V at *
    generalize v64 t m = W at *
    generalize v64 Y m = S at *
    clear h1
    have e1 : k'.toNat * (Q * M) = (k'.toNat * M) * Q := by rw [Nat.mul_comm Q M, Nat.mul_assoc]
    have e2 : (k'.toNat * M) * Q + v.toNat * Q = (nth t j).toNat * Q + (cAt c j).toNat * Q + k.toNat * Q := by rw [← Nat.add_mul, ← Nat.add_mul, ← Nat.add_mul, ← hv, Nat.add_comm]
    rw [e1]
    omega
theorem rfMA_run (a b c : List (BitVec 8)) (j : Nat) : rfMA_L5 a b c j = scProd_L19 (rfOf c) (rfTimes (rfOf a) (rfOf b)) j := by
  induction j with
  | zero => rfl
  | succ j ih => rw [rfMA_L5, rfMA_L5_S, scProd_L19, scProd_L19_S, ih]
theorem cSum8 (c : List (BitVec 64)) : cSum c 8 = wV c := by
  simp only [cSum, cAt, wV, Nat.pow_zero, Nat.reducePow, show (0#64 : BitVec 64).toNat = 0 from rfl, Nat.reduceLT, if_true, if_false]
  omega
theorem rfTimes_len8 (a b : List (BitVec 64)) : (rfTimes a b).length = 8 := by
  obtain ⟨h, _⟩ := times_outer (a := a) (b := b) 4 (Nat.le_refl _)
  unfold rfTimes
  exact h
theorem rfMA_same (a b c : List (BitVec 8)) : rfMA a b c = sMA a b c := by
  obtain ⟨g1, g2⟩ := addm 8 (c := rfOf c) (rfTimes_len8 (rfOf a) (rfOf b)) 8 (Nat.le_refl _)
  rw [cSum8, rfTimes_val] at g2
  have la := wV_lt (rfOf a)
  have lb := wV_lt (rfOf b)
  have lc := wV_lt (rfOf c)
  have hab : wV (rfOf a) * wV (rfOf b) ≤ 115792089237316195423570985008687907853269984665640564039457584007913129639935 * 115792089237316195423570985008687907853269984665640564039457584007913129639935 := Nat.mul_le_mul (by omega) (by omega)
  unfold rfMA sMA rB
  rw [modL_val, rfMA_run, ← ZW_of (b := a), ← ZW_of (b := b), ← ZW_of (b := c)]
  have e : v64 (scProd_L19 (rfOf c) (rfTimes (rfOf a) (rfOf b)) 8).2 8 = wV (rfOf a) * wV (rfOf b) + wV (rfOf c) := by
    generalize v64 (scProd_L19 (rfOf c) (rfTimes (rfOf a) (rfOf b)) 8).2 8 = V at *
    generalize (scProd_L19 (rfOf c) (rfTimes (rfOf a) (rfOf b)) 8).1.toNat = k at *
    generalize wV (rfOf a) * wV (rfOf b) = q at *
    simp only [Nat.reducePow, Nat.reduceMul] at *
    omega
  rw [e]
theorem rfBelow_same {n : List (BitVec 8)} (hn : n.length = 32) : ((rfsub1 (rfOf n) rfL) == 1#64) = sBelow n := by
  unfold sBelow
  rw [lessL (rfOf_len n hn), ZW_of]
theorem rMA_ev (a b c : List (BitVec 8)) (ha : a.length = 32) (hb : b.length = 32) (hc : c.length = 32) : Ev Try.prog (.call 34 [.agg (.a8 a), .agg (.a8 b), .agg (.a8 c)] []) (.val (.agg (.a8 (sMA a b c))) []) := by
  rw [← rfMA_same]; exact rfMA_ev a b c ha hb hc
theorem rBelow_ev (n : List (BitVec 8)) (hn : n.length = 32) : Ev Try.prog (.call 35 [.agg (.a8 n)] []) (.val (.c (.val (.bool (sBelow n)))) []) := by
  rw [← rfBelow_same hn]; exact rfBelow_ev n hn
theorem rMod_ev (b : List (BitVec 8)) (n cap : Nat) (hb : b.length = n) (hn : n ≤ 64) : Ev Try.prog (.call 33 [.c (.sl 0 0 n cap 1)] [.row false (.a8 b)]) (.val (.agg (.a8 (sMod b))) [.row false (.a8 b)]) := by
  rw [← rfModB_same (hb ▸ hn)]; exact rfModB_ev b n cap hb (by omega) hn
end Go.Proofs.Ytcekjmejppemeaa
/- trystlaw08.small (Drawn up by a program.) -/
namespace Go.Proofs.Ytcekjmejppemeaa
open Go.RowKit

set_option maxRecDepth 100000 in
set_option maxHeartbeats 2000000 in
theorem smallB_ev (n : BitVec 64)  : Ev Try.prog (.call 15 [.c (.val (U64 n))] []) (.val (.agg (.a8 (rB (put (zer64 4) 0 n)))) []) := by
  refine c_call Try.func15 rfl Try.ntmps15 rfl LEN_ ?_
  refine S_ ?_
  refine c_region ?_
  refine s_memN (m_alloc al_22 LEN_) APP_ rfl ?_
  refine s_nil ?_
  have hQ1 : (rB (put (zer64 4) 0 n)).length = 32 := LQ_
  refine S_ ?_
  refine c_region ?_
  refine s_val (v_moveC rfl) rfl ?_
  refine s_val (v_blo64 za_38 Try.underlying38 sz_29 rfl rfl rfl) rfl ?_
  refine s_evN (e_callR (bs := []) (rB_ev (put (zer64 4) 0 n) HYP_) ok_25 (by kernel_rfl) (by kernel_rfl) rfl VAL_) APP_ rfl ?_
  refine s_storeR rfl rfl rfl rfl sz_22 EQ_ EQ_ SET_ ?_
  refine s_nil ?_
  refine S_ ?_
  exact k_1 (r_row rfl rfl row_22 sz_22 EQ_ (by decide)) (by first | kernel_rfl | rfl)
theorem fSmall_ev (n : BitVec 64) : Ev Try.prog (.call 15 [.c (.val (U64 n))] []) (.val (.agg (.a8 (fSmall n))) []) := by
  rw [← small_same]; exact smallB_ev n
end Go.Proofs.Ytcekjmejppemeaa
/- trystlaw08.wakes (Drawn up by a program.) -/
namespace Go.Proofs.Ytcekjmejppemeaa
open Go.RowKit

set_option maxRecDepth 100000 in
set_option maxHeartbeats 2000000 in
theorem wakes_ev   : Ev Try.prog (.call 16 [] []) (.val (.c (.val (.bool (true)))) []) := by
  refine c_call Try.func16 rfl Try.ntmps16 rfl LEN_ ?_
  refine S_ ?_
  refine c_region ?_
  refine s_val (v_assignC rfl) rfl ?_
  refine s_nil ?_
  have hQ1 : (fSmall 0#64).length = 32 := LQ_
  have hQ2 : (enc (oB (fSmall 0#64))).length = 32 := LQ_
  have hQ3 : (fSmall 1#64).length = 32 := LQ_
  have hQ4 : (enc (oB (fSmall 1#64))).length = 32 := LQ_
  refine S_ ?_
  refine c_region ?_
  refine s_evN (e_callR (bs := []) (fSmall_ev 0#64) ok_15 (by kernel_rfl) (by kernel_rfl) rfl VAL_) APP_ rfl ?_
  refine s_evN (e_callR (bs := []) (bsE_ev (fSmall 0#64) HYP_) ok_12 (by kernel_rfl) (by kernel_rfl) rfl VAL_) APP_ rfl ?_
  refine s_evN (e_callR (bs := []) (fSmall_ev 1#64) ok_15 (by kernel_rfl) (by kernel_rfl) rfl VAL_) APP_ rfl ?_
  refine s_evN (e_callR (bs := []) (bsE_ev (fSmall 1#64) HYP_) ok_12 (by kernel_rfl) (by kernel_rfl) rfl VAL_) APP_ rfl ?_
  refine s_memN (m_alloc al_22 LEN_) APP_ rfl ?_
  refine s_memN (m_alloc al_22 LEN_) APP_ rfl ?_
  refine s_storeR rfl rfl rfl rfl sz_22 EQ_ EQ_ SET_ ?_
  refine s_storeR rfl rfl rfl rfl sz_22 EQ_ EQ_ SET_ ?_
  refine s_nil ?_
  have hQ9 : (fSmall 1#64).length = 32 := LQ_
  have hE5 : (decide (enc (oB (fSmall 0#64)) = fSmall 1#64)) = true := decide_eq_true (by rw [oB_zero, enc_zero])
  have hE6 : (((nth (enc (oB (fSmall 1#64))) 0) == 88#8)) = true := by rw [oB_one, enc_b0.1]; rfl
  have hE7 : (((nth (enc (oB (fSmall 1#64))) 1) == 102#8)) = true := by rw [oB_one, enc_b0.2.1]; rfl
  have hE8 : (((nth (enc (oB (fSmall 1#64))) 31) == 102#8)) = true := by rw [oB_one, enc_b0.2.2]; rfl
  refine S_ ?_
  refine c_draw 19 mixed (by kernel_rfl) rfl rfl rfl ?_
  refine h_val (v_loadR rfl rfl row_22 sz_22 EQ_ (by decide)) rfl ?_
  refine h_evN (e_callR (bs := []) (fSmall_ev 1#64) ok_15 (by kernel_rfl) (by kernel_rfl) rfl VAL_) APP_ rfl ?_
  refine h_val (v_bool (v_eqlR8 rfl rfl Try.underlying22 Try.underlying5 sz_5 EQ_ EQ_) hE5) rfl ?_
  refine h_val (v_moveC rfl) rfl ?_
  refine h_go GO_ ?_
  refine h_val (v_idxA1 (j := 0) rfl rfl Try.underlying22 sz_5 (by omega)) rfl ?_
  refine h_go GO_ ?_
  refine h_val (v_load8 rfl rfl row_5 LT_) rfl ?_
  refine h_go GO_ ?_
  refine h_val (v_bool (v_eql8 (b := 88#8) rfl rfl) hE6) rfl ?_
  refine h_val (v_pickT rfl PK_ rfl) rfl ?_
  refine h_val (v_moveC rfl) rfl ?_
  refine h_go GO_ ?_
  refine h_val (v_idxA1 (j := 1) rfl rfl Try.underlying22 sz_5 (by omega)) rfl ?_
  refine h_go GO_ ?_
  refine h_val (v_load8 rfl rfl row_5 LT_) rfl ?_
  refine h_go GO_ ?_
  refine h_val (v_bool (v_eql8 (b := 102#8) rfl rfl) hE7) rfl ?_
  refine h_val (v_pickT rfl PK_ rfl) rfl ?_
  refine h_val (v_moveC rfl) rfl ?_
  refine h_go GO_ ?_
  refine h_val (v_idxA1 (j := 31) rfl rfl Try.underlying22 sz_5 (by omega)) rfl ?_
  refine h_go GO_ ?_
  refine h_val (v_load8 rfl rfl row_5 LT_) rfl ?_
  refine h_go GO_ ?_
  refine h_val (v_bool (v_eql8 (b := 102#8) rfl rfl) hE8) rfl ?_
  refine h_val (v_pickT rfl PK_ rfl) rfl ?_
  refine h_val (v_assignC rfl) rfl ?_
  refine h_nil ?_
  refine s_nil ?_
  refine S_ ?_
  exact k_1 (by first | exact r_tmpC rfl | exact r_tmpA rfl) (by first | kernel_rfl | rfl)
end Go.Proofs.Ytcekjmejppemeaa
/- trystlaw08.CurveNumbers (Drawn up by a program.) -/
namespace Go.Proofs.Ytcekjmejppemeaa
open Go.RowKit

set_option maxRecDepth 100000 in
set_option maxHeartbeats 2000000 in
theorem cvNbB_ev (b : List (BitVec 8)) (cap : Nat) (x : List (BitVec 8)) (y : List (BitVec 8)) (z : List (BitVec 8)) (hx : x.length = 32) (hy : y.length = 32) (hz : z.length = 32) (hb : 200 < b.length) : Ev Try.prog (.call 10 [.c (.sl 0 0 b.length cap 1), .agg (.a8 (x)), .agg (.a8 (y)), .agg (.a8 (z))] [.row false (.a8 (b))]) (.val (.c (.val (.bool (true)))) [.row false (.a8 (b))]) := by
  refine c_call Try.func10 rfl Try.ntmps10 rfl LEN_ ?_
  refine S_ ?_
  refine c_region ?_
  refine s_memN (m_box BX_ LEN_) APP_ rfl ?_
  refine s_memN (m_box BX_ LEN_) APP_ rfl ?_
  refine s_memN (m_box BX_ LEN_) APP_ rfl ?_
  refine s_val (v_assignC rfl) rfl ?_
  refine s_nil ?_
  refine S_ ?_
  refine c_region ?_
  refine s_val (v_moveC rfl) rfl ?_
  refine s_val (v_lenS rfl Try.underlying47) rfl ?_
  refine s_val (v_gtrN (b := 200) rfl rfl) rfl ?_
  refine s_nil ?_
  refine S_ ?_
  refine c_region ?_
  refine s_val (v_assignC rfl) rfl ?_
  refine s_nil ?_
  refine S_ ?_
  exact k_1 (by first | exact r_tmpC rfl | exact r_tmpA rfl) (by first | kernel_rfl | rfl)
end Go.Proofs.Ytcekjmejppemeaa
/- trystlaw08.CurveNumbers (Drawn up by a program.) -/
namespace Go.Proofs.Ytcekjmejppemeaa
open Go.RowKit

set_option maxRecDepth 100000 in
set_option maxHeartbeats 2000000 in
theorem cvNbM_ev (b : List (BitVec 8)) (cap : Nat) (x : List (BitVec 8)) (y : List (BitVec 8)) (z : List (BitVec 8)) (hx : x.length = 32) (hy : y.length = 32) (hz : z.length = 32) (hb : 64 < b.length ∧ b.length ≤ 200) : Ev Try.prog (.call 10 [.c (.sl 0 0 b.length cap 1), .agg (.a8 (x)), .agg (.a8 (y)), .agg (.a8 (z))] [.row false (.a8 (b))]) (.val (.c (.val (.bool (true)))) [.row false (.a8 (b))]) := by
  refine c_call Try.func10 rfl Try.ntmps10 rfl LEN_ ?_
  refine S_ ?_
  refine c_region ?_
  refine s_memN (m_box BX_ LEN_) APP_ rfl ?_
  refine s_memN (m_box BX_ LEN_) APP_ rfl ?_
  refine s_memN (m_box BX_ LEN_) APP_ rfl ?_
  refine s_val (v_assignC rfl) rfl ?_
  refine s_nil ?_
  refine S_ ?_
  refine c_region ?_
  refine s_val (v_moveC rfl) rfl ?_
  refine s_val (v_lenS rfl Try.underlying47) rfl ?_
  refine s_val (v_gtrN (b := 200) rfl rfl) rfl ?_
  refine s_nil ?_
  have hQ1 : (scModF0).length = 32 := LQ_
  refine S_ ?_
  refine c_region ?_
  refine s_val (v_moveC rfl) rfl ?_
  refine s_evN (e_callR (bs := [0]) (scModF_ev b b.length cap rfl (by omega) hb.1) ok_30 (by kernel_rfl) (by kernel_rfl) rfl VAL_) APP_ rfl ?_
  refine s_val (v_moveT rfl) rfl ?_
  refine s_val (v_extract rfl rfl) rfl ?_
  refine s_val (v_extract rfl rfl) rfl ?_
  refine s_memN (m_alloc al_22 LEN_) APP_ rfl ?_
  refine s_storeR rfl rfl rfl rfl sz_22 EQ_ EQ_ SET_ ?_
  refine s_val (v_assignC rfl) rfl ?_
  refine s_nil ?_
  refine S_ ?_
  refine c_region ?_
  refine s_val (v_moveC rfl) rfl ?_
  refine s_val (v_lenS rfl Try.underlying47) rfl ?_
  refine s_val (v_gtrN (b := 64) rfl rfl) rfl ?_
  refine s_nil ?_
  have hE2 : (!decide (scModF0 = zer8 32)) = false := by rw [decide_eq_true (by unfold scModF0; rfl)]; rfl
  refine S_ ?_
  refine c_region ?_
  refine s_val (v_moveC rfl) rfl ?_
  refine s_val (v_neqN (a := 2) (b := 2) rfl rfl) rfl ?_
  refine s_val (v_moveC rfl) rfl ?_
  refine s_go GO_ ?_
  refine s_val (v_loadR rfl rfl row_22 sz_22 EQ_ (by decide)) rfl ?_
  refine s_go GO_ ?_
  refine s_val (v_blf8 (l := (zer8 32)) za_22 Try.underlying22 sz_5 rfl rfl) rfl ?_
  refine s_go GO_ ?_
  refine s_val (v_bool (v_neqR8 rfl rfl Try.underlying22 Try.underlying5 sz_5 EQ_ EQ_) hE2) rfl ?_
  refine s_val (v_pickF rfl PK_ rfl) rfl ?_
  refine s_nil ?_
  have hQ3 : (sMA x y z).length = 32 := LQ_
  refine S_ ?_
  refine c_region ?_
  refine s_val (v_loadR rfl rfl row_22 sz_22 EQ_ (by decide)) rfl ?_
  refine s_val (v_loadR rfl rfl row_22 sz_22 EQ_ (by decide)) rfl ?_
  refine s_val (v_loadR rfl rfl row_22 sz_22 EQ_ (by decide)) rfl ?_
  refine s_evN (e_callR (bs := []) (sMA_ev x y z HYP_ HYP_ HYP_) ok_32 (by kernel_rfl) (by kernel_rfl) rfl VAL_) APP_ rfl ?_
  refine s_memN (m_alloc al_22 LEN_) APP_ rfl ?_
  refine s_storeR rfl rfl rfl rfl sz_22 EQ_ EQ_ SET_ ?_
  refine s_nil ?_
  have hQ6 : (sMA x y z).length = 32 := LQ_
  have hE4 : (decide (sMA x y z = sMA x y z)) = true := decide_eq_true rfl
  have hE5 : (((sBelow x) == (sBelow x))) = true := beq_self_eq_true _
  refine S_ ?_
  refine c_draw 21 mixed (by kernel_rfl) rfl rfl rfl ?_
  refine h_val (v_loadR rfl rfl row_22 sz_22 EQ_ (by decide)) rfl ?_
  refine h_val (v_loadR rfl rfl row_22 sz_22 EQ_ (by decide)) rfl ?_
  refine h_val (v_loadR rfl rfl row_22 sz_22 EQ_ (by decide)) rfl ?_
  refine h_val (v_loadR rfl rfl row_22 sz_22 EQ_ (by decide)) rfl ?_
  refine h_evN (e_callR (bs := []) (rMA_ev x y z HYP_ HYP_ HYP_) ok_34 (by kernel_rfl) (by kernel_rfl) rfl VAL_) APP_ rfl ?_
  refine h_val (v_bool (v_eqlR8 rfl rfl Try.underlying22 Try.underlying5 sz_5 EQ_ EQ_) hE4) rfl ?_
  refine h_val (v_moveC rfl) rfl ?_
  refine h_go GO_ ?_
  refine h_val (v_loadR rfl rfl row_22 sz_22 EQ_ (by decide)) rfl ?_
  refine h_go GO_ ?_
  refine h_evN (e_callR (bs := []) (sMA_below_ev x y z) ok_31 (by kernel_rfl) (by kernel_rfl) rfl VAL_) APP_ rfl ?_
  refine h_val (v_pickT rfl PK_ rfl) rfl ?_
  refine h_val (v_moveC rfl) rfl ?_
  refine h_go GO_ ?_
  refine h_val (v_loadR rfl rfl row_22 sz_22 EQ_ (by decide)) rfl ?_
  refine h_go GO_ ?_
  refine h_evN (e_callR (bs := []) (sBelow_ev x HYP_) ok_31 (by kernel_rfl) (by kernel_rfl) rfl VAL_) APP_ rfl ?_
  refine h_go GO_ ?_
  refine h_val (v_loadR rfl rfl row_22 sz_22 EQ_ (by decide)) rfl ?_
  refine h_go GO_ ?_
  refine h_evN (e_callR (bs := []) (rBelow_ev x HYP_) ok_35 (by kernel_rfl) (by kernel_rfl) rfl VAL_) APP_ rfl ?_
  refine h_go GO_ ?_
  refine h_val (v_bool (v_eqlB rfl rfl Try.underlying4) hE5) rfl ?_
  refine h_val (v_pickT rfl PK_ rfl) rfl ?_
  refine h_val (v_moveC rfl) rfl ?_
  refine h_go GO_ ?_
  refine h_evN (e_callR (wakes_ev) ok_16 rfl rfl rfl VAL_) APP_ rfl ?_
  refine h_val (v_pickT rfl PK_ rfl) rfl ?_
  refine h_val (v_assignC rfl) rfl ?_
  refine h_nil ?_
  refine s_nil ?_
  refine S_ ?_
  exact k_1 (by first | exact r_tmpC rfl | exact r_tmpA rfl) (by first | kernel_rfl | rfl)
end Go.Proofs.Ytcekjmejppemeaa
/- trystlaw08.CurveNumbers (Drawn up by a program.) -/
namespace Go.Proofs.Ytcekjmejppemeaa
open Go.RowKit

set_option maxRecDepth 100000 in
set_option maxHeartbeats 2000000 in
theorem cvNbS_ev (b : List (BitVec 8)) (cap : Nat) (x : List (BitVec 8)) (y : List (BitVec 8)) (z : List (BitVec 8)) (hx : x.length = 32) (hy : y.length = 32) (hz : z.length = 32) (hb : b.length ≤ 64) : Ev Try.prog (.call 10 [.c (.sl 0 0 b.length cap 1), .agg (.a8 (x)), .agg (.a8 (y)), .agg (.a8 (z))] [.row false (.a8 (b))]) (.val (.c (.val (.bool (true)))) [.row false (.a8 (b))]) := by
  refine c_call Try.func10 rfl Try.ntmps10 rfl LEN_ ?_
  refine S_ ?_
  refine c_region ?_
  refine s_memN (m_box BX_ LEN_) APP_ rfl ?_
  refine s_memN (m_box BX_ LEN_) APP_ rfl ?_
  refine s_memN (m_box BX_ LEN_) APP_ rfl ?_
  refine s_val (v_assignC rfl) rfl ?_
  refine s_nil ?_
  refine S_ ?_
  refine c_region ?_
  refine s_val (v_moveC rfl) rfl ?_
  refine s_val (v_lenS rfl Try.underlying47) rfl ?_
  refine s_val (v_gtrN (b := 200) rfl rfl) rfl ?_
  refine s_nil ?_
  have hQ1 : (sMod b).length = 32 := LQ_
  refine S_ ?_
  refine c_region ?_
  refine s_val (v_moveC rfl) rfl ?_
  refine s_evN (e_callR (bs := [0]) (sMod_ev b b.length cap HYP_ HYP_) ok_30 (by kernel_rfl) (by kernel_rfl) rfl VAL_) APP_ rfl ?_
  refine s_val (v_moveT rfl) rfl ?_
  refine s_val (v_extract rfl rfl) rfl ?_
  refine s_val (v_extract rfl rfl) rfl ?_
  refine s_memN (m_alloc al_22 LEN_) APP_ rfl ?_
  refine s_storeR rfl rfl rfl rfl sz_22 EQ_ EQ_ SET_ ?_
  refine s_val (v_assignC rfl) rfl ?_
  refine s_nil ?_
  refine S_ ?_
  refine c_region ?_
  refine s_val (v_moveC rfl) rfl ?_
  refine s_val (v_lenS rfl Try.underlying47) rfl ?_
  refine s_val (v_gtrN (b := 64) rfl rfl) rfl ?_
  refine s_nil ?_
  have hQ3 : (sMod b).length = 32 := LQ_
  have hE2 : (!decide (sMod b = sMod b)) = false := by rw [decide_eq_true rfl]; rfl
  refine S_ ?_
  refine c_draw 13 mixed (by kernel_rfl) rfl rfl rfl ?_
  refine h_val (v_moveC rfl) rfl ?_
  refine h_val (v_neqN (a := 0) (b := 0) rfl rfl) rfl ?_
  refine h_val (v_moveC rfl) rfl ?_
  refine h_go GO_ ?_
  refine h_val (v_loadR rfl rfl row_22 sz_22 EQ_ (by decide)) rfl ?_
  refine h_go GO_ ?_
  refine h_val (v_moveC rfl) rfl ?_
  refine h_go GO_ ?_
  refine h_evN (e_callR (bs := [0]) (rMod_ev b b.length cap HYP_ HYP_) ok_33 (by kernel_rfl) (by kernel_rfl) rfl VAL_) APP_ rfl ?_
  refine h_go GO_ ?_
  refine h_val (v_bool (v_neqR8 rfl rfl Try.underlying22 Try.underlying5 sz_5 EQ_ EQ_) hE2) rfl ?_
  refine h_val (v_pickF rfl PK_ rfl) rfl ?_
  refine h_val (v_moveC rfl) rfl ?_
  refine h_go GO_ ?_
  refine h_val (v_loadR rfl rfl row_22 sz_22 EQ_ (by decide)) rfl ?_
  refine h_go GO_ ?_
  refine h_evN (e_callR (bs := []) (sMod_below_ev b) ok_31 (by kernel_rfl) (by kernel_rfl) rfl VAL_) APP_ rfl ?_
  refine h_go GO_ ?_
  refine h_val (v_unnotB rfl) rfl ?_
  refine h_val (v_pickF rfl PK_ rfl) rfl ?_
  refine h_nil ?_
  refine s_nil ?_
  have hQ4 : (sMA x y z).length = 32 := LQ_
  refine S_ ?_
  refine c_region ?_
  refine s_val (v_loadR rfl rfl row_22 sz_22 EQ_ (by decide)) rfl ?_
  refine s_val (v_loadR rfl rfl row_22 sz_22 EQ_ (by decide)) rfl ?_
  refine s_val (v_loadR rfl rfl row_22 sz_22 EQ_ (by decide)) rfl ?_
  refine s_evN (e_callR (bs := []) (sMA_ev x y z HYP_ HYP_ HYP_) ok_32 (by kernel_rfl) (by kernel_rfl) rfl VAL_) APP_ rfl ?_
  refine s_memN (m_alloc al_22 LEN_) APP_ rfl ?_
  refine s_storeR rfl rfl rfl rfl sz_22 EQ_ EQ_ SET_ ?_
  refine s_nil ?_
  have hQ7 : (sMA x y z).length = 32 := LQ_
  have hE5 : (decide (sMA x y z = sMA x y z)) = true := decide_eq_true rfl
  have hE6 : (((sBelow x) == (sBelow x))) = true := beq_self_eq_true _
  refine S_ ?_
  refine c_draw 21 mixed (by kernel_rfl) rfl rfl rfl ?_
  refine h_val (v_loadR rfl rfl row_22 sz_22 EQ_ (by decide)) rfl ?_
  refine h_val (v_loadR rfl rfl row_22 sz_22 EQ_ (by decide)) rfl ?_
  refine h_val (v_loadR rfl rfl row_22 sz_22 EQ_ (by decide)) rfl ?_
  refine h_val (v_loadR rfl rfl row_22 sz_22 EQ_ (by decide)) rfl ?_
  refine h_evN (e_callR (bs := []) (rMA_ev x y z HYP_ HYP_ HYP_) ok_34 (by kernel_rfl) (by kernel_rfl) rfl VAL_) APP_ rfl ?_
  refine h_val (v_bool (v_eqlR8 rfl rfl Try.underlying22 Try.underlying5 sz_5 EQ_ EQ_) hE5) rfl ?_
  refine h_val (v_moveC rfl) rfl ?_
  refine h_go GO_ ?_
  refine h_val (v_loadR rfl rfl row_22 sz_22 EQ_ (by decide)) rfl ?_
  refine h_go GO_ ?_
  refine h_evN (e_callR (bs := []) (sMA_below_ev x y z) ok_31 (by kernel_rfl) (by kernel_rfl) rfl VAL_) APP_ rfl ?_
  refine h_val (v_pickT rfl PK_ rfl) rfl ?_
  refine h_val (v_moveC rfl) rfl ?_
  refine h_go GO_ ?_
  refine h_val (v_loadR rfl rfl row_22 sz_22 EQ_ (by decide)) rfl ?_
  refine h_go GO_ ?_
  refine h_evN (e_callR (bs := []) (sBelow_ev x HYP_) ok_31 (by kernel_rfl) (by kernel_rfl) rfl VAL_) APP_ rfl ?_
  refine h_go GO_ ?_
  refine h_val (v_loadR rfl rfl row_22 sz_22 EQ_ (by decide)) rfl ?_
  refine h_go GO_ ?_
  refine h_evN (e_callR (bs := []) (rBelow_ev x HYP_) ok_35 (by kernel_rfl) (by kernel_rfl) rfl VAL_) APP_ rfl ?_
  refine h_go GO_ ?_
  refine h_val (v_bool (v_eqlB rfl rfl Try.underlying4) hE6) rfl ?_
  refine h_val (v_pickT rfl PK_ rfl) rfl ?_
  refine h_val (v_moveC rfl) rfl ?_
  refine h_go GO_ ?_
  refine h_evN (e_callR (wakes_ev) ok_16 rfl rfl rfl VAL_) APP_ rfl ?_
  refine h_val (v_pickT rfl PK_ rfl) rfl ?_
  refine h_val (v_assignC rfl) rfl ?_
  refine h_nil ?_
  refine s_nil ?_
  refine S_ ?_
  exact k_1 (by first | exact r_tmpC rfl | exact r_tmpA rfl) (by first | kernel_rfl | rfl)
end Go.Proofs.Ytcekjmejppemeaa
/- curve's numbers are the reference's: all lengths. -/
namespace Go.Proofs.Ytcekjmejppemeaa
open Go.RowKit
theorem curveNumbers_ev (b : List (BitVec 8)) (cap : Nat) (x y z : List (BitVec 8)) (hx : x.length = 32) (hy : y.length = 32) (hz : z.length = 32) : Ev Try.prog (.call 10 [.c (.sl 0 0 b.length cap 1), .agg (.a8 (x)), .agg (.a8 (y)), .agg (.a8 (z))] [.row false (.a8 (b))]) (.val (.c (.val (.bool (true)))) [.row false (.a8 (b))]) := by
  by_cases h : 200 < b.length
  · exact cvNbB_ev b cap x y z hx hy hz h
  · by_cases h' : 64 < b.length
    · exact cvNbM_ev b cap x y z hx hy hz ⟨h', by omega⟩
    · exact cvNbS_ev b cap x y z hx hy hz (by omega)
end Go.Proofs.Ytcekjmejppemeaa
/- Slices of bytes: what a slice reads as, what a call owns, appending. -/
namespace Go.Proofs.Ytcekjmejppemeaa
open Go.RowKit

/-- The slice value v reads as the bytes l. -/
def Sl (w : World) (v : Value) (l : List (BitVec 8)) : Prop :=
  ∃ a cap, v = .slice a l.length cap ∧ l.length ≤ cap ∧ cap ≤ maxLen ∧ (a = none → cap = 0) ∧ ∀ i, i < l.length → ∃ b off, a = some ⟨b, off, none⟩ ∧ w.cell? ⟨b, off + i, none⟩ = some (U8 (nth l i))
/-- The call owns the slice v, from block B on; it reads as l. -/
def Own (B : Nat) (w : World) (v : Value) (l : List (BitVec 8)) : Prop := w.ownsRow B 5 1 v l.length (l.map U8)

theorem Sl.nil (w : World) : Sl w (.slice none 0 0) [] := ⟨none, 0, rfl, Nat.le_refl _, by unfold maxLen; omega, fun _ => rfl, fun i h => absurd h (by simp)⟩
theorem addr_mid (b o j : Nat) : (⟨b, o, none⟩ : Addr).add j = ⟨b, o + j, none⟩ := Addr.add_mid b o j
theorem Own.sl {B : Nat} {w : World} {v : Value} {l : List (BitVec 8)} (h : Own B w v l) : Sl w v l := by
  obtain ⟨h1, h2⟩ := h
  rcases h2 with ⟨rfl, hn⟩ | ⟨g, cap, cur, rfl, hg, hh, hc, hm, hs, ht⟩
  · obtain rfl : l = [] := List.length_eq_zero_iff.1 hn
    exact Sl.nil w
  · refine ⟨some ⟨g, 0, none⟩, cap, rfl, hc, hm, (fun h => by cases h), fun i hi => ⟨g, 0, rfl, ?_⟩⟩
    rw [cell_of_row w g (0 + i) cur _ _ hh]
    have := congrArg (fun x => x[i]?) ht
    simp only [List.getElem?_take, Nat.mul_one, hi, if_true, List.getElem?_map] at this
    rw [Nat.zero_add, ← Array.getElem?_toList, this]
    simp [nth, hi]
theorem Own.nil (B : Nat) (w : World) : Own B w (.slice none 0 0) [] := World.ownsRow_nil w B _ 1
/-- The shape of a slice that is not empty. -/
theorem Sl.shape {w : World} {v : Value} {l : List (BitVec 8)} (h : Sl w v l) (hl : l ≠ []) : ∃ b off cap, v = .slice (some ⟨b, off, none⟩) l.length cap ∧ l.length ≤ cap ∧ cap ≤ maxLen ∧ ∀ i, i < l.length → w.cell? ⟨b, off + i, none⟩ = some (U8 (nth l i)) := by
  obtain ⟨a, cap, rfl, hc, hm, _, hi⟩ := h
  have hp : 0 < l.length := List.length_pos_iff.2 hl
  obtain ⟨b, off, rfl, _⟩ := hi 0 hp
  refine ⟨b, off, cap, rfl, hc, hm, fun i h => ?_⟩
  obtain ⟨b', off', e, hcell⟩ := hi i h
  simp only [Option.some.injEq, Addr.mk.injEq] at e
  obtain ⟨rfl, rfl, _⟩ := e
  exact hcell
theorem Sl.len {w : World} {v : Value} {l : List (BitVec 8)} (h : Sl w v l) : ∃ a cap, v = .slice a l.length cap := by obtain ⟨a, cap, h, _⟩ := h; exact ⟨a, cap, h⟩
theorem Sl.mk {w : World} {b off len cap : Nat} {l : List (BitVec 8)} (hl : l.length = len) (hc : len ≤ cap) (hm : cap ≤ maxLen) (h : ∀ i, i < len → w.cell? ⟨b, off + i, none⟩ = some (U8 (nth l i))) : Sl w (.slice (some ⟨b, off, none⟩) len cap) l := by
  subst hl
  exact ⟨_, cap, rfl, hc, hm, fun h => (by cases h), fun i hi => ⟨b, off, rfl, h i hi⟩⟩
theorem Sl.below {w w' : World} {v : Value} {l : List (BitVec 8)} (h : Sl w v l) (hb : Below w.heap.size w w') : Sl w' v l := by
  obtain ⟨a, cap, rfl, hc, hm, hn, hi⟩ := h
  refine ⟨a, cap, rfl, hc, hm, hn, fun i h => ?_⟩
  obtain ⟨b, off, e, hcell⟩ := hi i h
  refine ⟨b, off, e, ?_⟩
  rw [hb.cell (World.block_lt_of_cell? w _ hcell)]; exact hcell
/-- What is changed lies elsewhere. -/
theorem Sl.same {w w' : World} {v : Value} {l : List (BitVec 8)} (h : Sl w v l) (hb : ∀ k, (l ≠ [] → v.ownBlock = some k) → w'.heap[k]? = w.heap[k]?) : Sl w' v l := by
  obtain ⟨a, cap, rfl, hc, hm, hn, hi⟩ := h
  refine ⟨a, cap, rfl, hc, hm, hn, fun i h => ?_⟩
  obtain ⟨b, off, rfl, hcell⟩ := hi i h
  refine ⟨b, off, rfl, ?_⟩
  rw [World.cell?_of_block (w := w) (w' := w') (hb b fun _ => rfl)]; exact hcell
theorem Sl.upto {w : World} {v : Value} {l : List (BitVec 8)} (h : Sl w v l) (hl : l ≠ []) : ∃ k, v.ownBlock = some k ∧ k < w.heap.size := by
  obtain ⟨b, off, cap, rfl, _, _, hi⟩ := h.shape hl
  exact ⟨b, rfl, World.block_lt_of_cell? w _ (hi 0 (List.length_pos_iff.2 hl))⟩

theorem Own.below {B : Nat} {w w' : World} {v : Value} {l : List (BitVec 8)} (h : Own B w v l) (hb : Below w.heap.size w w') : Own B w' v l := by
  obtain ⟨h1, h2⟩ := h
  refine ⟨h1, ?_⟩
  rcases h2 with h2 | ⟨g, cap, cur, rfl, hg, hh, r⟩
  · exact Or.inl h2
  · exact Or.inr ⟨g, cap, cur, rfl, hg, by rw [hb.block g (Array.getElem?_eq_some_iff.1 hh).1]; exact hh, r⟩
theorem Own.mono {B B' : Nat} {w : World} {v : Value} {l : List (BitVec 8)} (h : Own B w v l) (hB : B' ≤ B) : Own B' w v l := by
  obtain ⟨h1, h2⟩ := h
  refine ⟨h1, ?_⟩
  rcases h2 with h2 | ⟨g, cap, cur, rfl, hg, hh, r⟩
  · exact Or.inl h2
  · exact Or.inr ⟨g, cap, cur, rfl, Nat.le_trans hB hg, hh, r⟩
theorem Has.grown {w w' : World} {b : Nat} {cs : Array Value} {t : TypeId} {row : Option Nat} (h : Has w b cs t) (hg : w.grownBy w' row) (hb : some b ≠ row) : Has w' b cs t := by
  have := h.lt; unfold Has at *; rw [hg.block b this hb]; exact h
theorem Sl.grown {w w' : World} {v : Value} {l : List (BitVec 8)} {row : Option Nat} (h : Sl w v l) (hg : w.grownBy w' row) (hb : l ≠ [] → v.ownBlock ≠ row) : Sl w' v l := by
  by_cases hl : l = []
  · subst hl
    obtain ⟨a, cap, rfl, hc, hm, hn, hi⟩ := h
    exact ⟨a, cap, rfl, hc, hm, hn, fun i h => absurd h (by simp)⟩
  · obtain ⟨k, hk, hk2⟩ := h.upto hl
    refine h.same fun j hj => ?_
    have : j = k := by have := hj hl; rw [hk] at this; simpa using this.symm
    subst this
    exact hg.block j hk2 (by rw [← hk]; exact hb hl)

/-- Bytes appended to a slice that the call owns. -/
theorem wpList_append8 {P : Program} (w : World) {ops : Array Oper} {rest : List Oper} {o : Oper} {a : Act} {Q : Exit → Act → World → Prop} (hgd : o.guard = none) (s x : Operand) (t : TypeId)
    (ho : o.op = .call { callee := .builtin .append, args := #[s, x], argTypes := #[t, t] }) (B : Nat) (ht : P.underlying t = some (.slice 5)) (hi : (P.info? 5).map (fun i => (i.zero, i.size, i.bytes)) = some (some (.int .u8 0), 1, 1))
    (v : Value) (l m : List (BitVec 8)) (hs : a.eval s = v) (hown : Own B w v l) (u : Value) (hx : a.eval x = u) (hu : Sl w u m) (h46 : l.length + m.length ≤ 70368744177664) (hB : B ≤ w.heap.size)
    (h : ∀ v' w', Own B w' v' (l ++ m) → w.grownBy w' v.ownBlock → wpList P ops Q rest (a.put o.dst v') w') : wpList P ops Q (o :: rest) a w := by
  obtain ⟨i0, hi0, hz0, hz1, hz2⟩ := info_parts hi
  obtain ⟨ad, cap, rfl, hc, hm, hn, hcell⟩ := hu
  cases ad with
  | none =>
    obtain rfl := hn rfl
    have hm0 : m.length = 0 := by omega
    obtain rfl : m = [] := List.length_eq_zero_iff.1 hm0
    refine wpList_append_own_none hgd s x t ho B 5 i0 1 ht hi0 v l.length (l.map U8) hs hown hx ?_
    exact h v w (by simpa using hown) ⟨rfl, rfl, rfl, Nat.le_refl _, fun _ _ _ => rfl⟩
  | some p =>
    refine wpList_append_own w hgd s x t ho B 5 i0 (.int .u8 0) 1 1 ht hi0 hz0 hz1 hz2 rfl (by decide) v l.length (l.map U8) hs hown p m.length cap (m.map U8) hx (by simp) ?_ ?_ (by unfold maxLen; omega) (by omega) hB ?_
    · intro j y hy
      rw [List.getElem?_map] at hy
      obtain ⟨z, hz, rfl⟩ := Option.map_eq_some_iff.1 hy
      have hj : j < m.length := (List.getElem?_eq_some_iff.1 hz).1
      obtain ⟨b, off, e, hc2⟩ := hcell j hj
      obtain rfl := Option.some.inj e
      rw [addr_mid, hc2]
      simp [nth, hz]
    · intro y hy
      obtain ⟨z, _, rfl⟩ := List.mem_map.1 hy
      rfl
    · intro v' w' hown' hg _
      exact h v' w' (by unfold Own; rw [List.length_append, List.map_append]; exact hown') hg
/-- The same as a law on the operation's run. -/
theorem run_append8 {P : Program} (w : World) (t ty : TypeId) (B : Nat) (ht : P.underlying t = some (.slice 5)) (hi : (P.info? 5).map (fun i => (i.zero, i.size, i.bytes)) = some (some (.int .u8 0), 1, 1))
    (v : Value) (l m : List (BitVec 8)) (hown : Own B w v l) (u : Value) (hu : Sl w u m) (h46 : l.length + m.length ≤ 70368744177664) (hB : B ≤ w.heap.size) :
    ∃ v' w', (Builtin.append_ #[t, t] ty #[v, u]).run P w = .ok v' w' ∧ Own B w' v' (l ++ m) ∧ w.grownBy w' v.ownBlock := by
  obtain ⟨i0, hi0, hz0, hz1, hz2⟩ := info_parts hi
  obtain ⟨ad, cap, rfl, hc, hm, hn, hcell⟩ := hu
  cases ad with
  | none =>
    obtain rfl := hn rfl
    have hm0 : m.length = 0 := by omega
    obtain rfl : m = [] := List.length_eq_zero_iff.1 hm0
    exact ⟨v, w, run_append_owned_none w B t ty 5 i0 1 ht hi0 v l.length (l.map U8) hown, by simpa using hown, ⟨rfl, rfl, rfl, Nat.le_refl _, fun _ _ _ => rfl⟩⟩
  | some p =>
    obtain ⟨v', w', hr, ho, hg, _⟩ := run_append_own (P := P) w B t ty 5 i0 (.int .u8 0) 1 1 ht hi0 hz0 hz1 hz2 rfl (by decide) v l.length (l.map U8) hown p m.length cap (m.map U8) (by simp) (by
      intro j y hy
      rw [List.getElem?_map] at hy
      obtain ⟨z, hz, rfl⟩ := Option.map_eq_some_iff.1 hy
      have hj : j < m.length := (List.getElem?_eq_some_iff.1 hz).1
      obtain ⟨b, off, e, hc2⟩ := hcell j hj
      obtain rfl := Option.some.inj e
      rw [addr_mid, hc2]
      simp [nth, hz]) (by
      intro y hy
      obtain ⟨z, _, rfl⟩ := List.mem_map.1 hy
      rfl) (by unfold maxLen; omega) (by omega) hB
    exact ⟨v', w', hr, by unfold Own; rw [List.length_append, List.map_append]; exact ho, hg⟩
/-- .. as a step of a region that draws. -/
theorem step_append8 {P : Program} {ops : Array Oper} {o : Oper} {a : Act} {w : World} {K : Act → World → Prop} {Q : Exit → Act → World → Prop} {E : Prop}
    (hgd : o.guard = none) (s x : Operand) (t : TypeId) (hop : o.op = Op.call { callee := Callee.builtin Builtin.append, args := #[s, x], argTypes := #[t, t] }) (B : Nat) (ht : P.underlying t = some (.slice 5)) (hi : (P.info? 5).map (fun i => (i.zero, i.size, i.bytes)) = some (some (.int .u8 0), 1, 1))
    (v : Value) (l m : List (BitVec 8)) (hs : a.eval s = v) (hown : Own B w v l) (u : Value) (hx : a.eval x = u) (hu : Sl w u m) (h46 : l.length + m.length ≤ 70368744177664) (hB : B ≤ w.heap.size)
    (hK : ∀ v' w', Own B w' v' (l ++ m) → w.grownBy w' v.ownBlock → K (a.put o.dst v') w') :
    if Region.wanted o (yielded ops a.tmps) = true then Oper.wp P o a w K Q else E := by
  have hw : Region.wanted o (yielded ops a.tmps) = true := by simp [Region.wanted, hgd]
  rw [if_pos hw]
  obtain ⟨v', w', hrun, r1, r2⟩ := run_append8 (P := P) w t o.type B ht hi v l m hown u hu h46 hB
  unfold Oper.wp
  simp [execOp, hop, resolve, invoke, builtin, hs, hx, hrun, Result.andThen]
  exact hK v' w' r1 r2
/-- A slice that the call owns lies apart from any row of another kind. -/
theorem Own.apart {B : Nat} {w : World} {v : Value} {l : List (BitVec 8)} (h : Own B w v l) {b : Nat} {cs : Array Value} {t : TypeId} (hb : Has w b cs t) (ht : t ≠ 5) : some b ≠ v.ownBlock := by
  obtain ⟨_, h2⟩ := h
  rcases h2 with ⟨rfl, _⟩ | ⟨g, cap, cur, rfl, hg, hh, _⟩
  · simp [Value.ownBlock]
  · intro e
    simp only [Value.ownBlock, Option.some.injEq] at e
    subst e
    unfold Has at hb
    rw [hb] at hh
    simp only [Option.some.injEq, Obj.cells.injEq] at hh
    exact ht hh.2.1
theorem Own.from {B : Nat} {w : World} {v : Value} {l : List (BitVec 8)} (h : Own B w v l) : ∀ k, v.ownBlock = some k → B ≤ k := fun k hk => (World.ownsRow.lt h k hk).1
theorem Has.own {B : Nat} {w w' : World} {v : Value} {l : List (BitVec 8)} (h : Own B w v l) (hg : w.grownBy w' v.ownBlock) {b : Nat} {cs : Array Value} {t : TypeId} (hb : Has w b cs t) (ht : t ≠ 5) : Has w' b cs t := hb.grown hg (h.apart hb ht)
theorem below_own {B : Nat} {w0 w w' : World} {v : Value} {l : List (BitVec 8)} (hb : Below B w0 w) {B' : Nat} (h : Own B' w v l) (hB : B ≤ B') (hBw : B ≤ w.heap.size) (hg : w.grownBy w' v.ownBlock) : Below B w0 w' :=
  hb.grown hg hBw fun k hk => Nat.le_trans hB (h.from k hk)
theorem Sl.one {w : World} {g : Nat} {x : BitVec 8} {t : TypeId} (h : Has w g #[U8 x] t) : Sl w (.slice (some ⟨g, 0, none⟩) 1 1) [x] :=
  Sl.mk (l := [x]) rfl (Nat.le_refl _) (by unfold maxLen; omega) fun i hi => by
    obtain rfl : i = 0 := by omega
    rw [h.cell]; rfl
/-- Bytes, and whatever lies behind them. -/
def cellsT (l : List (BitVec 8)) (T : List Value) : Array Value := (l.map U8 ++ T).toArray
@[go_sem] theorem cellsT_get (l : List (BitVec 8)) (T : List Value) (i : Nat) (h : i < l.length) : (cellsT l T)[i]? = some (U8 (nth l i)) := by
  simp only [cellsT, List.getElem?_toArray]
  rw [List.getElem?_append_left (by simpa using h)]
  simp [nth, h]
@[go_sem] theorem cellsT_set (l : List (BitVec 8)) (T : List Value) (i : Nat) (v : BitVec 8) (h : i < l.length) : (cellsT l T).setIfInBounds i (U8 v) = cellsT (put l i v) T := by
  simp [cellsT, put, List.map_set, h]
theorem Own.made0 {B : Nat} {w : World} {g : Nat} (hg : B ≤ g) (h : Has w g #[] 5) : Own B w (.slice (some ⟨g, 0, none⟩) 0 0) [] :=
  ⟨rfl, .inr ⟨g, 0, #[], rfl, hg, h, Nat.le_refl _, by unfold maxLen; omega, rfl, rfl⟩⟩
/-- What a slice that the call owns looks like. -/
theorem Own.shape {B : Nat} {w : World} {v : Value} {l : List (BitVec 8)} (h : Own B w v l) (hl : l ≠ []) : ∃ g cap T, v = .slice (some ⟨g, 0, none⟩) l.length cap ∧ B ≤ g ∧ Has w g (cellsT l T) 5 ∧ l.length ≤ cap ∧ cap ≤ maxLen ∧ l.length + T.length = cap := by
  obtain ⟨h1, h2⟩ := h
  rcases h2 with ⟨rfl, hn⟩ | ⟨g, cap, cur, rfl, hg, hh, hc, hm, hs, ht⟩
  · exact absurd (List.length_eq_zero_iff.1 hn) hl
  · refine ⟨g, cap, cur.toList.drop l.length, rfl, hg, ?_, hc, hm, ?_⟩
    · have e : cellsT l (cur.toList.drop l.length) = cur := by
        unfold cellsT
        rw [Nat.mul_one] at ht
        rw [← ht, List.take_append_drop]
      unfold Has; rw [e]; exact hh
    · have : cur.toList.length = cap := by simpa using hs
      rw [List.length_drop, this]; omega
theorem Own.mk {B : Nat} {w : World} {g cap : Nat} {l : List (BitVec 8)} {T : List Value} (hg : B ≤ g) (h : Has w g (cellsT l T) 5) (hm : cap ≤ maxLen) (hc : l.length + T.length = cap) : Own B w (.slice (some ⟨g, 0, none⟩) l.length cap) l := by
  refine ⟨by simp, .inr ⟨g, cap, cellsT l T, rfl, hg, h, by omega, hm, by simp [cellsT]; omega, ?_⟩⟩
  simp [cellsT]
theorem info8 : (Try.prog.info? 5).map (fun i => (i.zero, i.size, i.bytes)) = some (some (.int .u8 0), 1, 1) := by kernel_rfl
end Go.Proofs.Ytcekjmejppemeaa
/- Opening the given arguments of a law: slices of bytes, arrays of bytes, words. -/
namespace Go.Proofs.Ytcekjmejppemeaa
open Go.ChangeShapes Go.WideShapes Go.ChangeAt Go.RowKit

theorem int_u8 {n : Int} (h : (Lit.int .u8 n).wf = true) : (.int .u8 n : Value) = U8 (BitVec.ofInt 8 n) := by
  simp only [Lit.wf, Bool.and_eq_true, decide_eq_true_eq] at h
  have h1 : (0 : Int) ≤ n := h.1
  have h2 : n ≤ 255 := h.2
  show Value.int .u8 n = Value.int .u8 (tn (BitVec.ofInt 8 n))
  congr 1
  unfold tn
  rw [BitVec.toNat_ofInt]
  omega
theorem int_u32 {n : Int} (h : (Lit.int .u32 n).wf = true) : (.int .u32 n : Value) = U32 (BitVec.ofInt 32 n) := by
  simp only [Lit.wf, Bool.and_eq_true, decide_eq_true_eq] at h
  have h1 : (0 : Int) ≤ n := h.1
  have h2 : n ≤ 4294967295 := h.2
  show Value.int .u32 n = Value.int .u32 (tn (BitVec.ofInt 32 n))
  congr 1
  unfold tn
  rw [BitVec.toNat_ofInt]
  omega
theorem int_u64 {n : Int} (h : (Lit.int .u64 n).wf = true) : (.int .u64 n : Value) = U64 (BitVec.ofInt 64 n) := by
  simp only [Lit.wf, Bool.and_eq_true, decide_eq_true_eq] at h
  have h1 : (0 : Int) ≤ n := h.1
  have h2 : n ≤ 18446744073709551615 := h.2
  show Value.int .u64 n = Value.int .u64 (tn (BitVec.ofInt 64 n))
  congr 1
  unfold tn
  rw [BitVec.toNat_ofInt]
  omega
/-- The number of a cell, as a byte. -/
def byteOf : Value → BitVec 8
  | .int _ n => BitVec.ofInt 8 n
  | _ => 0
section
variable {H : Type} {enc : TypeId × Value → H} {P : Program} {w : World} {base : Nat} {spare : Nat → Bool} {held : Bool}
theorem okWide_array {r : Reach} {b0 : Nat} {t e : TypeId} {n : Nat} {v : Value} (ht : P.underlying t = some (.array n e)) (h : Value.okWide P w r b0 t v) : ∃ cs, v = .agg cs ∧ cs.size = P.cellsOf t := by
  simp only [Value.okWide, ht] at h
  obtain ⟨cs, h1, h2, _⟩ := h
  exact ⟨cs, h1, h2⟩
/-- An array of bytes, opened. -/
theorem open_bytes {r : Reach} {b0 : Nat} {t e : TypeId} {n : Nat} {v : Value} {d : DataW H} {ps : List MemPlace} (ht : P.underlying t = some (.array n e)) (he : P.underlying e = some (.int .u8)) (hc : P.cellsOf e = 1) (hct : P.cellsOf t = n)
    (hval : Value.okWide P w r b0 t v) (hd : DataW.Trod enc P w base spare held t v d ps) : ∃ l : List (BitVec 8), v = .agg (cells U8 l) ∧ l.length = n := by
  obtain ⟨cs, rfl, hs⟩ := okWide_array ht hval
  obtain ⟨fuel, hf⟩ := hd
  obtain ⟨xs, m, _, _, _, hx, hi⟩ := DataW.trod_array ht hf
  refine ⟨cs.toList.map byteOf, ?_, by simp [hs, hct]⟩
  congr 1
  apply Array.ext
  · simp [cells]
  · intro i h1 h2
    have hin : i < n := by omega
    have h := hi i hin
    rw [List.getElem?_eq_getElem (by omega)] at h
    obtain ⟨z, hz, _, hw⟩ := DataW.trod_int he h
    have hv : cs[i] = .int .u8 z := by
      rw [hc, Nat.mul_one] at hz
      have : ((cs.toList.drop i).take 1)[0]? = some (.int .u8 z) := by
        have hz' : ((cs.toList.drop i).take 1) = [.int .u8 z] := hz
        rw [hz']; rfl
      simp [List.getElem?_drop] at this
      have h3 := Array.getElem?_eq_some_iff.1 this
      exact h3.2
    simp only [cells, List.getElem_toArray, List.getElem_map, Array.getElem_toList]
    rw [hv]
    exact int_u8 hw
/-- A slice of bytes, opened. -/
theorem open_sl {r : Reach} {b0 : Nat} {t e : TypeId} {v : Value} {d : DataW H} {ps : List MemPlace} (ht : P.underlying t = some (.slice e)) (he : P.underlying e = some (.int .u8)) (hc : P.cellsOf e = 1)
    (hval : Value.okWide P w r b0 t v) (hd : DataW.Trod enc P w base spare held t v d ps) : ∃ l : List (BitVec 8), Sl w v l := by
  obtain ⟨a0, len0, cap0, rfl⟩ := okWide_slice ht hval
  obtain ⟨fuel, hf⟩ := hd
  rcases open_ints ht he hc hf with ⟨hcs, _⟩ | ⟨x, len, c, zs, hcs, _, hl, hm, hz, _, hcell, hwz⟩
  · simp [Value.cells] at hcs
    obtain ⟨rfl, rfl, rfl⟩ := hcs
    exact ⟨[], Sl.nil w⟩
  · simp [Value.cells] at hcs
    obtain ⟨rfl, rfl, rfl⟩ := hcs
    have hzl : len0 ≤ zs.length := by rw [hz]; split <;> omega
    have hlen : ((zs.take len0).map (BitVec.ofInt 8)).length = len0 := by simp; omega
    refine ⟨(zs.take len0).map (BitVec.ofInt 8), some x, cap0, by rw [hlen], by rw [hlen]; exact hl, hm, (fun h => by cases h), fun i hi => ?_⟩
    rw [hlen] at hi
    obtain ⟨b, off, spot⟩ := x
    have hc0 := hcell i (by omega)
    have hspot : spot = none := by
      have h0 := hcell 0 (by omega)
      simpa [Addr.add] using World.cell?_spot h0
    subst hspot
    refine ⟨b, off, rfl, ?_⟩
    have e1 : (⟨b, off, none⟩ : Addr).add i = ⟨b, off + i, none⟩ := addr_mid b off i
    rw [e1] at hc0
    rw [hc0, int_u8 (hwz _ (by rw [List.getD_eq_getElem?_getD, List.getElem?_eq_getElem (by omega)]; exact List.getElem_mem _))]
    congr 2
    rw [nth_eq _ _ (by rw [hlen]; exact hi)]
    have hi2 : i < zs.length := by omega
    simp [hi2]
theorem open_u8 {r : Reach} {b0 : Nat} {t : TypeId} {v : Value} {d : DataW H} {ps : List MemPlace} (ht : P.underlying t = some (.int .u8)) (hval : Value.okWide P w r b0 t v) (hd : DataW.Trod enc P w base spare held t v d ps) : ∃ c : BitVec 8, v = U8 c := by
  obtain ⟨n, rfl, _, _, hw⟩ := open_int ht hval hd
  exact ⟨_, int_u8 hw⟩
theorem open_u32 {r : Reach} {b0 : Nat} {t : TypeId} {v : Value} {d : DataW H} {ps : List MemPlace} (ht : P.underlying t = some (.int .u32)) (hval : Value.okWide P w r b0 t v) (hd : DataW.Trod enc P w base spare held t v d ps) : ∃ c : BitVec 32, v = U32 c := by
  obtain ⟨n, rfl, _, _, hw⟩ := open_int ht hval hd
  exact ⟨_, int_u32 hw⟩
theorem open_u64 {r : Reach} {b0 : Nat} {t : TypeId} {v : Value} {d : DataW H} {ps : List MemPlace} (ht : P.underlying t = some (.int .u64)) (hval : Value.okWide P w r b0 t v) (hd : DataW.Trod enc P w base spare held t v d ps) : ∃ c : BitVec 64, v = U64 c := by
  obtain ⟨n, rfl, _, _, hw⟩ := open_int ht hval hd
  exact ⟨_, int_u64 hw⟩
theorem open_i64 {r : Reach} {b0 : Nat} {t : TypeId} {v : Value} {d : DataW H} {ps : List MemPlace} (ht : P.underlying t = some (.int .i64)) (hval : Value.okWide P w r b0 t v) (hd : DataW.Trod enc P w base spare held t v d ps) :
    ∃ n : Int, v = .int .i64 n ∧ (Lit.int .i64 n).wf = true := by
  obtain ⟨n, rfl, _, _, hw⟩ := open_int ht hval hd
  exact ⟨n, rfl, hw⟩
end
end Go.Proofs.Ytcekjmejppemeaa
/- Abstract data: the given arguments of a law as rows; a law's answer told of the machine. -/
namespace Go.Proofs.Ytcekjmejppemeaa
open Go.ChangeShapes Go.WideShapes Go.ChangeAt Go.RowKit
/-- A slice of bytes that may be looked at, with the place that it has. -/
def SlR (w : World) (v : Value) (l : List (BitVec 8)) : Prop :=
  ∃ a cap, v = .slice a l.length cap ∧ l.length ≤ cap ∧ cap ≤ maxLen ∧ (cap = 0 ∨ ∃ b off cs t fr, a = some ⟨b, off, none⟩ ∧ w.heap[b]? = some (.cells cs t fr) ∧ ∀ i, i < l.length → cs[off + i]? = some (U8 (nth l i)))
section
variable {H : Type} {enc : TypeId × Value → H} {P : Program} {w : World} {base : Nat} {held : Bool}
theorem open_slR {r : Reach} {b0 : Nat} {t e : TypeId} {v : Value} {d : DataW H} {ps : List MemPlace} (ht : P.underlying t = some (.slice e)) (he : P.underlying e = some (.int .u8)) (hc : P.cellsOf e = 1)
    (hval : Value.okWide P w r b0 t v) (hd : DataW.Trod enc P w base (fun _ => true) held t v d ps) : ∃ l : List (BitVec 8), SlR w v l := by
  obtain ⟨a0, len0, cap0, rfl⟩ := okWide_slice ht hval
  obtain ⟨fuel, hf⟩ := hd
  rcases open_ints ht he hc hf with ⟨hcs, _⟩ | ⟨x, len, c, zs, hcs, _, hl, hm, hz, _, hcell, hwz⟩
  · simp [Value.cells] at hcs
    obtain ⟨rfl, rfl, rfl⟩ := hcs
    exact ⟨[], none, 0, rfl, Nat.le_refl _, by unfold maxLen; omega, .inl rfl⟩
  · simp [Value.cells] at hcs
    obtain ⟨rfl, rfl, rfl⟩ := hcs
    rw [if_pos rfl] at hz
    have hlen : ((zs.take len0).map (BitVec.ofInt 8)).length = len0 := by simp; omega
    refine ⟨(zs.take len0).map (BitVec.ofInt 8), some x, cap0, by rw [hlen], by rw [hlen]; exact hl, hm, ?_⟩
    rcases Nat.eq_zero_or_pos cap0 with h0 | h0
    · exact .inl h0
    · right
      obtain ⟨b, off, spot⟩ := x
      have hspot : spot = none := by
        have h1 := hcell 0 (by omega)
        simpa [Addr.add] using World.cell?_spot h1
      subst hspot
      have at_ : ∀ i, i < cap0 → w.cell? ⟨b, off + i, none⟩ = some (.int .u8 (zs.getD i 0)) := fun i hi => by
        have h1 := hcell i (by omega)
        rwa [show (⟨b, off, none⟩ : Addr).add i = ⟨b, off + i, none⟩ from addr_mid b off i] at h1
      have h1 := at_ 0 h0
      unfold World.cell? at h1
      split at h1
      · rename_i cs t fr hh
        refine ⟨b, off, cs, t, fr, rfl, hh, fun i hi => ?_⟩
        rw [hlen] at hi
        have h2 := at_ i (by omega)
        unfold World.cell? at h2
        simp only [hh] at h2
        rw [show cs[off + i]? = some (.int .u8 (zs.getD i 0)) by simpa using h2, int_u8 (hwz _ (by rw [List.getD_eq_getElem?_getD, List.getElem?_eq_getElem (by omega)]; exact List.getElem_mem _))]
        congr 2
        rw [nth_eq _ _ (by rw [hlen]; exact hi)]
        have hi2 : i < zs.length := by omega
        simp [hi2]
      · cases h1
end
def locOf : Value → Option Loc
  | .slice (some a) _ cap => if cap = 0 then none else some ⟨a.block, a.off, cap⟩
  | _ => none
def openEmb (us : List (Value × List (BitVec 8))) : Emb := fun i => (us[i]?).bind fun p => locOf p.1
def openMem (us : List (Value × List (BitVec 8))) : Mem := us.map fun p => .row false (.a8 p.2)
theorem open_R {us : List (Value × List (BitVec 8))} {w : World} (h : ∀ p ∈ us, SlR w p.1 p.2) : R (openEmb us) (openMem us) w := by
  have row : ∀ {b : Nat} {own : Bool} {x : Arr}, (openMem us)[b]? = some (.row own x) → ∃ p, us[b]? = some p ∧ own = false ∧ x = .a8 p.2 := fun {b own x} hb => by
    unfold openMem at hb
    rw [List.getElem?_map] at hb
    obtain ⟨p, hp, e⟩ := Option.map_eq_some_iff.1 hb
    cases e
    exact ⟨p, hp, rfl, rfl⟩
  refine ⟨fun b hb => ?_, fun b l own x h1 h2 => ?_, fun b b' l l' own own' x x' _ _ _ k1 k2 ho => ?_⟩
  · unfold openEmb
    rw [List.getElem?_eq_none (by simpa [openMem] using hb)]; rfl
  · obtain ⟨p, hp, rfl, rfl⟩ := row h2
    obtain ⟨a, cap, hv, hl, _, hs⟩ := h p (List.mem_of_getElem? hp)
    unfold openEmb at h1
    rw [hp] at h1
    simp only [Option.bind_some, hv] at h1
    cases a with
    | none => cases h1
    | some a =>
      simp only [locOf] at h1
      split at h1
      · cases h1
      · rename_i hc
        cases h1
        rcases hs with hs | ⟨b1, off, cs, t, fr, ha, hh, hcell⟩
        · exact absurd hs hc
        · cases ha
          exact ⟨cs, t, fr, hh, hl, fun i hi => ⟨_, hcell i hi, rfl⟩, fun h => by cases h⟩
  · obtain ⟨_, _, rfl, _⟩ := row k1
    obtain ⟨_, _, rfl, _⟩ := row k2
    rcases ho with h | h <;> cases h
theorem open_rel {us : List (Value × List (BitVec 8))} {w : World} {i : Nat} {u : Value} {l : List (BitVec 8)} (hi : us[i]? = some (u, l)) (h : SlR w u l) : (AV.c (.sl i 0 l.length l.length 1)).rel (openEmb us) u := by
  obtain ⟨a, cap, rfl, hl, _, hs⟩ := h
  refine ⟨a, cap, rfl, hl, hl, ?_⟩
  rcases hs with hs | ⟨b1, off, cs, t, fr, rfl, hh, hcell⟩
  · exact .inl hs
  · by_cases hc : cap = 0
    · exact .inl hc
    · refine .inr ⟨⟨b1, off, cap⟩, ?_, rfl, by simp⟩
      unfold openEmb
      rw [hi]
      simp [locOf, hc]
theorem rel_bytes (ι : Emb) (l : List (BitVec 8)) : (AV.agg (.a8 l)).rel ι (.agg (cells U8 l)) := by
  refine ⟨cells U8 l, rfl, by simp [cells, Arr.size], fun i hi => ⟨U8 (nth l i), ?_, rfl⟩⟩
  have hi' : i < l.length := hi
  rw [Nat.zero_add, nth_eq l i hi']
  simp [cells, hi']
/-- A law's answer. -/
theorem law_calls {P : Program} {f : FuncId} {args : List AV} {m m' : Mem} {ι : Emb} {w : World} {vs : Array Value} (h : Ev P (.call f args m) (.val (.c (.val (.bool true))) m')) (hR : R ι m w) (ha : ArgsRel ι args vs.toList) (hro : ∀ c, ¬ Owned ι m c) :
    Calls P f vs w fun e w' => e = .returned (.bool true) ∧ Below w.heap.size w w' := by
  refine (sound h ι w vs hR ha).mono fun e w' hq => ?_
  obtain ⟨u, ι', rfl, hv, hs⟩ := hq
  have hu : u = .bool true := hv
  subst hu
  exact ⟨rfl, hs.trans.os, hs.trans.tape, hs.trans.output, hs.trans.size, fun c hc => hs.trans.keep c hc (hro c)⟩
theorem open_none {us : List (Value × List (BitVec 8))} {c : Nat} : ¬ Owned (openEmb us) (openMem us) c := by
  rintro ⟨b, l, x, _, h, _⟩
  unfold openMem at h
  rw [List.getElem?_map] at h
  obtain ⟨p, _, e⟩ := Option.map_eq_some_iff.1 h
  cases e
end Go.Proofs.Ytcekjmejppemeaa
