/- The texts RfMult, CvEqP, FRfRoot, RfDec, RfBaseG, RfBase, RfApi, RfSame8, CvSmall, CvWakes, CvExT, CvExF, CvExN, CvEx, Slice, Open, AvOpen, CvProd, CvScal, CvShift, CvShift2, CvSh, CvRed, CvMod, CvNum, CvNumS, CvL, RfModL, merged into one. -/
import Derived.Test.YtcekjmejppemeaaCX5
import Derived.Laws.AppendOwnNone
import Derived.Deep.RegionLaw
import Derived.WalkKit
import Derived.ProofKit
import Derived.OpenShut
import Derived.ShutString
import Derived.ChangeOld
import Derived.Below
/- trystref06.multiple (Drawn up by a program.) -/
namespace Go.Proofs.Ytcekjmejppemeaa
open Go.RowKit
def rfMlt_L4_S (n : List (BitVec 64)) (p : List (BitVec 64)) (X3 : List (BitVec 64)) (j4 : Nat) : List (BitVec 64) := (if ((((nth n ((255 - j4) / 64)) >>> (BitVec.ofNat 64 ((255 - j4) % 64)).toNat) &&& 1#64) == 1#64) = true then rfPlus (rfPlus X3 X3 rfD) p rfD else rfPlus X3 X3 rfD)
def rfMlt_L4 (n : List (BitVec 64)) (p : List (BitVec 64)) : Nat → List (BitVec 64)
  | 0 => rfZero
  | j4 + 1 => rfMlt_L4_S n p (rfMlt_L4 n p j4) j4
theorem rfMlt_L4_len (n : List (BitVec 64)) (p : List (BitVec 64)) (_hn : n.length = 4) (hp : p.length = 16) (j4 : Nat) : (rfMlt_L4 n p j4).length = 16 := by
  induction j4 with
  | zero => first | (simp (maxDischargeDepth := 9) [rfMlt_L4, *]; done) | (simp (maxDischargeDepth := 9) [rfMlt_L4, *]; omega)
  | succ j4 ih => rw [rfMlt_L4.eq_2, rfMlt_L4_S]; first | (simp (maxDischargeDepth := 9) []; done) | (simp (maxDischargeDepth := 9) []; omega) | (simp (maxDischargeDepth := 9) [*]; done) | (simp (maxDischargeDepth := 9) [*]; omega) | (split <;> first | (simp (maxDischargeDepth := 9) [ih]; done) | (simp (maxDischargeDepth := 9) [ih]; omega) | (simp (maxDischargeDepth := 9) [*]; done))
def rfMlt (n : List (BitVec 64)) (p : List (BitVec 64)) : List (BitVec 64) := (rfMlt_L4 n p 256)
set_option maxRecDepth 100000 in
set_option maxHeartbeats 2000000 in
theorem rfMlt_ev (n : List (BitVec 64)) (p : List (BitVec 64)) (hn : n.length = 4) (hp : p.length = 16) : Ev Try.prog (.call 61 [.agg (.a64 (n)), .agg (.a64 (p))] []) (.val (.agg (.a64 (rfMlt n p))) []) := by
  have hP : Hid (rfMlt n p = (rfMlt_L4 n p 256)) := ⟨rfl⟩
  refine c_call Try.func61 rfl Try.ntmps61 rfl LEN_ ?_
  refine S_ ?_
  refine c_region ?_
  refine s_memN (m_box BX_ LEN_) APP_ rfl ?_
  refine s_memN (m_box BX_ LEN_) APP_ rfl ?_
  refine s_memN (m_alloc al_42 LEN_) APP_ rfl ?_
  refine s_nil ?_
  have hQ1 : (rfD).length = 4 := LQ_
  refine S_ ?_
  refine c_region ?_
  refine s_evN (e_callR (bs := []) (rfD_ev) ok_58 (by kernel_rfl) (by kernel_rfl) rfl VAL_) APP_ rfl ?_
  refine s_memN (m_alloc al_38 LEN_) APP_ rfl ?_
  refine s_storeR rfl rfl rfl rfl sz_38 EQ_ EQ_ SET_ ?_
  refine s_nil ?_
  have hQ2 : (rfZero).length = 16 := LQ_
  refine S_ ?_
  refine c_region ?_
  refine s_evN (e_callR (bs := []) (rfZero_ev) ok_85 (by kernel_rfl) (by kernel_rfl) rfl VAL_) APP_ rfl ?_
  refine s_memN (m_alloc al_42 LEN_) APP_ rfl ?_
  refine s_storeR rfl rfl rfl rfl sz_42 EQ_ EQ_ SET_ ?_
  refine s_nil ?_
  refine S_ ?_
  refine c_region ?_
  refine s_val (v_assignC rfl) rfl ?_
  refine s_nil ?_
  refine S_ ?_
  refine c_loopC [2, 3, 4, 5, 6, 7] (fun (zz : Nat × List (BitVec 64)) => ⟨33, keepT [2, 3, 4, 5, 6, 7] [.c (.ptr 0 0), .c (.ptr 1 0), .c (.ptr 2 0), .c (.ptr 3 0), .c (.ptr 4 0), .c (.val (.int .i64 (((255 : Nat) : Int) - ((zz.1 : Nat) : Int))))], [.row true (.a64 (n)), .row true (.a64 (p)), .row true (.a64 (zer64 16)), .row true (.a64 (rfD)), .row true (.a64 (zz.2))]⟩) (fun j4 => (j4, rfMlt_L4 n p j4)) (256) (by kernel_rfl) ?_ ?_
  · intro j4 hj4
    try dsimp only
    have hX3 : (rfMlt_L4 n p j4).length = 16 := by rw [rfMlt_L4_len n p hn hp _]; try omega
    rw [rfMlt_L4.eq_2, rfMlt_L4_S]
    generalize rfMlt_L4 n p j4 = X3 at *
    rw [show ((255 : Nat) : Int) - ((j4 : Nat) : Int) = ((255 - j4 : Nat) : Int) from by omega]
    refine S_ ?_
    refine c_region ?_
    refine s_val (v_moveC rfl) rfl ?_
    refine s_val (v_geqN (b := 0) rfl rfl) rfl ?_
    refine s_nil ?_
    have hQ4 : (rfPlus X3 X3 rfD).length = 16 := LQ_
    refine S_ ?_
    refine c_region ?_
    refine s_val (v_loadR rfl rfl row_42 sz_42 EQ_ (by decide)) rfl ?_
    refine s_val (v_loadR rfl rfl row_42 sz_42 EQ_ (by decide)) rfl ?_
    refine s_val (v_loadR rfl rfl row_38 sz_38 EQ_ (by decide)) rfl ?_
    refine s_evN (e_callR (bs := []) (rfPlus_ev X3 X3 rfD HYP_ HYP_ HYP_) ok_60 (by kernel_rfl) (by kernel_rfl) rfl VAL_) APP_ rfl ?_
    refine s_storeR rfl rfl rfl rfl sz_42 EQ_ EQ_ SET_ ?_
    refine s_nil ?_
    refine S_ ?_
    refine c_region ?_
    refine s_val (v_moveC rfl) rfl ?_
    refine s_val (v_quoN (b := 64) rfl rfl (by omega) (by omega)) rfl ?_
    refine s_val (v_idxA1 rfl rfl Try.underlying38 sz_29 (by omega)) rfl ?_
    refine s_val (v_load64 rfl rfl row_29 LT_) rfl ?_
    refine s_val (v_moveC rfl) rfl ?_
    refine s_val (v_remN (b := 64) rfl rfl (by omega) (by omega)) rfl ?_
    refine s_val (v_conv rfl Try.underlying3 Try.underlying51 (wi_64 _)) rfl ?_
    refine s_val (v_shr64w rfl rfl) rfl ?_
    refine s_val (v_and64 (b := 1#64) rfl rfl) rfl ?_
    refine s_val (v_eql64 (b := 1#64) rfl rfl) rfl ?_
    refine s_nil ?_
    refine Q_ ?_
    refine c_join [2, 3, 4, 5, 6, 7] (fun (zz : List (BitVec 64)) => ⟨33, keepT [2, 3, 4, 5, 6, 7] [.c (.ptr 0 0), .c (.ptr 1 0), .c (.ptr 2 0), .c (.ptr 3 0), .c (.ptr 4 0), .c (.val (.int .i64 (((255 - j4 : Nat) : Int))))], [.row true (.a64 (n)), .row true (.a64 (p)), .row true (.a64 (zer64 16)), .row true (.a64 (rfD)), .row true (.a64 (zz))]⟩) (if ((((nth n ((255 - j4) / 64)) >>> (BitVec.ofNat 64 ((255 - j4) % 64)).toNat) &&& 1#64) == 1#64) = true then rfPlus (rfPlus X3 X3 rfD) p rfD else rfPlus X3 X3 rfD) rfl (fun hb => ?_) (fun hb => ?_) ?_
    · -- the test is True
      have hQ6 : (rfPlus (rfPlus X3 X3 rfD) p rfD).length = 16 := LQ_
      refine S_ ?_
      refine c_region ?_
      refine s_val (v_loadR rfl rfl row_42 sz_42 EQ_ (by decide)) rfl ?_
      refine s_val (v_loadR rfl rfl row_42 sz_42 EQ_ (by decide)) rfl ?_
      refine s_val (v_loadR rfl rfl row_38 sz_38 EQ_ (by decide)) rfl ?_
      refine s_evN (e_callR (bs := []) (rfPlus_ev (rfPlus X3 X3 rfD) p rfD HYP_ HYP_ HYP_) ok_60 (by kernel_rfl) (by kernel_rfl) rfl VAL_) APP_ rfl ?_
      refine s_storeR rfl rfl rfl rfl sz_42 EQ_ EQ_ SET_ ?_
      refine s_nil ?_
      refine S_ ?_
      refine ⟨(rfPlus (rfPlus X3 X3 rfD) p rfD), by kernel_rfl, ?_⟩
      rw [if_pos (hb)]
    · -- the test is False
      refine S_ ?_
      refine ⟨(rfPlus X3 X3 rfD), by kernel_rfl, ?_⟩
      rw [if_neg (by first | (rw [hb]; decide) | simp [hb])]
    have hJ5 : (if ((((nth n ((255 - j4) / 64)) >>> (BitVec.ofNat 64 ((255 - j4) % 64)).toNat) &&& 1#64) == 1#64) = true then rfPlus (rfPlus X3 X3 rfD) p rfD else rfPlus X3 X3 rfD).length = 16 := by split <;> simp [*]
    generalize (if ((((nth n ((255 - j4) / 64)) >>> (BitVec.ofNat 64 ((255 - j4) % 64)).toNat) &&& 1#64) == 1#64) = true then rfPlus (rfPlus X3 X3 rfD) p rfD else rfPlus X3 X3 rfD) = J5 at *
    refine S_ ?_
    refine c_region ?_
    refine s_val (v_moveC rfl) rfl ?_
    first
      | refine s_val (v_subN (b := 1) rfl rfl (by omega) (by omega)) rfl ?_
      | refine s_val (v_subI rfl rfl (by omega)) rfl ?_
    refine s_val (v_assignC rfl) rfl ?_
    refine s_nil ?_
    refine ⟨(j4 + 1, _), (by
      dsimp only
      rw [show ((255 : Nat) : Int) - ((j4 + 1 : Nat) : Int) = ((255 - j4 : Nat) : Int) - 1 from by omega]
      kernel_rfl), rfl⟩
  · try dsimp only
    have hY7 : (rfMlt_L4 n p 256).length = 16 := by rw [rfMlt_L4_len n p hn hp _]; try omega
    generalize rfMlt_L4 n p 256 = Y7 at *
    refine S_ ?_
    refine c_region ?_
    refine s_val (v_moveC rfl) rfl ?_
    refine s_val (v_geqI rfl rfl) rfl ?_
    refine s_nil ?_
    refine S_ ?_
    refine c_region ?_
    refine s_val (v_loadR rfl rfl row_42 sz_42 EQ_ (by decide)) rfl ?_
    refine s_storeR rfl rfl rfl rfl sz_42 EQ_ EQ_ SET_ ?_
    refine s_nil ?_
    refine S_ ?_
    rw [hP.out]
    exact k_1 (r_row rfl rfl row_42 sz_42 EQ_ (by decide)) (by first | kernel_rfl | rfl)

@[simp] theorem rfMlt_len (n : List (BitVec 64)) (p : List (BitVec 64)) (hn : n.length = 4) (hp : p.length = 16) : (rfMlt n p).length = 16 := by
  unfold rfMlt
  first | (simp (maxDischargeDepth := 9) [rfMlt_L4_len, *]; done) | (simp (maxDischargeDepth := 9) [rfMlt_L4_len, *]; omega) | (split <;> (simp (maxDischargeDepth := 9) [rfMlt_L4_len, *]; done))

attribute [irreducible] rfMlt
end Go.Proofs.Ytcekjmejppemeaa
/- Whether bytes are a point, by field's functions. (Drawn up by a program.) -/
namespace Go.Proofs.Ytcekjmejppemeaa
open Go.RowKit
/-- y, without the sign; x x. -/
def eqY (b : List (BitVec 8)) : List (BitVec 8) := put b 31 ((nth b 31) &&& 127#8)
theorem eqY_Z {b : List (BitVec 8)} (hb : b.length = 32) : Z (eqY b) = zf (lowN b) := by
  unfold Z eqY lowN
  rw [top_and hb]
theorem eqC {b : List (BitVec 8)} (hb : b.length = 32) {r : Bool} (h : unC b = r) : decide (fMod (eqY b) = eqY b) = r := by
  rw [← h, unCd hb]
  unfold fMod
  rw [eqY_Z hb]
  unfold eqY
  rw [put_low hb]
  exact decide_eq_decide.2 (F_low (lowN_lt b))
def eqX (b : List (BitVec 8)) : List (BitVec 8) := fMul (fSub (fMul (eqY b) (eqY b)) (fSmall 1#64)) (fInv (fAdd (fMul (fMul (fSub (fSmall 0#64) (fSmall 121665#64)) (fInv (fSmall 121666#64))) (fMul (eqY b) (eqY b))) (fSmall 1#64)))
theorem d_quot : ((0 : Fp) - zf (121665#64 : BitVec 64).toNat) * invF (zf (121666#64 : BitVec 64).toNat) = dF := by
  have h1 : zf (121665#64 : BitVec 64).toNat = zf 121665 := rfl
  have h2 : zf (121666#64 : BitVec 64).toNat = zf 121666 := rfl
  have h3 := inv_mulF (u := zf 121666) (by decide +kernel)
  have h4 := dF_eq
  rw [h1, h2]
  generalize zf 121665 = x at *
  generalize zf 121666 = y at *
  generalize invF y = i at *
  generalize dF = d at *
  clear h1 h2
  grobner
theorem eqX_Z {b : List (BitVec 8)} (hb : b.length = 32) : Z (eqX b) = xxOf (zf (lowN b)) := by
  unfold eqX fMul fSub fInv fAdd fSmall
  simp only [Z_F]
  rw [zs0, d_quot, eqY_Z hb, zs1]
  rfl
theorem eqR {b : List (BitVec 8)} (hb : b.length = 32) {r : Bool} (h : unIs b = r) : fRootIs (eqX b) = r := by
  rw [← h, unIs_eq hb]
  unfold fRootIs
  rw [eqX_Z hb]
theorem evenZ {u : Fp} (e : (0 : Fp) = -u) : u = 0 := by grobner
theorem eqZ {b : List (BitVec 8)} (hb : b.length = 32) (h1 : unIs b = true) {r : Bool} (h : unZ b = r) : decide (fRoot (eqX b) = fSmall 0#64) = r := by
  rw [← h, unZ_eq hb]
  rw [unIs_eq hb] at h1
  unfold fRoot fSmall
  rw [eqX_Z hb, if_pos (of_decide_eq_true h1)]
  refine decide_eq_decide.2 ?_
  rw [F_inj, zs0]
  refine ⟨fun e => ?_, fun e => ?_⟩
  · rcases evenF_or (rootF (xxOf (zf (lowN b)))) with g | g
    · rw [← g, e]
    · rw [e] at g
      exact evenZ g
  · rw [e]
    decide +kernel
theorem eqO (b : List (BitVec 8)) {r : Bool} (h : unO b = r) : decide ((128#8).toNat ≤ (nth b 31).toNat) = r := by
  rw [← h]
  unfold unO
  rw [shr7]
  rfl
end Go.Proofs.Ytcekjmejppemeaa
/- trystref06.Root, trystref06.Root, trystref06.Root (Drawn up by a program.) -/
namespace Go.Proofs.Ytcekjmejppemeaa
open Go.RowKit
def rfRootA0 (a : List (BitVec 64)) : List (BitVec 64) := (if (((nth (wPow (wMod a) (rfHalf (rfHalf (rfHalf (rfadd0 rfP (put (zer64 4) 0 3#64)))))) 0) &&& 1#64) == 1#64) = true then wSub (zer64 4) (wPow (wMod a) (rfHalf (rfHalf (rfHalf (rfadd0 rfP (put (zer64 4) 0 3#64)))))) else wPow (wMod a) (rfHalf (rfHalf (rfHalf (rfadd0 rfP (put (zer64 4) 0 3#64))))))
set_option maxRecDepth 100000 in
set_option maxHeartbeats 2000000 in
theorem rfRootA_ev (a : List (BitVec 64)) (ha : a.length = 4) (hx : ZW a ^ eRoot * ZW a ^ eRoot = ZW a) : Ev Try.prog (.call 54 [.agg (.a64 (a))] []) (.val (.tup [.agg (.a64 (rfRootA0 a)), .c (.val (.bool (true)))]) []) := by
  have hP_rfRootA0 : Hid (rfRootA0 a = (if (((nth (wPow (wMod a) (rfHalf (rfHalf (rfHalf (rfadd0 rfP (put (zer64 4) 0 3#64)))))) 0) &&& 1#64) == 1#64) = true then wSub (zer64 4) (wPow (wMod a) (rfHalf (rfHalf (rfHalf (rfadd0 rfP (put (zer64 4) 0 3#64)))))) else wPow (wMod a) (rfHalf (rfHalf (rfHalf (rfadd0 rfP (put (zer64 4) 0 3#64))))))) := ⟨rfl⟩
  refine c_call Try.func54 rfl Try.ntmps54 rfl LEN_ ?_
  refine S_ ?_
  refine c_region ?_
  refine s_memN (m_box BX_ LEN_) APP_ rfl ?_
  refine s_memN (m_alloc al_38 LEN_) APP_ rfl ?_
  refine s_val (v_assignC rfl) rfl ?_
  refine s_nil ?_
  have hQ1 : (wMod a).length = 4 := LQ_
  refine S_ ?_
  refine c_region ?_
  refine s_val (v_loadR rfl rfl row_38 sz_38 EQ_ (by decide)) rfl ?_
  refine s_evN (e_callR (bs := []) (wMod_ev a HYP_) ok_82 (by kernel_rfl) (by kernel_rfl) rfl VAL_) APP_ rfl ?_
  refine s_storeR rfl rfl rfl rfl sz_38 EQ_ EQ_ SET_ ?_
  refine s_nil ?_
  have hQ2 : (rfP).length = 4 := LQ_
  have hQ3 : (rfadd0 rfP (put (zer64 4) 0 3#64)).length = 4 := LQ_
  refine S_ ?_
  refine c_region ?_
  refine s_evN (e_callR (bs := []) (rfP_ev) ok_52 (by kernel_rfl) (by kernel_rfl) rfl VAL_) APP_ rfl ?_
  refine s_val (v_blf64 (l := (put (zer64 4) 0 (3#64))) za_38 Try.underlying38 sz_29 rfl rfl) rfl ?_
  refine s_evN (e_callR (bs := []) (rfadd_ev rfP (put (zer64 4) 0 3#64) HYP_ HYP_) ok_81 (by kernel_rfl) (by kernel_rfl) rfl VAL_) APP_ rfl ?_
  refine s_val (v_moveT rfl) rfl ?_
  refine s_val (v_extract rfl rfl) rfl ?_
  refine s_val (v_extract rfl rfl) rfl ?_
  refine s_memN (m_alloc al_38 LEN_) APP_ rfl ?_
  refine s_storeR rfl rfl rfl rfl sz_38 EQ_ EQ_ SET_ ?_
  refine s_val (v_assignC rfl) rfl ?_
  refine s_nil ?_
  have hQ4 : (rfHalf (rfadd0 rfP (put (zer64 4) 0 3#64))).length = 4 := LQ_
  have hQ5 : (rfHalf (rfHalf (rfadd0 rfP (put (zer64 4) 0 3#64)))).length = 4 := LQ_
  have hQ6 : (rfHalf (rfHalf (rfHalf (rfadd0 rfP (put (zer64 4) 0 3#64))))).length = 4 := LQ_
  have hQ7 : (wPow (wMod a) (rfHalf (rfHalf (rfHalf (rfadd0 rfP (put (zer64 4) 0 3#64)))))).length = 4 := LQ_
  refine S_ ?_
  refine c_draw 7 mixed (by kernel_rfl) rfl rfl rfl ?_
  refine h_val (v_loadR rfl rfl row_38 sz_38 EQ_ (by decide)) rfl ?_
  refine h_val (v_loadR rfl rfl row_38 sz_38 EQ_ (by decide)) rfl ?_
  refine h_evN (e_callR (bs := []) (rfHalf_ev (rfadd0 rfP (put (zer64 4) 0 3#64)) HYP_) ok_84 (by kernel_rfl) (by kernel_rfl) rfl VAL_) APP_ rfl ?_
  refine h_evN (e_callR (bs := []) (rfHalf_ev (rfHalf (rfadd0 rfP (put (zer64 4) 0 3#64))) HYP_) ok_84 (by kernel_rfl) (by kernel_rfl) rfl VAL_) APP_ rfl ?_
  refine h_evN (e_callR (bs := []) (rfHalf_ev (rfHalf (rfHalf (rfadd0 rfP (put (zer64 4) 0 3#64)))) HYP_) ok_84 (by kernel_rfl) (by kernel_rfl) rfl VAL_) APP_ rfl ?_
  refine h_evN (e_callR (bs := []) (wPow_ev (wMod a) (rfHalf (rfHalf (rfHalf (rfadd0 rfP (put (zer64 4) 0 3#64))))) HYP_ HYP_) ok_83 (by kernel_rfl) (by kernel_rfl) rfl VAL_) APP_ rfl ?_
  refine h_memN (m_alloc al_38 LEN_) APP_ rfl ?_
  refine h_nil ?_
  refine s_storeR rfl rfl rfl rfl sz_38 EQ_ EQ_ SET_ ?_
  refine s_nil ?_
  have hQ8 : (wMul (wPow (wMod a) (rfHalf (rfHalf (rfHalf (rfadd0 rfP (put (zer64 4) 0 3#64)))))) (wPow (wMod a) (rfHalf (rfHalf (rfHalf (rfadd0 rfP (put (zer64 4) 0 3#64))))))).length = 4 := LQ_
  refine S_ ?_
  refine c_draw 5 mixed (by kernel_rfl) rfl rfl rfl ?_
  refine h_val (v_loadR rfl rfl row_38 sz_38 EQ_ (by decide)) rfl ?_
  refine h_val (v_loadR rfl rfl row_38 sz_38 EQ_ (by decide)) rfl ?_
  refine h_evN (e_callR (bs := []) (wMul_ev (wPow (wMod a) (rfHalf (rfHalf (rfHalf (rfadd0 rfP (put (zer64 4) 0 3#64)))))) (wPow (wMod a) (rfHalf (rfHalf (rfHalf (rfadd0 rfP (put (zer64 4) 0 3#64)))))) HYP_ HYP_) ok_53 (by kernel_rfl) (by kernel_rfl) rfl VAL_) APP_ rfl ?_
  refine h_val (v_loadR rfl rfl row_38 sz_38 EQ_ (by decide)) rfl ?_
  refine h_val (v_neqR64 rfl rfl Try.underlying38 Try.underlying29 sz_29 EQ_ EQ_) rfl ?_
  refine h_nil ?_
  refine s_nil ?_
  refine Q_ ?_
  refine c_condF rfl (by rw [decide_eq_true (by have h := (sq_test a _).2 hx; rw [← R0_W] at h; unfold R0 at h; exact h)]; rfl) ?_
  have hQ9 : (wMul (wPow (wMod a) (rfHalf (rfHalf (rfHalf (rfadd0 rfP (put (zer64 4) 0 3#64)))))) (wPow (wMod a) (rfHalf (rfHalf (rfHalf (rfadd0 rfP (put (zer64 4) 0 3#64))))))).length = 4 := LQ_
  refine S_ ?_
  refine c_draw 5 mixed (by kernel_rfl) rfl rfl rfl ?_
  refine h_val (v_loadR rfl rfl row_38 sz_38 EQ_ (by decide)) rfl ?_
  refine h_val (v_loadR rfl rfl row_38 sz_38 EQ_ (by decide)) rfl ?_
  refine h_evN (e_callR (bs := []) (wMul_ev (wPow (wMod a) (rfHalf (rfHalf (rfHalf (rfadd0 rfP (put (zer64 4) 0 3#64)))))) (wPow (wMod a) (rfHalf (rfHalf (rfHalf (rfadd0 rfP (put (zer64 4) 0 3#64)))))) HYP_ HYP_) ok_53 (by kernel_rfl) (by kernel_rfl) rfl VAL_) APP_ rfl ?_
  refine h_val (v_loadR rfl rfl row_38 sz_38 EQ_ (by decide)) rfl ?_
  refine h_val (v_neqR64 rfl rfl Try.underlying38 Try.underlying29 sz_29 EQ_ EQ_) rfl ?_
  refine h_nil ?_
  refine s_nil ?_
  refine Q_ ?_
  refine c_condF rfl (by rw [decide_eq_true (by have h := (sq_test a _).2 hx; rw [← R0_W] at h; unfold R0 at h; exact h)]; rfl) ?_
  refine S_ ?_
  refine c_region ?_
  refine s_val (v_idxA1 (j := 0) rfl rfl Try.underlying38 sz_29 (by omega)) rfl ?_
  refine s_val (v_load64 rfl rfl row_29 LT_) rfl ?_
  refine s_val (v_and64 (b := 1#64) rfl rfl) rfl ?_
  refine s_val (v_eql64 (b := 1#64) rfl rfl) rfl ?_
  refine s_nil ?_
  refine Q_ ?_
  refine c_join [2, 6] (fun (zz : List (BitVec 64)) => ⟨55, keepT [2, 6] [.c (.ptr 0 0), .c (.ptr 1 0)], [.row true (.a64 (zer64 4)), .row true (.a64 (zz))]⟩) (if (((nth (wPow (wMod a) (rfHalf (rfHalf (rfHalf (rfadd0 rfP (put (zer64 4) 0 3#64)))))) 0) &&& 1#64) == 1#64) = true then wSub (zer64 4) (wPow (wMod a) (rfHalf (rfHalf (rfHalf (rfadd0 rfP (put (zer64 4) 0 3#64)))))) else wPow (wMod a) (rfHalf (rfHalf (rfHalf (rfadd0 rfP (put (zer64 4) 0 3#64)))))) rfl (fun hb => ?_) (fun hb => ?_) ?_
  · -- the test is True
    have hQ11 : (wSub (zer64 4) (wPow (wMod a) (rfHalf (rfHalf (rfHalf (rfadd0 rfP (put (zer64 4) 0 3#64))))))).length = 4 := LQ_
    refine S_ ?_
    refine c_region ?_
    refine s_val (v_blf64 (l := (zer64 4)) za_38 Try.underlying38 sz_29 rfl rfl) rfl ?_
    refine s_val (v_loadR rfl rfl row_38 sz_38 EQ_ (by decide)) rfl ?_
    refine s_evN (e_callR (bs := []) (wSub_ev (zer64 4) (wPow (wMod a) (rfHalf (rfHalf (rfHalf (rfadd0 rfP (put (zer64 4) 0 3#64)))))) HYP_ HYP_) ok_55 (by kernel_rfl) (by kernel_rfl) rfl VAL_) APP_ rfl ?_
    refine s_storeR rfl rfl rfl rfl sz_38 EQ_ EQ_ SET_ ?_
    refine s_nil ?_
    refine S_ ?_
    refine ⟨(wSub (zer64 4) (wPow (wMod a) (rfHalf (rfHalf (rfHalf (rfadd0 rfP (put (zer64 4) 0 3#64))))))), by kernel_rfl, ?_⟩
    rw [if_pos (hb)]
  · -- the test is False
    refine S_ ?_
    refine ⟨(wPow (wMod a) (rfHalf (rfHalf (rfHalf (rfadd0 rfP (put (zer64 4) 0 3#64)))))), by kernel_rfl, ?_⟩
    rw [if_neg (by first | (rw [hb]; decide) | simp [hb])]
  have hJ10 : (if (((nth (wPow (wMod a) (rfHalf (rfHalf (rfHalf (rfadd0 rfP (put (zer64 4) 0 3#64)))))) 0) &&& 1#64) == 1#64) = true then wSub (zer64 4) (wPow (wMod a) (rfHalf (rfHalf (rfHalf (rfadd0 rfP (put (zer64 4) 0 3#64)))))) else wPow (wMod a) (rfHalf (rfHalf (rfHalf (rfadd0 rfP (put (zer64 4) 0 3#64)))))).length = 4 := by split <;> simp [*]
  generalize (if (((nth (wPow (wMod a) (rfHalf (rfHalf (rfHalf (rfadd0 rfP (put (zer64 4) 0 3#64)))))) 0) &&& 1#64) == 1#64) = true then wSub (zer64 4) (wPow (wMod a) (rfHalf (rfHalf (rfHalf (rfadd0 rfP (put (zer64 4) 0 3#64)))))) else wPow (wMod a) (rfHalf (rfHalf (rfHalf (rfadd0 rfP (put (zer64 4) 0 3#64)))))) = J10 at *
  refine S_ ?_
  refine c_region ?_
  refine s_val (v_loadR rfl rfl row_38 sz_38 EQ_ (by decide)) rfl ?_
  refine s_storeR rfl rfl rfl rfl sz_38 EQ_ EQ_ SET_ ?_
  refine s_val (v_assignC rfl) rfl ?_
  refine s_nil ?_
  refine S_ ?_
  rw [hP_rfRootA0.out]
  exact k_2 (r_row rfl rfl row_38 sz_38 EQ_ (by decide)) (by first | exact r_tmpC rfl | exact r_tmpA rfl) (by first | kernel_rfl | rfl)

@[simp] theorem rfRootA0_len (a : List (BitVec 64)) (_ha : a.length = 4) : (rfRootA0 a).length = 4 := by
  unfold rfRootA0
  first | (simp (maxDischargeDepth := 9) [*]; done) | (simp (maxDischargeDepth := 9) [*]; omega) | (split <;> (simp (maxDischargeDepth := 9) [*]; done))

attribute [irreducible] rfRootA0

def rfRootB0 (a : List (BitVec 64)) : List (BitVec 64) := (if (((nth (wMul (wPow (wMod a) (rfHalf (rfHalf (rfHalf (rfadd0 rfP (put (zer64 4) 0 3#64)))))) (wPow (put (zer64 4) 0 2#64) (rfHalf (rfHalf (rfsub0 rfP (put (zer64 4) 0 1#64)))))) 0) &&& 1#64) == 1#64) = true then wSub (zer64 4) (wMul (wPow (wMod a) (rfHalf (rfHalf (rfHalf (rfadd0 rfP (put (zer64 4) 0 3#64)))))) (wPow (put (zer64 4) 0 2#64) (rfHalf (rfHalf (rfsub0 rfP (put (zer64 4) 0 1#64)))))) else wMul (wPow (wMod a) (rfHalf (rfHalf (rfHalf (rfadd0 rfP (put (zer64 4) 0 3#64)))))) (wPow (put (zer64 4) 0 2#64) (rfHalf (rfHalf (rfsub0 rfP (put (zer64 4) 0 1#64))))))
set_option maxRecDepth 100000 in
set_option maxHeartbeats 2000000 in
theorem rfRootB_ev (a : List (BitVec 64)) (ha : a.length = 4) (hx : ¬ (ZW a ^ eRoot * ZW a ^ eRoot = ZW a)) (hy : ZW a ^ eRoot * iF * (ZW a ^ eRoot * iF) = ZW a) : Ev Try.prog (.call 54 [.agg (.a64 (a))] []) (.val (.tup [.agg (.a64 (rfRootB0 a)), .c (.val (.bool (true)))]) []) := by
  have hP_rfRootB0 : Hid (rfRootB0 a = (if (((nth (wMul (wPow (wMod a) (rfHalf (rfHalf (rfHalf (rfadd0 rfP (put (zer64 4) 0 3#64)))))) (wPow (put (zer64 4) 0 2#64) (rfHalf (rfHalf (rfsub0 rfP (put (zer64 4) 0 1#64)))))) 0) &&& 1#64) == 1#64) = true then wSub (zer64 4) (wMul (wPow (wMod a) (rfHalf (rfHalf (rfHalf (rfadd0 rfP (put (zer64 4) 0 3#64)))))) (wPow (put (zer64 4) 0 2#64) (rfHalf (rfHalf (rfsub0 rfP (put (zer64 4) 0 1#64)))))) else wMul (wPow (wMod a) (rfHalf (rfHalf (rfHalf (rfadd0 rfP (put (zer64 4) 0 3#64)))))) (wPow (put (zer64 4) 0 2#64) (rfHalf (rfHalf (rfsub0 rfP (put (zer64 4) 0 1#64))))))) := ⟨rfl⟩
  refine c_call Try.func54 rfl Try.ntmps54 rfl LEN_ ?_
  refine S_ ?_
  refine c_region ?_
  refine s_memN (m_box BX_ LEN_) APP_ rfl ?_
  refine s_memN (m_alloc al_38 LEN_) APP_ rfl ?_
  refine s_val (v_assignC rfl) rfl ?_
  refine s_nil ?_
  have hQ1 : (wMod a).length = 4 := LQ_
  refine S_ ?_
  refine c_region ?_
  refine s_val (v_loadR rfl rfl row_38 sz_38 EQ_ (by decide)) rfl ?_
  refine s_evN (e_callR (bs := []) (wMod_ev a HYP_) ok_82 (by kernel_rfl) (by kernel_rfl) rfl VAL_) APP_ rfl ?_
  refine s_storeR rfl rfl rfl rfl sz_38 EQ_ EQ_ SET_ ?_
  refine s_nil ?_
  have hQ2 : (rfP).length = 4 := LQ_
  have hQ3 : (rfadd0 rfP (put (zer64 4) 0 3#64)).length = 4 := LQ_
  refine S_ ?_
  refine c_region ?_
  refine s_evN (e_callR (bs := []) (rfP_ev) ok_52 (by kernel_rfl) (by kernel_rfl) rfl VAL_) APP_ rfl ?_
  refine s_val (v_blf64 (l := (put (zer64 4) 0 (3#64))) za_38 Try.underlying38 sz_29 rfl rfl) rfl ?_
  refine s_evN (e_callR (bs := []) (rfadd_ev rfP (put (zer64 4) 0 3#64) HYP_ HYP_) ok_81 (by kernel_rfl) (by kernel_rfl) rfl VAL_) APP_ rfl ?_
  refine s_val (v_moveT rfl) rfl ?_
  refine s_val (v_extract rfl rfl) rfl ?_
  refine s_val (v_extract rfl rfl) rfl ?_
  refine s_memN (m_alloc al_38 LEN_) APP_ rfl ?_
  refine s_storeR rfl rfl rfl rfl sz_38 EQ_ EQ_ SET_ ?_
  refine s_val (v_assignC rfl) rfl ?_
  refine s_nil ?_
  have hQ4 : (rfHalf (rfadd0 rfP (put (zer64 4) 0 3#64))).length = 4 := LQ_
  have hQ5 : (rfHalf (rfHalf (rfadd0 rfP (put (zer64 4) 0 3#64)))).length = 4 := LQ_
  have hQ6 : (rfHalf (rfHalf (rfHalf (rfadd0 rfP (put (zer64 4) 0 3#64))))).length = 4 := LQ_
  have hQ7 : (wPow (wMod a) (rfHalf (rfHalf (rfHalf (rfadd0 rfP (put (zer64 4) 0 3#64)))))).length = 4 := LQ_
  refine S_ ?_
  refine c_draw 7 mixed (by kernel_rfl) rfl rfl rfl ?_
  refine h_val (v_loadR rfl rfl row_38 sz_38 EQ_ (by decide)) rfl ?_
  refine h_val (v_loadR rfl rfl row_38 sz_38 EQ_ (by decide)) rfl ?_
  refine h_evN (e_callR (bs := []) (rfHalf_ev (rfadd0 rfP (put (zer64 4) 0 3#64)) HYP_) ok_84 (by kernel_rfl) (by kernel_rfl) rfl VAL_) APP_ rfl ?_
  refine h_evN (e_callR (bs := []) (rfHalf_ev (rfHalf (rfadd0 rfP (put (zer64 4) 0 3#64))) HYP_) ok_84 (by kernel_rfl) (by kernel_rfl) rfl VAL_) APP_ rfl ?_
  refine h_evN (e_callR (bs := []) (rfHalf_ev (rfHalf (rfHalf (rfadd0 rfP (put (zer64 4) 0 3#64)))) HYP_) ok_84 (by kernel_rfl) (by kernel_rfl) rfl VAL_) APP_ rfl ?_
  refine h_evN (e_callR (bs := []) (wPow_ev (wMod a) (rfHalf (rfHalf (rfHalf (rfadd0 rfP (put (zer64 4) 0 3#64))))) HYP_ HYP_) ok_83 (by kernel_rfl) (by kernel_rfl) rfl VAL_) APP_ rfl ?_
  refine h_memN (m_alloc al_38 LEN_) APP_ rfl ?_
  refine h_nil ?_
  refine s_storeR rfl rfl rfl rfl sz_38 EQ_ EQ_ SET_ ?_
  refine s_nil ?_
  have hQ8 : (wMul (wPow (wMod a) (rfHalf (rfHalf (rfHalf (rfadd0 rfP (put (zer64 4) 0 3#64)))))) (wPow (wMod a) (rfHalf (rfHalf (rfHalf (rfadd0 rfP (put (zer64 4) 0 3#64))))))).length = 4 := LQ_
  refine S_ ?_
  refine c_draw 5 mixed (by kernel_rfl) rfl rfl rfl ?_
  refine h_val (v_loadR rfl rfl row_38 sz_38 EQ_ (by decide)) rfl ?_
  refine h_val (v_loadR rfl rfl row_38 sz_38 EQ_ (by decide)) rfl ?_
  refine h_evN (e_callR (bs := []) (wMul_ev (wPow (wMod a) (rfHalf (rfHalf (rfHalf (rfadd0 rfP (put (zer64 4) 0 3#64)))))) (wPow (wMod a) (rfHalf (rfHalf (rfHalf (rfadd0 rfP (put (zer64 4) 0 3#64)))))) HYP_ HYP_) ok_53 (by kernel_rfl) (by kernel_rfl) rfl VAL_) APP_ rfl ?_
  refine h_val (v_loadR rfl rfl row_38 sz_38 EQ_ (by decide)) rfl ?_
  refine h_val (v_neqR64 rfl rfl Try.underlying38 Try.underlying29 sz_29 EQ_ EQ_) rfl ?_
  refine h_nil ?_
  refine s_nil ?_
  refine Q_ ?_
  refine c_condT rfl (by rw [decide_eq_false (fun h => hx ((sq_test a _).1 (by rw [← R0_W]; unfold R0; exact h)))]; rfl) ?_
  have hQ9 : (rfP).length = 4 := LQ_
  have hQ10 : (rfsub0 rfP (put (zer64 4) 0 1#64)).length = 4 := LQ_
  refine S_ ?_
  refine c_region ?_
  refine s_evN (e_callR (bs := []) (rfP_ev) ok_52 (by kernel_rfl) (by kernel_rfl) rfl VAL_) APP_ rfl ?_
  refine s_val (v_blf64 (l := (put (zer64 4) 0 (1#64))) za_38 Try.underlying38 sz_29 rfl rfl) rfl ?_
  refine s_evN (e_callR (bs := []) (rfsub_ev rfP (put (zer64 4) 0 1#64) HYP_ HYP_) ok_80 (by kernel_rfl) (by kernel_rfl) rfl VAL_) APP_ rfl ?_
  refine s_val (v_moveT rfl) rfl ?_
  refine s_val (v_extract rfl rfl) rfl ?_
  refine s_val (v_extract rfl rfl) rfl ?_
  refine s_memN (m_alloc al_38 LEN_) APP_ rfl ?_
  refine s_storeR rfl rfl rfl rfl sz_38 EQ_ EQ_ SET_ ?_
  refine s_val (v_assignC rfl) rfl ?_
  refine s_nil ?_
  have hQ11 : (rfHalf (rfsub0 rfP (put (zer64 4) 0 1#64))).length = 4 := LQ_
  have hQ12 : (rfHalf (rfHalf (rfsub0 rfP (put (zer64 4) 0 1#64)))).length = 4 := LQ_
  have hQ13 : (wPow (put (zer64 4) 0 2#64) (rfHalf (rfHalf (rfsub0 rfP (put (zer64 4) 0 1#64))))).length = 4 := LQ_
  have hQ14 : (wMul (wPow (wMod a) (rfHalf (rfHalf (rfHalf (rfadd0 rfP (put (zer64 4) 0 3#64)))))) (wPow (put (zer64 4) 0 2#64) (rfHalf (rfHalf (rfsub0 rfP (put (zer64 4) 0 1#64)))))).length = 4 := LQ_
  refine S_ ?_
  refine c_draw 7 mixed (by kernel_rfl) rfl rfl rfl ?_
  refine h_val (v_loadR rfl rfl row_38 sz_38 EQ_ (by decide)) rfl ?_
  refine h_val (v_blf64 (l := (put (zer64 4) 0 (2#64))) za_38 Try.underlying38 sz_29 rfl rfl) rfl ?_
  refine h_val (v_loadR rfl rfl row_38 sz_38 EQ_ (by decide)) rfl ?_
  refine h_evN (e_callR (bs := []) (rfHalf_ev (rfsub0 rfP (put (zer64 4) 0 1#64)) HYP_) ok_84 (by kernel_rfl) (by kernel_rfl) rfl VAL_) APP_ rfl ?_
  refine h_evN (e_callR (bs := []) (rfHalf_ev (rfHalf (rfsub0 rfP (put (zer64 4) 0 1#64))) HYP_) ok_84 (by kernel_rfl) (by kernel_rfl) rfl VAL_) APP_ rfl ?_
  refine h_evN (e_callR (bs := []) (wPow_ev (put (zer64 4) 0 2#64) (rfHalf (rfHalf (rfsub0 rfP (put (zer64 4) 0 1#64)))) HYP_ HYP_) ok_83 (by kernel_rfl) (by kernel_rfl) rfl VAL_) APP_ rfl ?_
  refine h_evN (e_callR (bs := []) (wMul_ev (wPow (wMod a) (rfHalf (rfHalf (rfHalf (rfadd0 rfP (put (zer64 4) 0 3#64)))))) (wPow (put (zer64 4) 0 2#64) (rfHalf (rfHalf (rfsub0 rfP (put (zer64 4) 0 1#64))))) HYP_ HYP_) ok_53 (by kernel_rfl) (by kernel_rfl) rfl VAL_) APP_ rfl ?_
  refine h_nil ?_
  refine s_storeR rfl rfl rfl rfl sz_38 EQ_ EQ_ SET_ ?_
  refine s_nil ?_
  have hQ15 : (wMul (wMul (wPow (wMod a) (rfHalf (rfHalf (rfHalf (rfadd0 rfP (put (zer64 4) 0 3#64)))))) (wPow (put (zer64 4) 0 2#64) (rfHalf (rfHalf (rfsub0 rfP (put (zer64 4) 0 1#64)))))) (wMul (wPow (wMod a) (rfHalf (rfHalf (rfHalf (rfadd0 rfP (put (zer64 4) 0 3#64)))))) (wPow (put (zer64 4) 0 2#64) (rfHalf (rfHalf (rfsub0 rfP (put (zer64 4) 0 1#64))))))).length = 4 := LQ_
  refine S_ ?_
  refine c_draw 5 mixed (by kernel_rfl) rfl rfl rfl ?_
  refine h_val (v_loadR rfl rfl row_38 sz_38 EQ_ (by decide)) rfl ?_
  refine h_val (v_loadR rfl rfl row_38 sz_38 EQ_ (by decide)) rfl ?_
  refine h_evN (e_callR (bs := []) (wMul_ev (wMul (wPow (wMod a) (rfHalf (rfHalf (rfHalf (rfadd0 rfP (put (zer64 4) 0 3#64)))))) (wPow (put (zer64 4) 0 2#64) (rfHalf (rfHalf (rfsub0 rfP (put (zer64 4) 0 1#64)))))) (wMul (wPow (wMod a) (rfHalf (rfHalf (rfHalf (rfadd0 rfP (put (zer64 4) 0 3#64)))))) (wPow (put (zer64 4) 0 2#64) (rfHalf (rfHalf (rfsub0 rfP (put (zer64 4) 0 1#64)))))) HYP_ HYP_) ok_53 (by kernel_rfl) (by kernel_rfl) rfl VAL_) APP_ rfl ?_
  refine h_val (v_loadR rfl rfl row_38 sz_38 EQ_ (by decide)) rfl ?_
  refine h_val (v_neqR64 rfl rfl Try.underlying38 Try.underlying29 sz_29 EQ_ EQ_) rfl ?_
  refine h_nil ?_
  refine s_nil ?_
  refine Q_ ?_
  refine c_condF rfl (by rw [decide_eq_true (by have h := (sq_test a _).2 hy; rw [← R1_W] at h; unfold R1 at h; exact h)]; rfl) ?_
  refine S_ ?_
  refine c_region ?_
  refine s_val (v_idxA1 (j := 0) rfl rfl Try.underlying38 sz_29 (by omega)) rfl ?_
  refine s_val (v_load64 rfl rfl row_29 LT_) rfl ?_
  refine s_val (v_and64 (b := 1#64) rfl rfl) rfl ?_
  refine s_val (v_eql64 (b := 1#64) rfl rfl) rfl ?_
  refine s_nil ?_
  refine Q_ ?_
  refine c_join [2, 6] (fun (zz : List (BitVec 64)) => ⟨55, keepT [2, 6] [.c (.ptr 0 0), .c (.ptr 1 0)], [.row true (.a64 (zer64 4)), .row true (.a64 (zz))]⟩) (if (((nth (wMul (wPow (wMod a) (rfHalf (rfHalf (rfHalf (rfadd0 rfP (put (zer64 4) 0 3#64)))))) (wPow (put (zer64 4) 0 2#64) (rfHalf (rfHalf (rfsub0 rfP (put (zer64 4) 0 1#64)))))) 0) &&& 1#64) == 1#64) = true then wSub (zer64 4) (wMul (wPow (wMod a) (rfHalf (rfHalf (rfHalf (rfadd0 rfP (put (zer64 4) 0 3#64)))))) (wPow (put (zer64 4) 0 2#64) (rfHalf (rfHalf (rfsub0 rfP (put (zer64 4) 0 1#64)))))) else wMul (wPow (wMod a) (rfHalf (rfHalf (rfHalf (rfadd0 rfP (put (zer64 4) 0 3#64)))))) (wPow (put (zer64 4) 0 2#64) (rfHalf (rfHalf (rfsub0 rfP (put (zer64 4) 0 1#64)))))) rfl (fun hb => ?_) (fun hb => ?_) ?_
  · -- the test is True
    have hQ17 : (wSub (zer64 4) (wMul (wPow (wMod a) (rfHalf (rfHalf (rfHalf (rfadd0 rfP (put (zer64 4) 0 3#64)))))) (wPow (put (zer64 4) 0 2#64) (rfHalf (rfHalf (rfsub0 rfP (put (zer64 4) 0 1#64))))))).length = 4 := LQ_
    refine S_ ?_
    refine c_region ?_
    refine s_val (v_blf64 (l := (zer64 4)) za_38 Try.underlying38 sz_29 rfl rfl) rfl ?_
    refine s_val (v_loadR rfl rfl row_38 sz_38 EQ_ (by decide)) rfl ?_
    refine s_evN (e_callR (bs := []) (wSub_ev (zer64 4) (wMul (wPow (wMod a) (rfHalf (rfHalf (rfHalf (rfadd0 rfP (put (zer64 4) 0 3#64)))))) (wPow (put (zer64 4) 0 2#64) (rfHalf (rfHalf (rfsub0 rfP (put (zer64 4) 0 1#64)))))) HYP_ HYP_) ok_55 (by kernel_rfl) (by kernel_rfl) rfl VAL_) APP_ rfl ?_
    refine s_storeR rfl rfl rfl rfl sz_38 EQ_ EQ_ SET_ ?_
    refine s_nil ?_
    refine S_ ?_
    refine ⟨(wSub (zer64 4) (wMul (wPow (wMod a) (rfHalf (rfHalf (rfHalf (rfadd0 rfP (put (zer64 4) 0 3#64)))))) (wPow (put (zer64 4) 0 2#64) (rfHalf (rfHalf (rfsub0 rfP (put (zer64 4) 0 1#64))))))), by kernel_rfl, ?_⟩
    rw [if_pos (hb)]
  · -- the test is False
    refine S_ ?_
    refine ⟨(wMul (wPow (wMod a) (rfHalf (rfHalf (rfHalf (rfadd0 rfP (put (zer64 4) 0 3#64)))))) (wPow (put (zer64 4) 0 2#64) (rfHalf (rfHalf (rfsub0 rfP (put (zer64 4) 0 1#64)))))), by kernel_rfl, ?_⟩
    rw [if_neg (by first | (rw [hb]; decide) | simp [hb])]
  have hJ16 : (if (((nth (wMul (wPow (wMod a) (rfHalf (rfHalf (rfHalf (rfadd0 rfP (put (zer64 4) 0 3#64)))))) (wPow (put (zer64 4) 0 2#64) (rfHalf (rfHalf (rfsub0 rfP (put (zer64 4) 0 1#64)))))) 0) &&& 1#64) == 1#64) = true then wSub (zer64 4) (wMul (wPow (wMod a) (rfHalf (rfHalf (rfHalf (rfadd0 rfP (put (zer64 4) 0 3#64)))))) (wPow (put (zer64 4) 0 2#64) (rfHalf (rfHalf (rfsub0 rfP (put (zer64 4) 0 1#64)))))) else wMul (wPow (wMod a) (rfHalf (rfHalf (rfHalf (rfadd0 rfP (put (zer64 4) 0 3#64)))))) (wPow (put (zer64 4) 0 2#64) (rfHalf (rfHalf (rfsub0 rfP (put (zer64 4) 0 1#64)))))).length = 4 := by split <;> simp [*]
  generalize (if (((nth (wMul (wPow (wMod a) (rfHalf (rfHalf (rfHalf (rfadd0 rfP (put (zer64 4) 0 3#64)))))) (wPow (put (zer64 4) 0 2#64) (rfHalf (rfHalf (rfsub0 rfP (put (zer64 4) 0 1#64)))))) 0) &&& 1#64) == 1#64) = true then wSub (zer64 4) (wMul (wPow (wMod a) (rfHalf (rfHalf (rfHalf (rfadd0 rfP (put (zer64 4) 0 3#64)))))) (wPow (put (zer64 4) 0 2#64) (rfHalf (rfHalf (rfsub0 rfP (put (zer64 4) 0 1#64)))))) else wMul (wPow (wMod a) (rfHalf (rfHalf (rfHalf (rfadd0 rfP (put (zer64 4) 0 3#64)))))) (wPow (put (zer64 4) 0 2#64) (rfHalf (rfHalf (rfsub0 rfP (put (zer64 4) 0 1#64)))))) = J16 at *
  refine S_ ?_
  refine c_region ?_
  refine s_val (v_loadR rfl rfl row_38 sz_38 EQ_ (by decide)) rfl ?_
  refine s_storeR rfl rfl rfl rfl sz_38 EQ_ EQ_ SET_ ?_
  refine s_val (v_assignC rfl) rfl ?_
  refine s_nil ?_
  refine S_ ?_
  rw [hP_rfRootB0.out]
  exact k_2 (r_row rfl rfl row_38 sz_38 EQ_ (by decide)) (by first | exact r_tmpC rfl | exact r_tmpA rfl) (by first | kernel_rfl | rfl)

@[simp] theorem rfRootB0_len (a : List (BitVec 64)) (_ha : a.length = 4) : (rfRootB0 a).length = 4 := by
  unfold rfRootB0
  first | (simp (maxDischargeDepth := 9) [*]; done) | (simp (maxDischargeDepth := 9) [*]; omega) | (split <;> (simp (maxDischargeDepth := 9) [*]; done))

attribute [irreducible] rfRootB0

def rfRootC0  : List (BitVec 64) := zer64 4
set_option maxRecDepth 100000 in
set_option maxHeartbeats 2000000 in
theorem rfRootC_ev (a : List (BitVec 64)) (ha : a.length = 4) (hx : ¬ (ZW a ^ eRoot * ZW a ^ eRoot = ZW a)) (hy : ¬ (ZW a ^ eRoot * iF * (ZW a ^ eRoot * iF) = ZW a)) : Ev Try.prog (.call 54 [.agg (.a64 (a))] []) (.val (.tup [.agg (.a64 (rfRootC0)), .c (.val (.bool (false)))]) []) := by
  have hP_rfRootC0 : Hid (rfRootC0 = zer64 4) := ⟨rfl⟩
  refine c_call Try.func54 rfl Try.ntmps54 rfl LEN_ ?_
  refine S_ ?_
  refine c_region ?_
  refine s_memN (m_box BX_ LEN_) APP_ rfl ?_
  refine s_memN (m_alloc al_38 LEN_) APP_ rfl ?_
  refine s_val (v_assignC rfl) rfl ?_
  refine s_nil ?_
  have hQ1 : (wMod a).length = 4 := LQ_
  refine S_ ?_
  refine c_region ?_
  refine s_val (v_loadR rfl rfl row_38 sz_38 EQ_ (by decide)) rfl ?_
  refine s_evN (e_callR (bs := []) (wMod_ev a HYP_) ok_82 (by kernel_rfl) (by kernel_rfl) rfl VAL_) APP_ rfl ?_
  refine s_storeR rfl rfl rfl rfl sz_38 EQ_ EQ_ SET_ ?_
  refine s_nil ?_
  have hQ2 : (rfP).length = 4 := LQ_
  have hQ3 : (rfadd0 rfP (put (zer64 4) 0 3#64)).length = 4 := LQ_
  refine S_ ?_
  refine c_region ?_
  refine s_evN (e_callR (bs := []) (rfP_ev) ok_52 (by kernel_rfl) (by kernel_rfl) rfl VAL_) APP_ rfl ?_
  refine s_val (v_blf64 (l := (put (zer64 4) 0 (3#64))) za_38 Try.underlying38 sz_29 rfl rfl) rfl ?_
  refine s_evN (e_callR (bs := []) (rfadd_ev rfP (put (zer64 4) 0 3#64) HYP_ HYP_) ok_81 (by kernel_rfl) (by kernel_rfl) rfl VAL_) APP_ rfl ?_
  refine s_val (v_moveT rfl) rfl ?_
  refine s_val (v_extract rfl rfl) rfl ?_
  refine s_val (v_extract rfl rfl) rfl ?_
  refine s_memN (m_alloc al_38 LEN_) APP_ rfl ?_
  refine s_storeR rfl rfl rfl rfl sz_38 EQ_ EQ_ SET_ ?_
  refine s_val (v_assignC rfl) rfl ?_
  refine s_nil ?_
  have hQ4 : (rfHalf (rfadd0 rfP (put (zer64 4) 0 3#64))).length = 4 := LQ_
  have hQ5 : (rfHalf (rfHalf (rfadd0 rfP (put (zer64 4) 0 3#64)))).length = 4 := LQ_
  have hQ6 : (rfHalf (rfHalf (rfHalf (rfadd0 rfP (put (zer64 4) 0 3#64))))).length = 4 := LQ_
  have hQ7 : (wPow (wMod a) (rfHalf (rfHalf (rfHalf (rfadd0 rfP (put (zer64 4) 0 3#64)))))).length = 4 := LQ_
  refine S_ ?_
  refine c_draw 7 mixed (by kernel_rfl) rfl rfl rfl ?_
  refine h_val (v_loadR rfl rfl row_38 sz_38 EQ_ (by decide)) rfl ?_
  refine h_val (v_loadR rfl rfl row_38 sz_38 EQ_ (by decide)) rfl ?_
  refine h_evN (e_callR (bs := []) (rfHalf_ev (rfadd0 rfP (put (zer64 4) 0 3#64)) HYP_) ok_84 (by kernel_rfl) (by kernel_rfl) rfl VAL_) APP_ rfl ?_
  refine h_evN (e_callR (bs := []) (rfHalf_ev (rfHalf (rfadd0 rfP (put (zer64 4) 0 3#64))) HYP_) ok_84 (by kernel_rfl) (by kernel_rfl) rfl VAL_) APP_ rfl ?_
  refine h_evN (e_callR (bs := []) (rfHalf_ev (rfHalf (rfHalf (rfadd0 rfP (put (zer64 4) 0 3#64)))) HYP_) ok_84 (by kernel_rfl) (by kernel_rfl) rfl VAL_) APP_ rfl ?_
  refine h_evN (e_callR (bs := []) (wPow_ev (wMod a) (rfHalf (rfHalf (rfHalf (rfadd0 rfP (put (zer64 4) 0 3#64))))) HYP_ HYP_) ok_83 (by kernel_rfl) (by kernel_rfl) rfl VAL_) APP_ rfl ?_
  refine h_memN (m_alloc al_38 LEN_) APP_ rfl ?_
  refine h_nil ?_
  refine s_storeR rfl rfl rfl rfl sz_38 EQ_ EQ_ SET_ ?_
  refine s_nil ?_
  have hQ8 : (wMul (wPow (wMod a) (rfHalf (rfHalf (rfHalf (rfadd0 rfP (put (zer64 4) 0 3#64)))))) (wPow (wMod a) (rfHalf (rfHalf (rfHalf (rfadd0 rfP (put (zer64 4) 0 3#64))))))).length = 4 := LQ_
  refine S_ ?_
  refine c_draw 5 mixed (by kernel_rfl) rfl rfl rfl ?_
  refine h_val (v_loadR rfl rfl row_38 sz_38 EQ_ (by decide)) rfl ?_
  refine h_val (v_loadR rfl rfl row_38 sz_38 EQ_ (by decide)) rfl ?_
  refine h_evN (e_callR (bs := []) (wMul_ev (wPow (wMod a) (rfHalf (rfHalf (rfHalf (rfadd0 rfP (put (zer64 4) 0 3#64)))))) (wPow (wMod a) (rfHalf (rfHalf (rfHalf (rfadd0 rfP (put (zer64 4) 0 3#64)))))) HYP_ HYP_) ok_53 (by kernel_rfl) (by kernel_rfl) rfl VAL_) APP_ rfl ?_
  refine h_val (v_loadR rfl rfl row_38 sz_38 EQ_ (by decide)) rfl ?_
  refine h_val (v_neqR64 rfl rfl Try.underlying38 Try.underlying29 sz_29 EQ_ EQ_) rfl ?_
  refine h_nil ?_
  refine s_nil ?_
  refine Q_ ?_
  refine c_condT rfl (by rw [decide_eq_false (fun h => hx ((sq_test a _).1 (by rw [← R0_W]; unfold R0; exact h)))]; rfl) ?_
  have hQ9 : (rfP).length = 4 := LQ_
  have hQ10 : (rfsub0 rfP (put (zer64 4) 0 1#64)).length = 4 := LQ_
  refine S_ ?_
  refine c_region ?_
  refine s_evN (e_callR (bs := []) (rfP_ev) ok_52 (by kernel_rfl) (by kernel_rfl) rfl VAL_) APP_ rfl ?_
  refine s_val (v_blf64 (l := (put (zer64 4) 0 (1#64))) za_38 Try.underlying38 sz_29 rfl rfl) rfl ?_
  refine s_evN (e_callR (bs := []) (rfsub_ev rfP (put (zer64 4) 0 1#64) HYP_ HYP_) ok_80 (by kernel_rfl) (by kernel_rfl) rfl VAL_) APP_ rfl ?_
  refine s_val (v_moveT rfl) rfl ?_
  refine s_val (v_extract rfl rfl) rfl ?_
  refine s_val (v_extract rfl rfl) rfl ?_
  refine s_memN (m_alloc al_38 LEN_) APP_ rfl ?_
  refine s_storeR rfl rfl rfl rfl sz_38 EQ_ EQ_ SET_ ?_
  refine s_val (v_assignC rfl) rfl ?_
  refine s_nil ?_
  have hQ11 : (rfHalf (rfsub0 rfP (put (zer64 4) 0 1#64))).length = 4 := LQ_
  have hQ12 : (rfHalf (rfHalf (rfsub0 rfP (put (zer64 4) 0 1#64)))).length = 4 := LQ_
  have hQ13 : (wPow (put (zer64 4) 0 2#64) (rfHalf (rfHalf (rfsub0 rfP (put (zer64 4) 0 1#64))))).length = 4 := LQ_
  have hQ14 : (wMul (wPow (wMod a) (rfHalf (rfHalf (rfHalf (rfadd0 rfP (put (zer64 4) 0 3#64)))))) (wPow (put (zer64 4) 0 2#64) (rfHalf (rfHalf (rfsub0 rfP (put (zer64 4) 0 1#64)))))).length = 4 := LQ_
  refine S_ ?_
  refine c_draw 7 mixed (by kernel_rfl) rfl rfl rfl ?_
  refine h_val (v_loadR rfl rfl row_38 sz_38 EQ_ (by decide)) rfl ?_
  refine h_val (v_blf64 (l := (put (zer64 4) 0 (2#64))) za_38 Try.underlying38 sz_29 rfl rfl) rfl ?_
  refine h_val (v_loadR rfl rfl row_38 sz_38 EQ_ (by decide)) rfl ?_
  refine h_evN (e_callR (bs := []) (rfHalf_ev (rfsub0 rfP (put (zer64 4) 0 1#64)) HYP_) ok_84 (by kernel_rfl) (by kernel_rfl) rfl VAL_) APP_ rfl ?_
  refine h_evN (e_callR (bs := []) (rfHalf_ev (rfHalf (rfsub0 rfP (put (zer64 4) 0 1#64))) HYP_) ok_84 (by kernel_rfl) (by kernel_rfl) rfl VAL_) APP_ rfl ?_
  refine h_evN (e_callR (bs := []) (wPow_ev (put (zer64 4) 0 2#64) (rfHalf (rfHalf (rfsub0 rfP (put (zer64 4) 0 1#64)))) HYP_ HYP_) ok_83 (by kernel_rfl) (by kernel_rfl) rfl VAL_) APP_ rfl ?_
  refine h_evN (e_callR (bs := []) (wMul_ev (wPow (wMod a) (rfHalf (rfHalf (rfHalf (rfadd0 rfP (put (zer64 4) 0 3#64)))))) (wPow (put (zer64 4) 0 2#64) (rfHalf (rfHalf (rfsub0 rfP (put (zer64 4) 0 1#64))))) HYP_ HYP_) ok_53 (by kernel_rfl) (by kernel_rfl) rfl VAL_) APP_ rfl ?_
  refine h_nil ?_
  refine s_storeR rfl rfl rfl rfl sz_38 EQ_ EQ_ SET_ ?_
  refine s_nil ?_
  have hQ15 : (wMul (wMul (wPow (wMod a) (rfHalf (rfHalf (rfHalf (rfadd0 rfP (put (zer64 4) 0 3#64)))))) (wPow (put (zer64 4) 0 2#64) (rfHalf (rfHalf (rfsub0 rfP (put (zer64 4) 0 1#64)))))) (wMul (wPow (wMod a) (rfHalf (rfHalf (rfHalf (rfadd0 rfP (put (zer64 4) 0 3#64)))))) (wPow (put (zer64 4) 0 2#64) (rfHalf (rfHalf (rfsub0 rfP (put (zer64 4) 0 1#64))))))).length = 4 := LQ_
  refine S_ ?_
  refine c_draw 5 mixed (by kernel_rfl) rfl rfl rfl ?_
  refine h_val (v_loadR rfl rfl row_38 sz_38 EQ_ (by decide)) rfl ?_
  refine h_val (v_loadR rfl rfl row_38 sz_38 EQ_ (by decide)) rfl ?_
  refine h_evN (e_callR (bs := []) (wMul_ev (wMul (wPow (wMod a) (rfHalf (rfHalf (rfHalf (rfadd0 rfP (put (zer64 4) 0 3#64)))))) (wPow (put (zer64 4) 0 2#64) (rfHalf (rfHalf (rfsub0 rfP (put (zer64 4) 0 1#64)))))) (wMul (wPow (wMod a) (rfHalf (rfHalf (rfHalf (rfadd0 rfP (put (zer64 4) 0 3#64)))))) (wPow (put (zer64 4) 0 2#64) (rfHalf (rfHalf (rfsub0 rfP (put (zer64 4) 0 1#64)))))) HYP_ HYP_) ok_53 (by kernel_rfl) (by kernel_rfl) rfl VAL_) APP_ rfl ?_
  refine h_val (v_loadR rfl rfl row_38 sz_38 EQ_ (by decide)) rfl ?_
  refine h_val (v_neqR64 rfl rfl Try.underlying38 Try.underlying29 sz_29 EQ_ EQ_) rfl ?_
  refine h_nil ?_
  refine s_nil ?_
  refine Q_ ?_
  refine c_condT rfl (by rw [decide_eq_false (fun h => hy ((sq_test a _).1 (by rw [← R1_W]; unfold R1; exact h)))]; rfl) ?_
  refine S_ ?_
  refine c_region ?_
  refine s_val (v_blf64 (l := (zer64 4)) za_38 Try.underlying38 sz_29 rfl rfl) rfl ?_
  refine s_storeR rfl rfl rfl rfl sz_38 EQ_ EQ_ SET_ ?_
  refine s_val (v_assignC rfl) rfl ?_
  refine s_nil ?_
  refine S_ ?_
  rw [hP_rfRootC0.out]
  exact k_2 (r_row rfl rfl row_38 sz_38 EQ_ (by decide)) (by first | exact r_tmpC rfl | exact r_tmpA rfl) (by first | kernel_rfl | rfl)

@[simp] theorem rfRootC0_len  : (rfRootC0).length = 4 := by
  unfold rfRootC0
  first | (simp (maxDischargeDepth := 9) [*]; done) | (simp (maxDischargeDepth := 9) [*]; omega) | (split <;> (simp (maxDischargeDepth := 9) [*]; done))

attribute [irreducible] rfRootC0
theorem rfRootA_W (a : List (BitVec 64)) (hx : ZW a ^ eRoot * ZW a ^ eRoot = ZW a) : rfRootA0 a = wRoot a ∧ wRootIs a = true := by
  unfold wRoot wRootIs
  rw [rootF_of hx]
  refine ⟨?_, decide_eq_true hx⟩
  rw [if_pos hx, ← even_W, ← R0_W]
  unfold rfRootA0 R0
  rfl
theorem rfRootB_W (a : List (BitVec 64)) (hx : ¬ (ZW a ^ eRoot * ZW a ^ eRoot = ZW a)) (hy : ZW a ^ eRoot * iF * (ZW a ^ eRoot * iF) = ZW a) : rfRootB0 a = wRoot a ∧ wRootIs a = true := by
  unfold wRoot wRootIs
  rw [rootF_not hx]
  refine ⟨?_, decide_eq_true hy⟩
  rw [if_pos hy, ← even_W, ← R1_W]
  unfold rfRootB0 R1
  rfl
theorem wRoot_ev (a : List (BitVec 64)) (ha : a.length = 4) : Ev Try.prog (.call 54 [.agg (.a64 a)] []) (.val (.tup [.agg (.a64 (wRoot a)), .c (.val (.bool (wRootIs a)))]) []) := by
  by_cases hx : ZW a ^ eRoot * ZW a ^ eRoot = ZW a
  · have h := rfRootA_ev a ha hx
    rw [(rfRootA_W a hx).1] at h
    rw [(rfRootA_W a hx).2]
    exact h
  · by_cases hy : ZW a ^ eRoot * iF * (ZW a ^ eRoot * iF) = ZW a
    · have h := rfRootB_ev a ha hx hy
      rw [(rfRootB_W a hx hy).1] at h
      rw [(rfRootB_W a hx hy).2]
      exact h
    · have h := rfRootC_ev a ha hx hy
      have e : rfRootC0 = wRoot a ∧ wRootIs a = false := by
        unfold wRoot wRootIs
        rw [rootF_not hx]
        exact ⟨by rw [if_neg hy, ← zero_words]; unfold rfRootC0; rfl, decide_eq_false hy⟩
      rw [e.1] at h
      rw [e.2]
      exact h
end Go.Proofs.Ytcekjmejppemeaa
/- The reference's points, told by the points of the curve. -/
namespace Go.Proofs.Ytcekjmejppemeaa
open Go.RowKit
theorem ZW_mul (a b : List (BitVec 64)) : ZW (wMul a b) = ZW a * ZW b := by unfold wMul; exact ZW_WF _
theorem ZW_sub (a b : List (BitVec 64)) : ZW (wSub a b) = ZW a - ZW b := by unfold wSub; exact ZW_WF _
theorem ZW_add (a b : List (BitVec 64)) : ZW (wAdd a b) = ZW a + ZW b := by unfold wAdd; exact ZW_WF _
theorem ZW_inv (a : List (BitVec 64)) : ZW (wInv a) = invF (ZW a) := by unfold wInv; exact ZW_WF _
theorem ZW_none : ZW (zer64 4) = 0 := by rw [zero_words, ZW_WF]
theorem ZW_one (x : BitVec 64) : ZW (put (zer64 4) 0 x) = zf x.toNat := by unfold ZW; rw [one_word]
theorem ZW_1 : ZW (put (zer64 4) 0 1#64) = 1 := by rw [ZW_one, zs1]
theorem rfD_val : ZW rfD = dF := by
  unfold rfD
  rw [ZW_mul, ZW_sub, ZW_inv, ZW_none, ZW_one, ZW_one]
  exact d_quot
def RQ (p : List (BitVec 64)) : Qt := ⟨ZW (cut p 0 4), ZW (cut p 4 4), ZW (cut p 8 4), ZW (cut p 12 4)⟩
theorem cuts4w {a b c d : List (BitVec 64)} (ha : a.length = 4) (hb : b.length = 4) (hc : c.length = 4) (hd : d.length = 4) : RQ (a ++ b ++ c ++ d) = ⟨ZW a, ZW b, ZW c, ZW d⟩ := by
  obtain ⟨a0, a1, a2, a3, rfl⟩ := four ha
  obtain ⟨b0, b1, b2, b3, rfl⟩ := four hb
  obtain ⟨c0, c1, c2, c3, rfl⟩ := four hc
  obtain ⟨d0, d1, d2, d3, rfl⟩ := four hd
  rfl
theorem c_law (T d U : Fp) : T * d * U + T * d * U = (d + d) * T * U := by grobner
theorem e_law (Z W : Fp) : Z * W + Z * W = (Z + Z) * W := by grobner
theorem rfPlus_val (p q : List (BitVec 64)) : RQ (rfPlus p q rfD) = qadd (RQ p) (RQ q) := by
  unfold rfPlus
  rw [cuts4w (wMul_len _ _) (wMul_len _ _) (wMul_len _ _) (wMul_len _ _)]
  simp only [ZW_mul, ZW_sub, ZW_add, rfD_val]
  rw [c_law, e_law]
  rfl
theorem rfZero_val : RQ rfZero = qzero := by
  unfold rfZero
  rw [cuts4w (by simp) (by simp) (by simp) (by simp), ZW_none, ZW_1]
  rfl
theorem rfMlt_run (n p : List (BitVec 64)) : ∀ j, j ≤ 256 → RQ (rfMlt_L4 n p j) = qmul (RQ p) (wV n) j := by
  intro j
  induction j with
  | zero =>
    intro _
    rw [rfMlt_L4, qmul]
    exact rfZero_val
  | succ j ih =>
    intro hj
    have h2 := ih (by omega)
    rw [rfMlt_L4, rfMlt_L4_S, qmul, wexp_bit n (255 - j) (by omega)]
    by_cases hc : wV n / 2 ^ (255 - j) % 2 = 1
    · rw [if_pos (decide_eq_true hc), if_pos hc, rfPlus_val, rfPlus_val, h2]
    · rw [if_neg (by rw [decide_eq_false hc]; decide), if_neg hc, rfPlus_val, h2]
theorem rfMlt_val (n : List (BitVec 64)) {p : List (BitVec 64)} {P : OPt} (hr : Rep (RQ p) P.p) : Rep (RQ (rfMlt n p)) (omul P (wV n)).p := by
  unfold rfMlt
  rw [rfMlt_run n p 256 (Nat.le_refl _)]
  exact rep_times P.on hr _ (wV_lt n)
theorem rfAddP_val {p q : List (BitVec 64)} {P Q : OPt} (h1 : Rep (RQ p) P.p) (h2 : Rep (RQ q) Q.p) : Rep (RQ (rfPlus p q rfD)) (oadd P Q).p := by
  rw [rfPlus_val]
  exact rep_add P.on Q.on h1 h2
theorem W_odd (x : Fp) : ((nth (WF x) 0 &&& 1#64) == 1#64) = decide (x.val % 2 = 1) := by
  have e0 : nth (WF x) 0 = BitVec.ofNat 64 x.val := rfl
  have e : (nth (WF x) 0 &&& 1#64).toNat = x.val % 2 := by
    rw [BitVec.toNat_and, e0, BitVec.toNat_ofNat]
    have := Nat.and_two_pow_sub_one_eq_mod (x.val % 2 ^ 64) 1
    rw [show (1#64 : BitVec 64).toNat = 2 ^ 1 - 1 from rfl, this]
    omega
  by_cases h : x.val % 2 = 1
  · rw [decide_eq_true h, beq_iff_eq]
    apply BitVec.eq_of_toNat_eq
    rw [e, h]; rfl
  · rw [decide_eq_false h, beq_eq_false_iff_ne]
    intro hx
    apply h
    rw [← e, hx]; rfl
theorem rB_W (u : Fp) : rB (WF u) = F u := by
  unfold rB F
  rw [WF_val]
theorem rfEnc_enc {p : List (BitVec 64)} {P : OPt} (hr : Rep (RQ p) P.p) : rfEnc p = enc P := by
  obtain ⟨z, ex, ey, _⟩ := hr
  have hx : wMul (cut p 0 4) (wInv (cut p 8 4)) = WF P.p.x := by
    unfold wMul
    rw [ZW_inv]
    exact congrArg WF (quot_mul z ex)
  have hy : wMul (cut p 4 4) (wInv (cut p 8 4)) = WF P.p.y := by
    unfold wMul
    rw [ZW_inv]
    exact congrArg WF (quot_mul z ey)
  have hl : leS (F P.p.y) 32 < MM := by
    rw [leS_F]
    exact Nat.lt_trans P.p.y.isLt (by decide)
  unfold rfEnc
  rw [hx, hy, W_odd, rB_W]
  by_cases ho : P.p.x.val % 2 = 1
  · rw [if_pos (decide_eq_true ho)]
    refine (enc_of (by rw [put_length, F_len]) ?_).symm
    rw [top_or (F_len _) hl, leS_F]
    unfold encN
    rw [ho, Nat.one_mul]
  · rw [if_neg (by rw [decide_eq_false ho]; decide)]
    refine (enc_of (F_len _) ?_).symm
    rw [leS_F]
    unfold encN
    rw [show P.p.x.val % 2 = 0 by omega, Nat.zero_mul, Nat.add_zero]
/-- What is decoded. -/
def rdY (b : List (BitVec 8)) : List (BitVec 64) := rfOf (put b 31 ((nth b 31) &&& 127#8))
def rdXX (b : List (BitVec 8)) : List (BitVec 64) := wMul (wSub (wMul (rdY b) (rdY b)) (put (zer64 4) 0 1#64)) (wInv (wAdd (wMul rfD (wMul (rdY b) (rdY b))) (put (zer64 4) 0 1#64)))
def rdX (b : List (BitVec 8)) : List (BitVec 64) := if unO b = true then wSub (zer64 4) (wRoot (rdXX b)) else wRoot (rdXX b)
def rdP (b : List (BitVec 8)) : List (BitVec 64) := if unOk b = true then rdX b ++ rdY b ++ (put (zer64 4) 0 1#64) ++ (wMul (rdX b) (rdY b)) else zer64 16
theorem rdY_len {b : List (BitVec 8)} (hb : b.length = 32) : (rdY b).length = 4 := by
  unfold rdY
  exact rfOf_len _ (by rw [put_length, hb])
theorem rdX_len (b : List (BitVec 8)) : (rdX b).length = 4 := by
  unfold rdX
  split
  · exact wSub_len _ _
  · unfold wRoot; rfl
@[simp] theorem rdP_len (b : List (BitVec 8)) (hb : b.length = 32) : (rdP b).length = 16 := by
  unfold rdP
  split
  · simp [rdX_len, rdY_len hb]
  · simp
theorem rdY_val {b : List (BitVec 8)} (hb : b.length = 32) : wV (rdY b) = lowN b := by
  unfold rdY lowN
  rw [ZW_of, top_and hb]
theorem rdXX_val {b : List (BitVec 8)} (hb : b.length = 32) : ZW (rdXX b) = xxOf (zf (lowN b)) := by
  have hy : ZW (rdY b) = zf (lowN b) := by unfold ZW; rw [rdY_val hb]
  unfold rdXX
  rw [ZW_mul, ZW_sub, ZW_mul, ZW_inv, ZW_add, ZW_mul, ZW_mul, rfD_val, ZW_1, hy]
  rfl
theorem rd_less {b : List (BitVec 8)} (hb : b.length = 32) {r : Bool} (h : unC b = r) : (rfsub1 (rdY b) rfP == 1#64) = r := by
  rw [← h, unCd hb, ← rdY_val hb]
  obtain ⟨e, hc⟩ := rfsub_val (a := rdY b) (b := rfP) (rdY_len hb) (by simp)
  have l1 := wV_lt (rfsub0 (rdY b) rfP)
  have l2 := wV_lt (rdY b)
  rw [rfP_val] at e
  change _ + 57896044618658097711785492504343953926634992332820282019728792003956564819949 = _ at e
  by_cases h : wV (rdY b) < PP
  · rw [decide_eq_true h, beq_iff_eq]
    change _ < 57896044618658097711785492504343953926634992332820282019728792003956564819949 at h
    apply BitVec.eq_of_toNat_eq
    show _ = 1
    omega
  · rw [decide_eq_false h, beq_eq_false_iff_ne]
    change ¬ _ < 57896044618658097711785492504343953926634992332820282019728792003956564819949 at h
    intro h2
    have : (rfsub1 (rdY b) rfP).toNat = 1 := by rw [h2]; rfl
    omega
theorem rd_root {b : List (BitVec 8)} (hb : b.length = 32) {r : Bool} (h : unIs b = r) : wRootIs (rdXX b) = r := by
  rw [← h, unIs_eq hb]
  unfold wRootIs
  rw [rdXX_val hb]
theorem rd_even {b : List (BitVec 8)} (hb : b.length = 32) (h : unIs b = true) : wRoot (rdXX b) = WF (evenF (rootF (xxOf (zf (lowN b))))) := by
  rw [unIs_eq hb] at h
  unfold wRoot
  rw [rdXX_val hb, if_pos (of_decide_eq_true h)]
theorem rd_zero {b : List (BitVec 8)} (hb : b.length = 32) (h1 : unIs b = true) {r : Bool} (h : unZ b = r) : decide (wRoot (rdXX b) = zer64 4) = r := by
  rw [← h, unZ_eq hb, rd_even hb h1, zero_words]
  refine decide_eq_decide.2 ?_
  rw [WF_inj]
  refine ⟨fun e => ?_, fun e => ?_⟩
  · rcases evenF_or (rootF (xxOf (zf (lowN b)))) with g | g
    · rw [← g, e]
    · rw [e] at g
      exact evenZ g
  · rw [e]
    decide +kernel
theorem rfDec_ev (b : List (BitVec 8)) (hb : b.length = 32) : Ev Try.prog (.call 26 [.agg (.a8 b)] []) (.val (.tup [.agg (.a64 (rdP b)), .c (.val (.bool (unOk b)))]) []) := by
  have yl := rdY_len hb
  have ye : Ev Try.prog (.call 50 [.agg (.a8 (put b 31 ((nth b 31) &&& 127#8)))] []) (.val (.agg (.a64 (rdY b))) []) := rfOf_ev _ (by rw [put_length, hb])
  have re : Ev Try.prog (.call 54 [.agg (.a64 (rdXX b))] []) (.val (.tup [.agg (.a64 (wRoot (rdXX b))), .c (.val (.bool (wRootIs (rdXX b))))]) []) := wRoot_ev _ (by unfold rdXX; exact wMul_len _ _)
  have rl : (wRoot (rdXX b)).length = 4 := by unfold wRoot; rfl
  have dl : rfD.length = 4 := by simp
  have hXX : rdXX b = wMul (wSub (wMul (rdY b) (rdY b)) (put (zer64 4) 0 1#64)) (wInv (wAdd (wMul rfD (wMul (rdY b) (rdY b))) (put (zer64 4) 0 1#64))) := rfl
  cases hC : unC b with
  | false =>
    have e : unOk b = false := by unfold unOk; rw [hC]; rfl
    have e2 : rdP b = zer64 16 := by unfold rdP; rw [e]; rfl
    rw [e, e2]
    rw [hXX] at re
    exact rfDecA_ev b hb wMul wMul_len wMul_ev wSub wSub_len wSub_ev wAdd wAdd_len wAdd_ev wInv wInv_len wInv_ev _ yl ye rfD dl rfD_ev _ rl _ re (rd_less hb hC)
  | true =>
    cases hR : unIs b with
    | false =>
      have e : unOk b = false := by unfold unOk; rw [hC, hR]; rfl
      have e2 : rdP b = zer64 16 := by unfold rdP; rw [e]; rfl
      rw [e, e2]
      rw [hXX] at re
      exact rfDecB_ev b hb wMul wMul_len wMul_ev wSub wSub_len wSub_ev wAdd wAdd_len wAdd_ev wInv wInv_len wInv_ev _ yl ye rfD dl rfD_ev _ rl _ re (rd_less hb hC) (rd_root hb hR)
    | true =>
      cases hO : unO b with
      | false =>
        have e : unOk b = true := by unfold unOk; rw [hC, hR, hO]; rfl
        have e2 : rdP b = wRoot (rdXX b) ++ rdY b ++ (put (zer64 4) 0 1#64) ++ (wMul (wRoot (rdXX b)) (rdY b)) := by unfold rdP rdX; rw [e, hO]; rfl
        rw [e, e2]
        cases hZ : unZ b with
        | true =>
          have hz := rd_zero hb hR hZ
          rw [hXX] at re
          exact rfDecH_ev b hb wMul wMul_len wMul_ev wSub wSub_len wSub_ev wAdd wAdd_len wAdd_ev wInv wInv_len wInv_ev _ yl ye rfD dl rfD_ev _ rl _ re (rd_less hb hC) (rd_root hb hR) (eqO b hO) hz
        | false =>
          have hz := rd_zero hb hR hZ
          rw [hXX] at re
          exact rfDecE_ev b hb wMul wMul_len wMul_ev wSub wSub_len wSub_ev wAdd wAdd_len wAdd_ev wInv wInv_len wInv_ev _ yl ye rfD dl rfD_ev _ rl _ re (rd_less hb hC) (rd_root hb hR) (eqO b hO) hz
      | true =>
        cases hZ : unZ b with
        | true =>
          have hz := rd_zero hb hR hZ
          have e : unOk b = false := by unfold unOk; rw [hC, hR, hO, hZ]; rfl
          have e2 : rdP b = zer64 16 := by unfold rdP; rw [e]; rfl
          rw [e, e2]
          rw [hXX] at re
          exact rfDecD_ev b hb wMul wMul_len wMul_ev wSub wSub_len wSub_ev wAdd wAdd_len wAdd_ev wInv wInv_len wInv_ev _ yl ye rfD dl rfD_ev _ rl _ re (rd_less hb hC) (rd_root hb hR) (eqO b hO) hz
        | false =>
          have hz := rd_zero hb hR hZ
          have e : unOk b = true := by unfold unOk; rw [hC, hR, hO, hZ]; rfl
          have e2 : rdP b = wSub (zer64 4) (wRoot (rdXX b)) ++ rdY b ++ (put (zer64 4) 0 1#64) ++ (wMul (wSub (zer64 4) (wRoot (rdXX b))) (rdY b)) := by unfold rdP rdX; rw [e, hO]; rfl
          rw [e, e2]
          rw [hXX] at re
          exact rfDecF_ev b hb wMul wMul_len wMul_ev wSub wSub_len wSub_ev wAdd wAdd_len wAdd_ev wInv wInv_len wInv_ev _ yl ye rfD dl rfD_ev _ rl _ re (rd_less hb hC) (rd_root hb hR) (eqO b hO) hz
theorem rdP_rep {b : List (BitVec 8)} (hb : b.length = 32) (P : OPt) (hP : b = enc P) : Rep (RQ (rdP b)) P.p := by
  have hok : unOk b = true := by rw [hP]; exact unOk_enc P
  have hR : unIs b = true := by
    unfold unOk at hok
    simp only [Bool.and_eq_true] at hok
    exact hok.2.1
  have hy : ZW (rdY b) = P.p.y := by
    unfold ZW
    rw [rdY_val hb]
    unfold lowN
    rw [hP, leS_enc, (encN_parts P).2.1, zf_self]
  have hl : zf (lowN b) = P.p.y := by rw [← hy]; unfold ZW; rw [rdY_val hb]
  have ho : unO b = true ↔ P.p.x.val % 2 = 1 := by
    rw [unOd, decide_eq_true_eq, hP, leS_enc]
    exact (encN_parts P).2.2
  have hr := (unIs_eq hb).symm.trans hR
  have hr := of_decide_eq_true hr
  have hx : ZW (rdX b) = P.p.x := by
    unfold rdX
    rw [rd_even hb hR]
    by_cases hc : unO b = true
    · rw [if_pos hc, ZW_sub, ZW_none, ZW_WF, zero_sub_neg]
      refine sq_par ?_ ?_
      · rw [neg_sqF, evenF_sq, hr, hl, On_xx]
      · have hp := ho.1 hc
        rw [hp, neg_par, evenF_even]
        intro h0
        have h1 := evenF_sq (rootF (xxOf (zf (lowN b))))
        rw [h0, hr, hl, ← On_xx, zero_mulF] at h1
        have hx0 : P.p.x = 0 := by rcases nozero h1.symm with h | h <;> exact h
        rw [hx0] at hp
        change 0 % 2 = 1 at hp
        omega
    · rw [if_neg hc, ZW_WF]
      refine sq_par ?_ ?_
      · rw [evenF_sq, hr, hl, On_xx]
      · rw [evenF_even]
        have := mt ho.2 hc
        omega
  unfold rdP
  rw [if_pos hok, cuts4w (rdX_len b) (rdY_len hb) (by simp) (wMul_len _ _), ZW_mul, ZW_1, hx, hy]
  exact rep_one
attribute [irreducible] rdP
end Go.Proofs.Ytcekjmejppemeaa
/- trystref06.base (Drawn up by a program.) -/
namespace Go.Proofs.Ytcekjmejppemeaa
open Go.RowKit

set_option maxRecDepth 100000 in
set_option maxHeartbeats 2000000 in
theorem rfBs0G_ev   (wMul : List (BitVec 64) → List (BitVec 64) → List (BitVec 64)) (wMul_len : ∀ a b : List (BitVec 64), (wMul a b).length = 4) (wMul_ev : ∀ a b : List (BitVec 64), a.length = 4 → b.length = 4 → Ev Try.prog (.call 53 [.agg (.a64 a), .agg (.a64 b)] []) (.val (.agg (.a64 (wMul a b))) [])) (wInv : List (BitVec 64) → List (BitVec 64)) (wInv_len : ∀ a : List (BitVec 64), (wInv a).length = 4) (wInv_ev : ∀ a : List (BitVec 64), a.length = 4 → Ev Try.prog (.call 56 [.agg (.a64 a)] []) (.val (.agg (.a64 (wInv a))) [])) : Ev Try.prog (.call 62 [] []) (.val (.agg (.a64 (rdP (rB (wMul (put (zer64 4) 0 4#64) (wInv (put (zer64 4) 0 5#64))))))) []) := by
  refine c_call Try.func62 rfl Try.ntmps62 rfl LEN_ ?_
  refine S_ ?_
  refine c_region ?_
  refine s_memN (m_alloc al_42 LEN_) APP_ rfl ?_
  refine s_nil ?_
  have hQ1 : (wInv (put (zer64 4) 0 5#64)).length = 4 := LQ_
  have hQ2 : (wMul (put (zer64 4) 0 4#64) (wInv (put (zer64 4) 0 5#64))).length = 4 := LQ_
  refine S_ ?_
  refine c_region ?_
  refine s_val (v_blf64 (l := (put (zer64 4) 0 (4#64))) za_38 Try.underlying38 sz_29 rfl rfl) rfl ?_
  refine s_val (v_blf64 (l := (put (zer64 4) 0 (5#64))) za_38 Try.underlying38 sz_29 rfl rfl) rfl ?_
  refine s_evN (e_callR (bs := []) (wInv_ev (put (zer64 4) 0 5#64) HYP_) ok_56 (by kernel_rfl) (by kernel_rfl) rfl VAL_) APP_ rfl ?_
  refine s_evN (e_callR (bs := []) (wMul_ev (put (zer64 4) 0 4#64) (wInv (put (zer64 4) 0 5#64)) HYP_ HYP_) ok_53 (by kernel_rfl) (by kernel_rfl) rfl VAL_) APP_ rfl ?_
  refine s_memN (m_alloc al_38 LEN_) APP_ rfl ?_
  refine s_storeR rfl rfl rfl rfl sz_38 EQ_ EQ_ SET_ ?_
  refine s_nil ?_
  have hQ3 : (rB (wMul (put (zer64 4) 0 4#64) (wInv (put (zer64 4) 0 5#64)))).length = 32 := LQ_
  have hQ4 : (rdP (rB (wMul (put (zer64 4) 0 4#64) (wInv (put (zer64 4) 0 5#64))))).length = 16 := LQ_
  refine S_ ?_
  refine c_region ?_
  refine s_val (v_loadR rfl rfl row_38 sz_38 EQ_ (by decide)) rfl ?_
  refine s_evN (e_callR (bs := []) (rB_ev (wMul (put (zer64 4) 0 4#64) (wInv (put (zer64 4) 0 5#64))) HYP_) ok_25 (by kernel_rfl) (by kernel_rfl) rfl VAL_) APP_ rfl ?_
  refine s_evN (e_callR (bs := []) (rfDec_ev (rB (wMul (put (zer64 4) 0 4#64) (wInv (put (zer64 4) 0 5#64)))) HYP_) ok_26 (by kernel_rfl) (by kernel_rfl) rfl VAL_) APP_ rfl ?_
  refine s_val (v_moveT rfl) rfl ?_
  refine s_val (v_extract rfl rfl) rfl ?_
  refine s_val (v_extract rfl rfl) rfl ?_
  refine s_memN (m_alloc al_42 LEN_) APP_ rfl ?_
  refine s_storeR rfl rfl rfl rfl sz_42 EQ_ EQ_ SET_ ?_
  refine s_val (v_assignC rfl) rfl ?_
  refine s_nil ?_
  refine S_ ?_
  refine c_region ?_
  refine s_val (v_loadR rfl rfl row_42 sz_42 EQ_ (by decide)) rfl ?_
  refine s_storeR rfl rfl rfl rfl sz_42 EQ_ EQ_ SET_ ?_
  refine s_nil ?_
  refine S_ ?_
  exact k_1 (r_row rfl rfl row_42 sz_42 EQ_ (by decide)) (by first | kernel_rfl | rfl)
end Go.Proofs.Ytcekjmejppemeaa
/- tryst/trystref06.base, told. (Drawn up by a program.) -/
namespace Go.Proofs.Ytcekjmejppemeaa
open Go.RowKit
def rfBs0  : List (BitVec 64) := rdP (rB (wMul (put (zer64 4) 0 4#64) (wInv (put (zer64 4) 0 5#64))))
theorem rfBs0_ev   : Ev Try.prog (.call 62 [] []) (.val (.agg (.a64 (rfBs0 ))) []) := by
  unfold rfBs0
  exact rfBs0G_ev   wMul wMul_len wMul_ev wInv wInv_len wInv_ev
@[simp] theorem rfBs0_len   : (rfBs0 ).length = 16 := by
  unfold rfBs0
  first | (simp [*]; done) | (split <;> simp [*])
attribute [irreducible] rfBs0
end Go.Proofs.Ytcekjmejppemeaa
/- trystref06.Sum, trystref06.Sum, trystref06.Sum, trystref06.Times, trystref06.Times, trystref06.Base (Drawn up by a program.) -/
namespace Go.Proofs.Ytcekjmejppemeaa
open Go.RowKit
def rfSumT0 (p : List (BitVec 8)) (q : List (BitVec 8)) : List (BitVec 8) := rfEnc (rfPlus (rdP p) (rdP q) rfD)
set_option maxRecDepth 100000 in
set_option maxHeartbeats 2000000 in
theorem rfSumT_ev (p : List (BitVec 8)) (q : List (BitVec 8)) (hp : p.length = 32) (hq : q.length = 32) (hk : unOk p = true) (hq_ : unOk q = true) : Ev Try.prog (.call 27 [.agg (.a8 (p)), .agg (.a8 (q))] []) (.val (.tup [.agg (.a8 (rfSumT0 p q)), .c (.val (.bool (true)))]) []) := by
  have hP_rfSumT0 : Hid (rfSumT0 p q = rfEnc (rfPlus (rdP p) (rdP q) rfD)) := ⟨rfl⟩
  refine c_call Try.func27 rfl Try.ntmps27 rfl LEN_ ?_
  refine S_ ?_
  refine c_region ?_
  refine s_memN (m_box BX_ LEN_) APP_ rfl ?_
  refine s_memN (m_box BX_ LEN_) APP_ rfl ?_
  refine s_memN (m_alloc al_22 LEN_) APP_ rfl ?_
  refine s_val (v_assignC rfl) rfl ?_
  refine s_nil ?_
  have hQ2 : (rdP p).length = 16 := LQ_
  have hE1 : (unOk p) = true := hk
  refine S_ ?_
  refine c_region ?_
  refine s_val (v_loadR rfl rfl row_22 sz_22 EQ_ (by decide)) rfl ?_
  refine s_evN (e_callR (bs := []) (rfDec_ev p HYP_) ok_26 (by kernel_rfl) (by kernel_rfl) rfl VAL_) APP_ rfl ?_
  refine s_val (v_moveT rfl) rfl ?_
  refine s_val (v_extract rfl rfl) rfl ?_
  refine s_val (v_bool (v_extract rfl rfl) hE1) rfl ?_
  refine s_memN (m_alloc al_42 LEN_) APP_ rfl ?_
  refine s_storeR rfl rfl rfl rfl sz_42 EQ_ EQ_ SET_ ?_
  refine s_val (v_assignC rfl) rfl ?_
  refine s_nil ?_
  have hQ4 : (rdP q).length = 16 := LQ_
  have hE3 : (unOk q) = true := hq_
  refine S_ ?_
  refine c_region ?_
  refine s_val (v_loadR rfl rfl row_22 sz_22 EQ_ (by decide)) rfl ?_
  refine s_evN (e_callR (bs := []) (rfDec_ev q HYP_) ok_26 (by kernel_rfl) (by kernel_rfl) rfl VAL_) APP_ rfl ?_
  refine s_val (v_moveT rfl) rfl ?_
  refine s_val (v_extract rfl rfl) rfl ?_
  refine s_val (v_bool (v_extract rfl rfl) hE3) rfl ?_
  refine s_memN (m_alloc al_42 LEN_) APP_ rfl ?_
  refine s_storeR rfl rfl rfl rfl sz_42 EQ_ EQ_ SET_ ?_
  refine s_val (v_assignC rfl) rfl ?_
  refine s_nil ?_
  refine S_ ?_
  refine c_region ?_
  refine s_val (v_moveC rfl) rfl ?_
  refine s_val (v_unnotB rfl) rfl ?_
  refine s_val (v_moveC rfl) rfl ?_
  refine s_go GO_ ?_
  refine s_val (v_moveC rfl) rfl ?_
  refine s_go GO_ ?_
  refine s_val (v_unnotB rfl) rfl ?_
  refine s_val (v_pickF rfl PK_ rfl) rfl ?_
  refine s_nil ?_
  have hQ5 : (rfD).length = 4 := LQ_
  have hQ6 : (rfPlus (rdP p) (rdP q) rfD).length = 16 := LQ_
  have hQ7 : (rfEnc (rfPlus (rdP p) (rdP q) rfD)).length = 32 := LQ_
  refine S_ ?_
  refine c_draw 5 mixed (by kernel_rfl) rfl rfl rfl ?_
  refine h_val (v_loadR rfl rfl row_42 sz_42 EQ_ (by decide)) rfl ?_
  refine h_val (v_loadR rfl rfl row_42 sz_42 EQ_ (by decide)) rfl ?_
  refine h_evN (e_callR (bs := []) (rfD_ev) ok_58 (by kernel_rfl) (by kernel_rfl) rfl VAL_) APP_ rfl ?_
  refine h_evN (e_callR (bs := []) (rfPlus_ev (rdP p) (rdP q) rfD HYP_ HYP_ HYP_) ok_60 (by kernel_rfl) (by kernel_rfl) rfl VAL_) APP_ rfl ?_
  refine h_evN (e_callR (bs := []) (rfEnc_ev (rfPlus (rdP p) (rdP q) rfD) HYP_) ok_59 (by kernel_rfl) (by kernel_rfl) rfl VAL_) APP_ rfl ?_
  refine h_nil ?_
  refine s_storeR rfl rfl rfl rfl sz_22 EQ_ EQ_ SET_ ?_
  refine s_val (v_assignC rfl) rfl ?_
  refine s_nil ?_
  refine S_ ?_
  rw [hP_rfSumT0.out]
  exact k_2 (r_row rfl rfl row_22 sz_22 EQ_ (by decide)) (by first | exact r_tmpC rfl | exact r_tmpA rfl) (by first | kernel_rfl | rfl)

@[simp] theorem rfSumT0_len (p : List (BitVec 8)) (q : List (BitVec 8)) (hp : p.length = 32) (hq : q.length = 32) : (rfSumT0 p q).length = 32 := by
  unfold rfSumT0
  first | (simp (maxDischargeDepth := 9) [*]; done) | (simp (maxDischargeDepth := 9) [*]; omega) | (split <;> (simp (maxDischargeDepth := 9) [*]; done))

attribute [irreducible] rfSumT0

def rfSumF0  : List (BitVec 8) := zer8 32
set_option maxRecDepth 100000 in
set_option maxHeartbeats 2000000 in
theorem rfSumF_ev (p : List (BitVec 8)) (q : List (BitVec 8)) (hp : p.length = 32) (hq : q.length = 32) (hk : unOk p = true) (hq_ : unOk q = false) : Ev Try.prog (.call 27 [.agg (.a8 (p)), .agg (.a8 (q))] []) (.val (.tup [.agg (.a8 (rfSumF0)), .c (.val (.bool (false)))]) []) := by
  have hP_rfSumF0 : Hid (rfSumF0 = zer8 32) := ⟨rfl⟩
  refine c_call Try.func27 rfl Try.ntmps27 rfl LEN_ ?_
  refine S_ ?_
  refine c_region ?_
  refine s_memN (m_box BX_ LEN_) APP_ rfl ?_
  refine s_memN (m_box BX_ LEN_) APP_ rfl ?_
  refine s_memN (m_alloc al_22 LEN_) APP_ rfl ?_
  refine s_val (v_assignC rfl) rfl ?_
  refine s_nil ?_
  have hQ2 : (rdP p).length = 16 := LQ_
  have hE1 : (unOk p) = true := hk
  refine S_ ?_
  refine c_region ?_
  refine s_val (v_loadR rfl rfl row_22 sz_22 EQ_ (by decide)) rfl ?_
  refine s_evN (e_callR (bs := []) (rfDec_ev p HYP_) ok_26 (by kernel_rfl) (by kernel_rfl) rfl VAL_) APP_ rfl ?_
  refine s_val (v_moveT rfl) rfl ?_
  refine s_val (v_extract rfl rfl) rfl ?_
  refine s_val (v_bool (v_extract rfl rfl) hE1) rfl ?_
  refine s_memN (m_alloc al_42 LEN_) APP_ rfl ?_
  refine s_storeR rfl rfl rfl rfl sz_42 EQ_ EQ_ SET_ ?_
  refine s_val (v_assignC rfl) rfl ?_
  refine s_nil ?_
  have hQ4 : (rdP q).length = 16 := LQ_
  have hE3 : (unOk q) = false := hq_
  refine S_ ?_
  refine c_region ?_
  refine s_val (v_loadR rfl rfl row_22 sz_22 EQ_ (by decide)) rfl ?_
  refine s_evN (e_callR (bs := []) (rfDec_ev q HYP_) ok_26 (by kernel_rfl) (by kernel_rfl) rfl VAL_) APP_ rfl ?_
  refine s_val (v_moveT rfl) rfl ?_
  refine s_val (v_extract rfl rfl) rfl ?_
  refine s_val (v_bool (v_extract rfl rfl) hE3) rfl ?_
  refine s_memN (m_alloc al_42 LEN_) APP_ rfl ?_
  refine s_storeR rfl rfl rfl rfl sz_42 EQ_ EQ_ SET_ ?_
  refine s_val (v_assignC rfl) rfl ?_
  refine s_nil ?_
  refine S_ ?_
  refine c_region ?_
  refine s_val (v_moveC rfl) rfl ?_
  refine s_val (v_unnotB rfl) rfl ?_
  refine s_val (v_moveC rfl) rfl ?_
  refine s_go GO_ ?_
  refine s_val (v_moveC rfl) rfl ?_
  refine s_go GO_ ?_
  refine s_val (v_unnotB rfl) rfl ?_
  refine s_val (v_pickF rfl PK_ rfl) rfl ?_
  refine s_nil ?_
  refine S_ ?_
  refine c_region ?_
  refine s_val (v_blf8 (l := (zer8 32)) za_22 Try.underlying22 sz_5 rfl rfl) rfl ?_
  refine s_storeR rfl rfl rfl rfl sz_22 EQ_ EQ_ SET_ ?_
  refine s_val (v_assignC rfl) rfl ?_
  refine s_nil ?_
  refine S_ ?_
  rw [hP_rfSumF0.out]
  exact k_2 (r_row rfl rfl row_22 sz_22 EQ_ (by decide)) (by first | exact r_tmpC rfl | exact r_tmpA rfl) (by first | kernel_rfl | rfl)

@[simp] theorem rfSumF0_len  : (rfSumF0).length = 32 := by
  unfold rfSumF0
  first | (simp (maxDischargeDepth := 9) [*]; done) | (simp (maxDischargeDepth := 9) [*]; omega) | (split <;> (simp (maxDischargeDepth := 9) [*]; done))

attribute [irreducible] rfSumF0

def rfSumN0  : List (BitVec 8) := zer8 32
set_option maxRecDepth 100000 in
set_option maxHeartbeats 2000000 in
theorem rfSumN_ev (p : List (BitVec 8)) (q : List (BitVec 8)) (hp : p.length = 32) (hq : q.length = 32) (hk : unOk p = false) : Ev Try.prog (.call 27 [.agg (.a8 (p)), .agg (.a8 (q))] []) (.val (.tup [.agg (.a8 (rfSumN0)), .c (.val (.bool (false)))]) []) := by
  have hP_rfSumN0 : Hid (rfSumN0 = zer8 32) := ⟨rfl⟩
  refine c_call Try.func27 rfl Try.ntmps27 rfl LEN_ ?_
  refine S_ ?_
  refine c_region ?_
  refine s_memN (m_box BX_ LEN_) APP_ rfl ?_
  refine s_memN (m_box BX_ LEN_) APP_ rfl ?_
  refine s_memN (m_alloc al_22 LEN_) APP_ rfl ?_
  refine s_val (v_assignC rfl) rfl ?_
  refine s_nil ?_
  have hQ2 : (rdP p).length = 16 := LQ_
  have hE1 : (unOk p) = false := hk
  refine S_ ?_
  refine c_region ?_
  refine s_val (v_loadR rfl rfl row_22 sz_22 EQ_ (by decide)) rfl ?_
  refine s_evN (e_callR (bs := []) (rfDec_ev p HYP_) ok_26 (by kernel_rfl) (by kernel_rfl) rfl VAL_) APP_ rfl ?_
  refine s_val (v_moveT rfl) rfl ?_
  refine s_val (v_extract rfl rfl) rfl ?_
  refine s_val (v_bool (v_extract rfl rfl) hE1) rfl ?_
  refine s_memN (m_alloc al_42 LEN_) APP_ rfl ?_
  refine s_storeR rfl rfl rfl rfl sz_42 EQ_ EQ_ SET_ ?_
  refine s_val (v_assignC rfl) rfl ?_
  refine s_nil ?_
  have hQ3 : (rdP q).length = 16 := LQ_
  refine S_ ?_
  refine c_region ?_
  refine s_val (v_loadR rfl rfl row_22 sz_22 EQ_ (by decide)) rfl ?_
  refine s_evN (e_callR (bs := []) (rfDec_ev q HYP_) ok_26 (by kernel_rfl) (by kernel_rfl) rfl VAL_) APP_ rfl ?_
  refine s_val (v_moveT rfl) rfl ?_
  refine s_val (v_extract rfl rfl) rfl ?_
  refine s_val (v_extract rfl rfl) rfl ?_
  refine s_memN (m_alloc al_42 LEN_) APP_ rfl ?_
  refine s_storeR rfl rfl rfl rfl sz_42 EQ_ EQ_ SET_ ?_
  refine s_val (v_assignC rfl) rfl ?_
  refine s_nil ?_
  refine S_ ?_
  refine c_region ?_
  refine s_val (v_moveC rfl) rfl ?_
  refine s_val (v_unnotB rfl) rfl ?_
  refine s_val (v_moveC rfl) rfl ?_
  refine s_no GO_ rfl ?_
  refine s_no GO_ rfl ?_
  refine s_val (v_pickT rfl PK_ rfl) rfl ?_
  refine s_nil ?_
  refine S_ ?_
  refine c_region ?_
  refine s_val (v_blf8 (l := (zer8 32)) za_22 Try.underlying22 sz_5 rfl rfl) rfl ?_
  refine s_storeR rfl rfl rfl rfl sz_22 EQ_ EQ_ SET_ ?_
  refine s_val (v_assignC rfl) rfl ?_
  refine s_nil ?_
  refine S_ ?_
  rw [hP_rfSumN0.out]
  exact k_2 (r_row rfl rfl row_22 sz_22 EQ_ (by decide)) (by first | exact r_tmpC rfl | exact r_tmpA rfl) (by first | kernel_rfl | rfl)

@[simp] theorem rfSumN0_len  : (rfSumN0).length = 32 := by
  unfold rfSumN0
  first | (simp (maxDischargeDepth := 9) [*]; done) | (simp (maxDischargeDepth := 9) [*]; omega) | (split <;> (simp (maxDischargeDepth := 9) [*]; done))

attribute [irreducible] rfSumN0

def rfTmsT0 (n : List (BitVec 8)) (p : List (BitVec 8)) : List (BitVec 8) := rfEnc (rfMlt (rfOf n) (rdP p))
set_option maxRecDepth 100000 in
set_option maxHeartbeats 2000000 in
theorem rfTmsT_ev (n : List (BitVec 8)) (p : List (BitVec 8)) (hn : n.length = 32) (hp : p.length = 32) (hk : unOk p = true) : Ev Try.prog (.call 28 [.agg (.a8 (n)), .agg (.a8 (p))] []) (.val (.tup [.agg (.a8 (rfTmsT0 n p)), .c (.val (.bool (true)))]) []) := by
  have hP_rfTmsT0 : Hid (rfTmsT0 n p = rfEnc (rfMlt (rfOf n) (rdP p))) := ⟨rfl⟩
  refine c_call Try.func28 rfl Try.ntmps28 rfl LEN_ ?_
  refine S_ ?_
  refine c_region ?_
  refine s_memN (m_box BX_ LEN_) APP_ rfl ?_
  refine s_memN (m_box BX_ LEN_) APP_ rfl ?_
  refine s_memN (m_alloc al_22 LEN_) APP_ rfl ?_
  refine s_val (v_assignC rfl) rfl ?_
  refine s_nil ?_
  have hQ2 : (rdP p).length = 16 := LQ_
  have hE1 : (unOk p) = true := hk
  refine S_ ?_
  refine c_region ?_
  refine s_val (v_loadR rfl rfl row_22 sz_22 EQ_ (by decide)) rfl ?_
  refine s_evN (e_callR (bs := []) (rfDec_ev p HYP_) ok_26 (by kernel_rfl) (by kernel_rfl) rfl VAL_) APP_ rfl ?_
  refine s_val (v_moveT rfl) rfl ?_
  refine s_val (v_extract rfl rfl) rfl ?_
  refine s_val (v_bool (v_extract rfl rfl) hE1) rfl ?_
  refine s_memN (m_alloc al_42 LEN_) APP_ rfl ?_
  refine s_storeR rfl rfl rfl rfl sz_42 EQ_ EQ_ SET_ ?_
  refine s_val (v_assignC rfl) rfl ?_
  refine s_nil ?_
  refine S_ ?_
  refine c_region ?_
  refine s_val (v_moveC rfl) rfl ?_
  refine s_val (v_unnotB rfl) rfl ?_
  refine s_nil ?_
  have hQ3 : (rfOf n).length = 4 := LQ_
  have hQ4 : (rfMlt (rfOf n) (rdP p)).length = 16 := LQ_
  have hQ5 : (rfEnc (rfMlt (rfOf n) (rdP p))).length = 32 := LQ_
  refine S_ ?_
  refine c_draw 5 mixed (by kernel_rfl) rfl rfl rfl ?_
  refine h_val (v_loadR rfl rfl row_22 sz_22 EQ_ (by decide)) rfl ?_
  refine h_evN (e_callR (bs := []) (rfOf_ev n HYP_) ok_50 (by kernel_rfl) (by kernel_rfl) rfl VAL_) APP_ rfl ?_
  refine h_val (v_loadR rfl rfl row_42 sz_42 EQ_ (by decide)) rfl ?_
  refine h_evN (e_callR (bs := []) (rfMlt_ev (rfOf n) (rdP p) HYP_ HYP_) ok_61 (by kernel_rfl) (by kernel_rfl) rfl VAL_) APP_ rfl ?_
  refine h_evN (e_callR (bs := []) (rfEnc_ev (rfMlt (rfOf n) (rdP p)) HYP_) ok_59 (by kernel_rfl) (by kernel_rfl) rfl VAL_) APP_ rfl ?_
  refine h_nil ?_
  refine s_storeR rfl rfl rfl rfl sz_22 EQ_ EQ_ SET_ ?_
  refine s_val (v_assignC rfl) rfl ?_
  refine s_nil ?_
  refine S_ ?_
  rw [hP_rfTmsT0.out]
  exact k_2 (r_row rfl rfl row_22 sz_22 EQ_ (by decide)) (by first | exact r_tmpC rfl | exact r_tmpA rfl) (by first | kernel_rfl | rfl)

@[simp] theorem rfTmsT0_len (n : List (BitVec 8)) (p : List (BitVec 8)) (hn : n.length = 32) (hp : p.length = 32) : (rfTmsT0 n p).length = 32 := by
  unfold rfTmsT0
  first | (simp (maxDischargeDepth := 9) [*]; done) | (simp (maxDischargeDepth := 9) [*]; omega) | (split <;> (simp (maxDischargeDepth := 9) [*]; done))

attribute [irreducible] rfTmsT0

def rfTmsF0  : List (BitVec 8) := zer8 32
set_option maxRecDepth 100000 in
set_option maxHeartbeats 2000000 in
theorem rfTmsF_ev (n : List (BitVec 8)) (p : List (BitVec 8)) (_hn : n.length = 32) (hp : p.length = 32) (hk : unOk p = false) : Ev Try.prog (.call 28 [.agg (.a8 (n)), .agg (.a8 (p))] []) (.val (.tup [.agg (.a8 (rfTmsF0)), .c (.val (.bool (false)))]) []) := by
  have hP_rfTmsF0 : Hid (rfTmsF0 = zer8 32) := ⟨rfl⟩
  refine c_call Try.func28 rfl Try.ntmps28 rfl LEN_ ?_
  refine S_ ?_
  refine c_region ?_
  refine s_memN (m_box BX_ LEN_) APP_ rfl ?_
  refine s_memN (m_box BX_ LEN_) APP_ rfl ?_
  refine s_memN (m_alloc al_22 LEN_) APP_ rfl ?_
  refine s_val (v_assignC rfl) rfl ?_
  refine s_nil ?_
  have hQ2 : (rdP p).length = 16 := LQ_
  have hE1 : (unOk p) = false := hk
  refine S_ ?_
  refine c_region ?_
  refine s_val (v_loadR rfl rfl row_22 sz_22 EQ_ (by decide)) rfl ?_
  refine s_evN (e_callR (bs := []) (rfDec_ev p HYP_) ok_26 (by kernel_rfl) (by kernel_rfl) rfl VAL_) APP_ rfl ?_
  refine s_val (v_moveT rfl) rfl ?_
  refine s_val (v_extract rfl rfl) rfl ?_
  refine s_val (v_bool (v_extract rfl rfl) hE1) rfl ?_
  refine s_memN (m_alloc al_42 LEN_) APP_ rfl ?_
  refine s_storeR rfl rfl rfl rfl sz_42 EQ_ EQ_ SET_ ?_
  refine s_val (v_assignC rfl) rfl ?_
  refine s_nil ?_
  refine S_ ?_
  refine c_region ?_
  refine s_val (v_moveC rfl) rfl ?_
  refine s_val (v_unnotB rfl) rfl ?_
  refine s_nil ?_
  refine S_ ?_
  refine c_region ?_
  refine s_val (v_blf8 (l := (zer8 32)) za_22 Try.underlying22 sz_5 rfl rfl) rfl ?_
  refine s_storeR rfl rfl rfl rfl sz_22 EQ_ EQ_ SET_ ?_
  refine s_val (v_assignC rfl) rfl ?_
  refine s_nil ?_
  refine S_ ?_
  rw [hP_rfTmsF0.out]
  exact k_2 (r_row rfl rfl row_22 sz_22 EQ_ (by decide)) (by first | exact r_tmpC rfl | exact r_tmpA rfl) (by first | kernel_rfl | rfl)

@[simp] theorem rfTmsF0_len  : (rfTmsF0).length = 32 := by
  unfold rfTmsF0
  first | (simp (maxDischargeDepth := 9) [*]; done) | (simp (maxDischargeDepth := 9) [*]; omega) | (split <;> (simp (maxDischargeDepth := 9) [*]; done))

attribute [irreducible] rfTmsF0

def rfBs (n : List (BitVec 8)) : List (BitVec 8) := rfEnc (rfMlt (rfOf n) rfBs0)
set_option maxRecDepth 100000 in
set_option maxHeartbeats 2000000 in
theorem rfBs_ev (n : List (BitVec 8)) (hn : n.length = 32) : Ev Try.prog (.call 29 [.agg (.a8 (n))] []) (.val (.agg (.a8 (rfBs n))) []) := by
  have hP : Hid (rfBs n = rfEnc (rfMlt (rfOf n) rfBs0)) := ⟨rfl⟩
  refine c_call Try.func29 rfl Try.ntmps29 rfl LEN_ ?_
  refine S_ ?_
  refine c_region ?_
  refine s_memN (m_box BX_ LEN_) APP_ rfl ?_
  refine s_memN (m_alloc al_22 LEN_) APP_ rfl ?_
  refine s_nil ?_
  have hQ1 : (rfOf n).length = 4 := LQ_
  have hQ2 : (rfBs0).length = 16 := LQ_
  have hQ3 : (rfMlt (rfOf n) rfBs0).length = 16 := LQ_
  have hQ4 : (rfEnc (rfMlt (rfOf n) rfBs0)).length = 32 := LQ_
  refine S_ ?_
  refine c_region ?_
  refine s_val (v_loadR rfl rfl row_22 sz_22 EQ_ (by decide)) rfl ?_
  refine s_evN (e_callR (bs := []) (rfOf_ev n HYP_) ok_50 (by kernel_rfl) (by kernel_rfl) rfl VAL_) APP_ rfl ?_
  refine s_evN (e_callR (bs := []) (rfBs0_ev) ok_62 (by kernel_rfl) (by kernel_rfl) rfl VAL_) APP_ rfl ?_
  refine s_evN (e_callR (bs := []) (rfMlt_ev (rfOf n) rfBs0 HYP_ HYP_) ok_61 (by kernel_rfl) (by kernel_rfl) rfl VAL_) APP_ rfl ?_
  refine s_evN (e_callR (bs := []) (rfEnc_ev (rfMlt (rfOf n) rfBs0) HYP_) ok_59 (by kernel_rfl) (by kernel_rfl) rfl VAL_) APP_ rfl ?_
  refine s_storeR rfl rfl rfl rfl sz_22 EQ_ EQ_ SET_ ?_
  refine s_nil ?_
  refine S_ ?_
  rw [hP.out]
  exact k_1 (r_row rfl rfl row_22 sz_22 EQ_ (by decide)) (by first | kernel_rfl | rfl)

@[simp] theorem rfBs_len (n : List (BitVec 8)) (hn : n.length = 32) : (rfBs n).length = 32 := by
  unfold rfBs
  first | (simp (maxDischargeDepth := 9) [*]; done) | (simp (maxDischargeDepth := 9) [*]; omega) | (split <;> (simp (maxDischargeDepth := 9) [*]; done))

attribute [irreducible] rfBs
end Go.Proofs.Ytcekjmejppemeaa
/- The reference's answers about points are curve's. (Drawn up by a program.) -/
namespace Go.Proofs.Ytcekjmejppemeaa
open Go.RowKit
theorem rs_sum {p q : List (BitVec 8)} (hp : p.length = 32) (hq : q.length = 32) (hk : unOk p = true) (hq_ : unOk q = true) : rfSumT0 p q = cvAddT0 p q := by
  obtain ⟨P, e1, _⟩ := unP_rep hp hk
  obtain ⟨Q, e2, _⟩ := unP_rep hq hq_
  have h1 := rdP_rep hp P e1
  have h2 := rdP_rep hq Q e2
  unfold rfSumT0
  rw [rfEnc_enc (rfAddP_val h1 h2), e1, e2, add_enc]
theorem rs_tms (n : List (BitVec 8)) {p : List (BitVec 8)} (hp : p.length = 32) (hk : unOk p = true) : rfTmsT0 n p = cvTmsT0 n p := by
  obtain ⟨P, e1, _⟩ := unP_rep hp hk
  have h1 := rdP_rep hp P e1
  unfold rfTmsT0
  rw [rfEnc_enc (rfMlt_val _ h1), e1, tms_enc, ZW_of]
theorem base_y : rB (wMul (put (zer64 4) 0 4#64) (wInv (put (zer64 4) 0 5#64))) = enc obase := by
  have h4 : zf (4#64 : BitVec 64).toNat * invF (zf (5#64 : BitVec 64).toNat) = bY := quot_mul (by decide +kernel) (by decide +kernel)
  unfold wMul
  rw [rB_W, ZW_inv, ZW_one, ZW_one, h4]
  unfold F enc encN
  decide +kernel
theorem rs_base (n : List (BitVec 8)) : rfBs n = enc (oB n) := by
  unfold rfBs rfBs0
  rw [base_y, rfEnc_enc (rfMlt_val _ (rdP_rep (enc_len obase) obase rfl)), ZW_of]
  unfold oB
  rfl
theorem rsT_ev (p q : List (BitVec 8)) (hp : p.length = 32) (hq : q.length = 32) (hk : unOk p = true) (hq_ : unOk q = true) : Ev Try.prog (.call 27 [.agg (.a8 p), .agg (.a8 q)] []) (.val (.tup [.agg (.a8 (cvAddT0 p q)), .c (.val (.bool true))]) []) := by
  rw [← rs_sum hp hq hk hq_]; exact rfSumT_ev p q hp hq hk hq_
theorem rtT_ev (n p : List (BitVec 8)) (hn : n.length = 32) (hp : p.length = 32) (hk : unOk p = true) : Ev Try.prog (.call 28 [.agg (.a8 n), .agg (.a8 p)] []) (.val (.tup [.agg (.a8 (cvTmsT0 n p)), .c (.val (.bool true))]) []) := by
  rw [← rs_tms n hp hk]; exact rfTmsT_ev n p hn hp hk
theorem rbs_ev (n : List (BitVec 8)) (hn : n.length = 32) : Ev Try.prog (.call 29 [.agg (.a8 n)] []) (.val (.agg (.a8 (enc (oB n)))) []) := by
  rw [← rs_base]; exact rfBs_ev n hn
end Go.Proofs.Ytcekjmejppemeaa
/- trystlaw08.small (Drawn up by a program.) -/
namespace Go.Proofs.Ytcekjmejppemeaa
open Go.RowKit

set_option maxRecDepth 100000 in
set_option maxHeartbeats 2000000 in
theorem smallB_ev (n : BitVec 64)  : Ev Try.prog (.call 15 [.c (.val (U64 n))] []) (.val (.agg (.a8 (rB (put (zer64 4) 0 n)))) []) := by
  refine c_call Try.func15 rfl Try.ntmps15 rfl LEN_ ?_
  refine S_ ?_
  refine c_region ?_
  refine s_memN (m_alloc al_22 LEN_) APP_ rfl ?_
  refine s_nil ?_
  have hQ1 : (rB (put (zer64 4) 0 n)).length = 32 := LQ_
  refine S_ ?_
  refine c_region ?_
  refine s_val (v_moveC rfl) rfl ?_
  refine s_val (v_blo64 za_38 Try.underlying38 sz_29 rfl rfl rfl) rfl ?_
  refine s_evN (e_callR (bs := []) (rB_ev (put (zer64 4) 0 n) HYP_) ok_25 (by kernel_rfl) (by kernel_rfl) rfl VAL_) APP_ rfl ?_
  refine s_storeR rfl rfl rfl rfl sz_22 EQ_ EQ_ SET_ ?_
  refine s_nil ?_
  refine S_ ?_
  exact k_1 (r_row rfl rfl row_22 sz_22 EQ_ (by decide)) (by first | kernel_rfl | rfl)
theorem fSmall_ev (n : BitVec 64) : Ev Try.prog (.call 15 [.c (.val (U64 n))] []) (.val (.agg (.a8 (fSmall n))) []) := by
  rw [← small_same]; exact smallB_ev n
end Go.Proofs.Ytcekjmejppemeaa
/- trystlaw08.wakes (Drawn up by a program.) -/
namespace Go.Proofs.Ytcekjmejppemeaa
open Go.RowKit

set_option maxRecDepth 100000 in
set_option maxHeartbeats 2000000 in
theorem wakes_ev   : Ev Try.prog (.call 16 [] []) (.val (.c (.val (.bool (true)))) []) := by
  refine c_call Try.func16 rfl Try.ntmps16 rfl LEN_ ?_
  refine S_ ?_
  refine c_region ?_
  refine s_val (v_assignC rfl) rfl ?_
  refine s_nil ?_
  have hQ1 : (fSmall 0#64).length = 32 := LQ_
  have hQ2 : (enc (oB (fSmall 0#64))).length = 32 := LQ_
  have hQ3 : (fSmall 1#64).length = 32 := LQ_
  have hQ4 : (enc (oB (fSmall 1#64))).length = 32 := LQ_
  refine S_ ?_
  refine c_region ?_
  refine s_evN (e_callR (bs := []) (fSmall_ev 0#64) ok_15 (by kernel_rfl) (by kernel_rfl) rfl VAL_) APP_ rfl ?_
  refine s_evN (e_callR (bs := []) (bsE_ev (fSmall 0#64) HYP_) ok_12 (by kernel_rfl) (by kernel_rfl) rfl VAL_) APP_ rfl ?_
  refine s_evN (e_callR (bs := []) (fSmall_ev 1#64) ok_15 (by kernel_rfl) (by kernel_rfl) rfl VAL_) APP_ rfl ?_
  refine s_evN (e_callR (bs := []) (bsE_ev (fSmall 1#64) HYP_) ok_12 (by kernel_rfl) (by kernel_rfl) rfl VAL_) APP_ rfl ?_
  refine s_memN (m_alloc al_22 LEN_) APP_ rfl ?_
  refine s_memN (m_alloc al_22 LEN_) APP_ rfl ?_
  refine s_storeR rfl rfl rfl rfl sz_22 EQ_ EQ_ SET_ ?_
  refine s_storeR rfl rfl rfl rfl sz_22 EQ_ EQ_ SET_ ?_
  refine s_nil ?_
  have hQ9 : (fSmall 1#64).length = 32 := LQ_
  have hE5 : (decide (enc (oB (fSmall 0#64)) = fSmall 1#64)) = true := decide_eq_true (by rw [oB_zero, enc_zero])
  have hE6 : (((nth (enc (oB (fSmall 1#64))) 0) == 88#8)) = true := by rw [oB_one, enc_b0.1]; rfl
  have hE7 : (((nth (enc (oB (fSmall 1#64))) 1) == 102#8)) = true := by rw [oB_one, enc_b0.2.1]; rfl
  have hE8 : (((nth (enc (oB (fSmall 1#64))) 31) == 102#8)) = true := by rw [oB_one, enc_b0.2.2]; rfl
  refine S_ ?_
  refine c_draw 19 mixed (by kernel_rfl) rfl rfl rfl ?_
  refine h_val (v_loadR rfl rfl row_22 sz_22 EQ_ (by decide)) rfl ?_
  refine h_evN (e_callR (bs := []) (fSmall_ev 1#64) ok_15 (by kernel_rfl) (by kernel_rfl) rfl VAL_) APP_ rfl ?_
  refine h_val (v_bool (v_eqlR8 rfl rfl Try.underlying22 Try.underlying5 sz_5 EQ_ EQ_) hE5) rfl ?_
  refine h_val (v_moveC rfl) rfl ?_
  refine h_go GO_ ?_
  refine h_val (v_idxA1 (j := 0) rfl rfl Try.underlying22 sz_5 (by omega)) rfl ?_
  refine h_go GO_ ?_
  refine h_val (v_load8 rfl rfl row_5 LT_) rfl ?_
  refine h_go GO_ ?_
  refine h_val (v_bool (v_eql8 (b := 88#8) rfl rfl) hE6) rfl ?_
  refine h_val (v_pickT rfl PK_ rfl) rfl ?_
  refine h_val (v_moveC rfl) rfl ?_
  refine h_go GO_ ?_
  refine h_val (v_idxA1 (j := 1) rfl rfl Try.underlying22 sz_5 (by omega)) rfl ?_
  refine h_go GO_ ?_
  refine h_val (v_load8 rfl rfl row_5 LT_) rfl ?_
  refine h_go GO_ ?_
  refine h_val (v_bool (v_eql8 (b := 102#8) rfl rfl) hE7) rfl ?_
  refine h_val (v_pickT rfl PK_ rfl) rfl ?_
  refine h_val (v_moveC rfl) rfl ?_
  refine h_go GO_ ?_
  refine h_val (v_idxA1 (j := 31) rfl rfl Try.underlying22 sz_5 (by omega)) rfl ?_
  refine h_go GO_ ?_
  refine h_val (v_load8 rfl rfl row_5 LT_) rfl ?_
  refine h_go GO_ ?_
  refine h_val (v_bool (v_eql8 (b := 102#8) rfl rfl) hE8) rfl ?_
  refine h_val (v_pickT rfl PK_ rfl) rfl ?_
  refine h_val (v_assignC rfl) rfl ?_
  refine h_nil ?_
  refine s_nil ?_
  refine S_ ?_
  exact k_1 (by first | exact r_tmpC rfl | exact r_tmpA rfl) (by first | kernel_rfl | rfl)
end Go.Proofs.Ytcekjmejppemeaa
/- trystlaw08.CurveExact (Drawn up by a program.) -/
namespace Go.Proofs.Ytcekjmejppemeaa
open Go.RowKit

set_option maxRecDepth 100000 in
set_option maxHeartbeats 2000000 in
theorem cvExT_ev (p : List (BitVec 8)) (q : List (BitVec 8)) (n : List (BitVec 8)) (hp : p.length = 32) (hq : q.length = 32) (hn : n.length = 32) (hk : unOk p = true) (hq_ : unOk q = true) : Ev Try.prog (.call 7 [.agg (.a8 (p)), .agg (.a8 (q)), .agg (.a8 (n))] []) (.val (.c (.val (.bool (true)))) []) := by
  refine c_call Try.func7 rfl Try.ntmps7 rfl LEN_ ?_
  refine S_ ?_
  refine c_region ?_
  refine s_memN (m_box BX_ LEN_) APP_ rfl ?_
  refine s_memN (m_box BX_ LEN_) APP_ rfl ?_
  refine s_memN (m_box BX_ LEN_) APP_ rfl ?_
  refine s_val (v_assignC rfl) rfl ?_
  refine s_nil ?_
  have hQ2 : (rdP p).length = 16 := LQ_
  have hE1 : (unOk p) = true := hk
  refine S_ ?_
  refine c_region ?_
  refine s_val (v_loadR rfl rfl row_22 sz_22 EQ_ (by decide)) rfl ?_
  refine s_evN (e_callR (bs := []) (rfDec_ev p HYP_) ok_26 (by kernel_rfl) (by kernel_rfl) rfl VAL_) APP_ rfl ?_
  refine s_val (v_moveT rfl) rfl ?_
  refine s_val (v_extract rfl rfl) rfl ?_
  refine s_val (v_bool (v_extract rfl rfl) hE1) rfl ?_
  refine s_memN (m_alloc al_42 LEN_) APP_ rfl ?_
  refine s_storeR rfl rfl rfl rfl sz_42 EQ_ EQ_ SET_ ?_
  refine s_val (v_assignC rfl) rfl ?_
  refine s_nil ?_
  refine S_ ?_
  refine c_region ?_
  refine s_val (v_loadR rfl rfl row_22 sz_22 EQ_ (by decide)) rfl ?_
  refine s_evN (e_callR (bs := []) (cvCheckT_ev p hp hk) ok_14 (by kernel_rfl) (by kernel_rfl) rfl VAL_) APP_ rfl ?_
  refine s_val (v_eqlN (a := 0) (b := 0) rfl rfl) rfl ?_
  refine s_val (v_moveC rfl) rfl ?_
  refine s_val (v_neqB rfl rfl Try.underlying4) rfl ?_
  refine s_val (v_moveC rfl) rfl ?_
  refine s_go GO_ ?_
  refine s_val (v_moveC rfl) rfl ?_
  refine s_go GO_ ?_
  refine s_val (v_unnotB rfl) rfl ?_
  refine s_go GO_ ?_
  refine s_val (v_moveC rfl) rfl ?_
  refine s_no GO_ rfl ?_
  refine s_no GO_ rfl ?_
  refine s_no GO_ rfl ?_
  refine s_go GO_ ?_
  refine s_val (v_pickF rfl PK_ rfl) rfl ?_
  refine s_val (v_pickF rfl PK_ rfl) rfl ?_
  refine s_nil ?_
  have hQ3 : (cvAddT0 p q).length = 32 := LQ_
  refine S_ ?_
  refine c_region ?_
  refine s_val (v_loadR rfl rfl row_22 sz_22 EQ_ (by decide)) rfl ?_
  refine s_val (v_loadR rfl rfl row_22 sz_22 EQ_ (by decide)) rfl ?_
  refine s_evN (e_callR (bs := []) (cvAddT_ev p q hp hq hk hq_) ok_13 (by kernel_rfl) (by kernel_rfl) rfl VAL_) APP_ rfl ?_
  refine s_val (v_moveT rfl) rfl ?_
  refine s_val (v_extract rfl rfl) rfl ?_
  refine s_val (v_extract rfl rfl) rfl ?_
  refine s_memN (m_alloc al_22 LEN_) APP_ rfl ?_
  refine s_storeR rfl rfl rfl rfl sz_22 EQ_ EQ_ SET_ ?_
  refine s_val (v_assignC rfl) rfl ?_
  refine s_nil ?_
  have hQ4 : (cvAddT0 p q).length = 32 := LQ_
  refine S_ ?_
  refine c_region ?_
  refine s_val (v_loadR rfl rfl row_22 sz_22 EQ_ (by decide)) rfl ?_
  refine s_val (v_loadR rfl rfl row_22 sz_22 EQ_ (by decide)) rfl ?_
  refine s_evN (e_callR (bs := []) (rsT_ev p q hp hq hk hq_) ok_27 (by kernel_rfl) (by kernel_rfl) rfl VAL_) APP_ rfl ?_
  refine s_val (v_moveT rfl) rfl ?_
  refine s_val (v_extract rfl rfl) rfl ?_
  refine s_val (v_extract rfl rfl) rfl ?_
  refine s_memN (m_alloc al_22 LEN_) APP_ rfl ?_
  refine s_storeR rfl rfl rfl rfl sz_22 EQ_ EQ_ SET_ ?_
  refine s_val (v_assignC rfl) rfl ?_
  refine s_nil ?_
  have hE5 : (!decide (cvAddT0 p q = cvAddT0 p q)) = false := by rw [decide_eq_true rfl]; rfl
  refine S_ ?_
  refine c_region ?_
  refine s_val (v_moveC rfl) rfl ?_
  refine s_val (v_moveC rfl) rfl ?_
  refine s_val (v_eqlN (a := 0) (b := 0) rfl rfl) rfl ?_
  refine s_val (v_neqB rfl rfl Try.underlying4) rfl ?_
  refine s_val (v_moveC rfl) rfl ?_
  refine s_go GO_ ?_
  refine s_val (v_loadR rfl rfl row_22 sz_22 EQ_ (by decide)) rfl ?_
  refine s_go GO_ ?_
  refine s_val (v_loadR rfl rfl row_22 sz_22 EQ_ (by decide)) rfl ?_
  refine s_go GO_ ?_
  refine s_val (v_bool (v_neqR8 rfl rfl Try.underlying22 Try.underlying5 sz_5 EQ_ EQ_) hE5) rfl ?_
  refine s_val (v_pickF rfl PK_ rfl) rfl ?_
  refine s_val (v_moveC rfl) rfl ?_
  refine s_go GO_ ?_
  refine s_val (v_moveC rfl) rfl ?_
  refine s_go GO_ ?_
  refine s_val (v_unnotB rfl) rfl ?_
  refine s_go GO_ ?_
  refine s_val (v_moveC rfl) rfl ?_
  refine s_no GO_ rfl ?_
  refine s_no GO_ rfl ?_
  refine s_go GO_ ?_
  refine s_val (v_pickF rfl PK_ rfl) rfl ?_
  refine s_val (v_pickF rfl PK_ rfl) rfl ?_
  refine s_nil ?_
  have hQ6 : (cvTmsT0 n p).length = 32 := LQ_
  refine S_ ?_
  refine c_region ?_
  refine s_val (v_loadR rfl rfl row_22 sz_22 EQ_ (by decide)) rfl ?_
  refine s_val (v_loadR rfl rfl row_22 sz_22 EQ_ (by decide)) rfl ?_
  refine s_evN (e_callR (bs := []) (cvTmsT_ev n p hn hp hk) ok_17 (by kernel_rfl) (by kernel_rfl) rfl VAL_) APP_ rfl ?_
  refine s_val (v_moveT rfl) rfl ?_
  refine s_val (v_extract rfl rfl) rfl ?_
  refine s_val (v_extract rfl rfl) rfl ?_
  refine s_storeR rfl rfl rfl rfl sz_22 EQ_ EQ_ SET_ ?_
  refine s_val (v_assignC rfl) rfl ?_
  refine s_nil ?_
  have hQ7 : (cvTmsT0 n p).length = 32 := LQ_
  refine S_ ?_
  refine c_region ?_
  refine s_val (v_loadR rfl rfl row_22 sz_22 EQ_ (by decide)) rfl ?_
  refine s_val (v_loadR rfl rfl row_22 sz_22 EQ_ (by decide)) rfl ?_
  refine s_evN (e_callR (bs := []) (rtT_ev n p hn hp hk) ok_28 (by kernel_rfl) (by kernel_rfl) rfl VAL_) APP_ rfl ?_
  refine s_val (v_moveT rfl) rfl ?_
  refine s_val (v_extract rfl rfl) rfl ?_
  refine s_val (v_extract rfl rfl) rfl ?_
  refine s_storeR rfl rfl rfl rfl sz_22 EQ_ EQ_ SET_ ?_
  refine s_val (v_assignC rfl) rfl ?_
  refine s_nil ?_
  have hE8 : (!decide (cvTmsT0 n p = cvTmsT0 n p)) = false := by rw [decide_eq_true rfl]; rfl
  refine S_ ?_
  refine c_region ?_
  refine s_val (v_moveC rfl) rfl ?_
  refine s_val (v_moveC rfl) rfl ?_
  refine s_val (v_eqlN (a := 0) (b := 0) rfl rfl) rfl ?_
  refine s_val (v_neqB rfl rfl Try.underlying4) rfl ?_
  refine s_val (v_moveC rfl) rfl ?_
  refine s_go GO_ ?_
  refine s_val (v_loadR rfl rfl row_22 sz_22 EQ_ (by decide)) rfl ?_
  refine s_go GO_ ?_
  refine s_val (v_loadR rfl rfl row_22 sz_22 EQ_ (by decide)) rfl ?_
  refine s_go GO_ ?_
  refine s_val (v_bool (v_neqR8 rfl rfl Try.underlying22 Try.underlying5 sz_5 EQ_ EQ_) hE8) rfl ?_
  refine s_val (v_pickF rfl PK_ rfl) rfl ?_
  refine s_val (v_moveC rfl) rfl ?_
  refine s_go GO_ ?_
  refine s_val (v_moveC rfl) rfl ?_
  refine s_go GO_ ?_
  refine s_val (v_unnotB rfl) rfl ?_
  refine s_go GO_ ?_
  refine s_val (v_moveC rfl) rfl ?_
  refine s_no GO_ rfl ?_
  refine s_no GO_ rfl ?_
  refine s_go GO_ ?_
  refine s_val (v_pickF rfl PK_ rfl) rfl ?_
  refine s_val (v_pickF rfl PK_ rfl) rfl ?_
  refine s_nil ?_
  have hQ10 : (enc (oB n)).length = 32 := LQ_
  have hE9 : (decide (enc (oB n) = enc (oB n))) = true := decide_eq_true rfl
  refine S_ ?_
  refine c_draw 9 mixed (by kernel_rfl) rfl rfl rfl ?_
  refine h_val (v_loadR rfl rfl row_22 sz_22 EQ_ (by decide)) rfl ?_
  refine h_evN (e_callR (bs := []) (bsE_ev n HYP_) ok_12 (by kernel_rfl) (by kernel_rfl) rfl VAL_) APP_ rfl ?_
  refine h_val (v_loadR rfl rfl row_22 sz_22 EQ_ (by decide)) rfl ?_
  refine h_evN (e_callR (bs := []) (rbs_ev n HYP_) ok_29 (by kernel_rfl) (by kernel_rfl) rfl VAL_) APP_ rfl ?_
  refine h_val (v_bool (v_eqlR8 rfl rfl Try.underlying22 Try.underlying5 sz_5 EQ_ EQ_) hE9) rfl ?_
  refine h_val (v_moveC rfl) rfl ?_
  refine h_go GO_ ?_
  refine h_evN (e_callR (wakes_ev) ok_16 rfl rfl rfl VAL_) APP_ rfl ?_
  refine h_val (v_pickT rfl PK_ rfl) rfl ?_
  refine h_val (v_assignC rfl) rfl ?_
  refine h_nil ?_
  refine s_nil ?_
  refine S_ ?_
  exact k_1 (by first | exact r_tmpC rfl | exact r_tmpA rfl) (by first | kernel_rfl | rfl)
end Go.Proofs.Ytcekjmejppemeaa
/- trystlaw08.CurveExact (Drawn up by a program.) -/
namespace Go.Proofs.Ytcekjmejppemeaa
open Go.RowKit

set_option maxRecDepth 100000 in
set_option maxHeartbeats 2000000 in
theorem cvExF_ev (p : List (BitVec 8)) (q : List (BitVec 8)) (n : List (BitVec 8)) (hp : p.length = 32) (hq : q.length = 32) (hn : n.length = 32) (hk : unOk p = true) (hq_ : unOk q = false) : Ev Try.prog (.call 7 [.agg (.a8 (p)), .agg (.a8 (q)), .agg (.a8 (n))] []) (.val (.c (.val (.bool (true)))) []) := by
  refine c_call Try.func7 rfl Try.ntmps7 rfl LEN_ ?_
  refine S_ ?_
  refine c_region ?_
  refine s_memN (m_box BX_ LEN_) APP_ rfl ?_
  refine s_memN (m_box BX_ LEN_) APP_ rfl ?_
  refine s_memN (m_box BX_ LEN_) APP_ rfl ?_
  refine s_val (v_assignC rfl) rfl ?_
  refine s_nil ?_
  have hQ2 : (rdP p).length = 16 := LQ_
  have hE1 : (unOk p) = true := hk
  refine S_ ?_
  refine c_region ?_
  refine s_val (v_loadR rfl rfl row_22 sz_22 EQ_ (by decide)) rfl ?_
  refine s_evN (e_callR (bs := []) (rfDec_ev p HYP_) ok_26 (by kernel_rfl) (by kernel_rfl) rfl VAL_) APP_ rfl ?_
  refine s_val (v_moveT rfl) rfl ?_
  refine s_val (v_extract rfl rfl) rfl ?_
  refine s_val (v_bool (v_extract rfl rfl) hE1) rfl ?_
  refine s_memN (m_alloc al_42 LEN_) APP_ rfl ?_
  refine s_storeR rfl rfl rfl rfl sz_42 EQ_ EQ_ SET_ ?_
  refine s_val (v_assignC rfl) rfl ?_
  refine s_nil ?_
  refine S_ ?_
  refine c_region ?_
  refine s_val (v_loadR rfl rfl row_22 sz_22 EQ_ (by decide)) rfl ?_
  refine s_evN (e_callR (bs := []) (cvCheckT_ev p hp hk) ok_14 (by kernel_rfl) (by kernel_rfl) rfl VAL_) APP_ rfl ?_
  refine s_val (v_eqlN (a := 0) (b := 0) rfl rfl) rfl ?_
  refine s_val (v_moveC rfl) rfl ?_
  refine s_val (v_neqB rfl rfl Try.underlying4) rfl ?_
  refine s_val (v_moveC rfl) rfl ?_
  refine s_go GO_ ?_
  refine s_val (v_moveC rfl) rfl ?_
  refine s_go GO_ ?_
  refine s_val (v_unnotB rfl) rfl ?_
  refine s_go GO_ ?_
  refine s_val (v_moveC rfl) rfl ?_
  refine s_no GO_ rfl ?_
  refine s_no GO_ rfl ?_
  refine s_no GO_ rfl ?_
  refine s_go GO_ ?_
  refine s_val (v_pickF rfl PK_ rfl) rfl ?_
  refine s_val (v_pickF rfl PK_ rfl) rfl ?_
  refine s_nil ?_
  have hQ3 : (cvAddF0).length = 32 := LQ_
  refine S_ ?_
  refine c_region ?_
  refine s_val (v_loadR rfl rfl row_22 sz_22 EQ_ (by decide)) rfl ?_
  refine s_val (v_loadR rfl rfl row_22 sz_22 EQ_ (by decide)) rfl ?_
  refine s_evN (e_callR (bs := []) (cvAddF_ev p q hp hq hk hq_) ok_13 (by kernel_rfl) (by kernel_rfl) rfl VAL_) APP_ rfl ?_
  refine s_val (v_moveT rfl) rfl ?_
  refine s_val (v_extract rfl rfl) rfl ?_
  refine s_val (v_extract rfl rfl) rfl ?_
  refine s_memN (m_alloc al_22 LEN_) APP_ rfl ?_
  refine s_storeR rfl rfl rfl rfl sz_22 EQ_ EQ_ SET_ ?_
  refine s_val (v_assignC rfl) rfl ?_
  refine s_nil ?_
  have hQ4 : (rfSumF0).length = 32 := LQ_
  refine S_ ?_
  refine c_region ?_
  refine s_val (v_loadR rfl rfl row_22 sz_22 EQ_ (by decide)) rfl ?_
  refine s_val (v_loadR rfl rfl row_22 sz_22 EQ_ (by decide)) rfl ?_
  refine s_evN (e_callR (bs := []) (rfSumF_ev p q hp hq hk hq_) ok_27 (by kernel_rfl) (by kernel_rfl) rfl VAL_) APP_ rfl ?_
  refine s_val (v_moveT rfl) rfl ?_
  refine s_val (v_extract rfl rfl) rfl ?_
  refine s_val (v_extract rfl rfl) rfl ?_
  refine s_memN (m_alloc al_22 LEN_) APP_ rfl ?_
  refine s_storeR rfl rfl rfl rfl sz_22 EQ_ EQ_ SET_ ?_
  refine s_val (v_assignC rfl) rfl ?_
  refine s_nil ?_
  have hE5 : (!decide (cvAddF0 = rfSumF0)) = false := by rw [decide_eq_true (by unfold cvAddF0 rfSumF0; rfl)]; rfl
  refine S_ ?_
  refine c_region ?_
  refine s_val (v_moveC rfl) rfl ?_
  refine s_val (v_moveC rfl) rfl ?_
  refine s_val (v_eqlN (a := 4) (b := 0) rfl rfl) rfl ?_
  refine s_val (v_neqB rfl rfl Try.underlying4) rfl ?_
  refine s_val (v_moveC rfl) rfl ?_
  refine s_go GO_ ?_
  refine s_val (v_loadR rfl rfl row_22 sz_22 EQ_ (by decide)) rfl ?_
  refine s_go GO_ ?_
  refine s_val (v_loadR rfl rfl row_22 sz_22 EQ_ (by decide)) rfl ?_
  refine s_go GO_ ?_
  refine s_val (v_bool (v_neqR8 rfl rfl Try.underlying22 Try.underlying5 sz_5 EQ_ EQ_) hE5) rfl ?_
  refine s_val (v_pickF rfl PK_ rfl) rfl ?_
  refine s_val (v_moveC rfl) rfl ?_
  refine s_go GO_ ?_
  refine s_val (v_moveC rfl) rfl ?_
  refine s_go GO_ ?_
  refine s_val (v_unnotB rfl) rfl ?_
  refine s_go GO_ ?_
  refine s_val (v_moveC rfl) rfl ?_
  refine s_go GO_ ?_
  refine s_val (v_moveC rfl) rfl ?_
  refine s_go GO_ ?_
  refine s_val (v_neqN (a := 4) (b := 4) rfl rfl) rfl ?_
  refine s_go GO_ ?_
  refine s_val (v_pickT rfl PK_ rfl) rfl ?_
  refine s_val (v_pickF rfl PK_ rfl) rfl ?_
  refine s_nil ?_
  have hQ6 : (cvTmsT0 n p).length = 32 := LQ_
  refine S_ ?_
  refine c_region ?_
  refine s_val (v_loadR rfl rfl row_22 sz_22 EQ_ (by decide)) rfl ?_
  refine s_val (v_loadR rfl rfl row_22 sz_22 EQ_ (by decide)) rfl ?_
  refine s_evN (e_callR (bs := []) (cvTmsT_ev n p hn hp hk) ok_17 (by kernel_rfl) (by kernel_rfl) rfl VAL_) APP_ rfl ?_
  refine s_val (v_moveT rfl) rfl ?_
  refine s_val (v_extract rfl rfl) rfl ?_
  refine s_val (v_extract rfl rfl) rfl ?_
  refine s_storeR rfl rfl rfl rfl sz_22 EQ_ EQ_ SET_ ?_
  refine s_val (v_assignC rfl) rfl ?_
  refine s_nil ?_
  have hQ7 : (cvTmsT0 n p).length = 32 := LQ_
  refine S_ ?_
  refine c_region ?_
  refine s_val (v_loadR rfl rfl row_22 sz_22 EQ_ (by decide)) rfl ?_
  refine s_val (v_loadR rfl rfl row_22 sz_22 EQ_ (by decide)) rfl ?_
  refine s_evN (e_callR (bs := []) (rtT_ev n p hn hp hk) ok_28 (by kernel_rfl) (by kernel_rfl) rfl VAL_) APP_ rfl ?_
  refine s_val (v_moveT rfl) rfl ?_
  refine s_val (v_extract rfl rfl) rfl ?_
  refine s_val (v_extract rfl rfl) rfl ?_
  refine s_storeR rfl rfl rfl rfl sz_22 EQ_ EQ_ SET_ ?_
  refine s_val (v_assignC rfl) rfl ?_
  refine s_nil ?_
  have hE8 : (!decide (cvTmsT0 n p = cvTmsT0 n p)) = false := by rw [decide_eq_true rfl]; rfl
  refine S_ ?_
  refine c_region ?_
  refine s_val (v_moveC rfl) rfl ?_
  refine s_val (v_moveC rfl) rfl ?_
  refine s_val (v_eqlN (a := 0) (b := 0) rfl rfl) rfl ?_
  refine s_val (v_neqB rfl rfl Try.underlying4) rfl ?_
  refine s_val (v_moveC rfl) rfl ?_
  refine s_go GO_ ?_
  refine s_val (v_loadR rfl rfl row_22 sz_22 EQ_ (by decide)) rfl ?_
  refine s_go GO_ ?_
  refine s_val (v_loadR rfl rfl row_22 sz_22 EQ_ (by decide)) rfl ?_
  refine s_go GO_ ?_
  refine s_val (v_bool (v_neqR8 rfl rfl Try.underlying22 Try.underlying5 sz_5 EQ_ EQ_) hE8) rfl ?_
  refine s_val (v_pickF rfl PK_ rfl) rfl ?_
  refine s_val (v_moveC rfl) rfl ?_
  refine s_go GO_ ?_
  refine s_val (v_moveC rfl) rfl ?_
  refine s_go GO_ ?_
  refine s_val (v_unnotB rfl) rfl ?_
  refine s_go GO_ ?_
  refine s_val (v_moveC rfl) rfl ?_
  refine s_no GO_ rfl ?_
  refine s_no GO_ rfl ?_
  refine s_go GO_ ?_
  refine s_val (v_pickF rfl PK_ rfl) rfl ?_
  refine s_val (v_pickF rfl PK_ rfl) rfl ?_
  refine s_nil ?_
  have hQ10 : (enc (oB n)).length = 32 := LQ_
  have hE9 : (decide (enc (oB n) = enc (oB n))) = true := decide_eq_true rfl
  refine S_ ?_
  refine c_draw 9 mixed (by kernel_rfl) rfl rfl rfl ?_
  refine h_val (v_loadR rfl rfl row_22 sz_22 EQ_ (by decide)) rfl ?_
  refine h_evN (e_callR (bs := []) (bsE_ev n HYP_) ok_12 (by kernel_rfl) (by kernel_rfl) rfl VAL_) APP_ rfl ?_
  refine h_val (v_loadR rfl rfl row_22 sz_22 EQ_ (by decide)) rfl ?_
  refine h_evN (e_callR (bs := []) (rbs_ev n HYP_) ok_29 (by kernel_rfl) (by kernel_rfl) rfl VAL_) APP_ rfl ?_
  refine h_val (v_bool (v_eqlR8 rfl rfl Try.underlying22 Try.underlying5 sz_5 EQ_ EQ_) hE9) rfl ?_
  refine h_val (v_moveC rfl) rfl ?_
  refine h_go GO_ ?_
  refine h_evN (e_callR (wakes_ev) ok_16 rfl rfl rfl VAL_) APP_ rfl ?_
  refine h_val (v_pickT rfl PK_ rfl) rfl ?_
  refine h_val (v_assignC rfl) rfl ?_
  refine h_nil ?_
  refine s_nil ?_
  refine S_ ?_
  exact k_1 (by first | exact r_tmpC rfl | exact r_tmpA rfl) (by first | kernel_rfl | rfl)
end Go.Proofs.Ytcekjmejppemeaa
/- trystlaw08.CurveExact (Drawn up by a program.) -/
namespace Go.Proofs.Ytcekjmejppemeaa
open Go.RowKit

set_option maxRecDepth 100000 in
set_option maxHeartbeats 2000000 in
theorem cvExN_ev (p : List (BitVec 8)) (q : List (BitVec 8)) (n : List (BitVec 8)) (hp : p.length = 32) (hq : q.length = 32) (hn : n.length = 32) (hk : unOk p = false) : Ev Try.prog (.call 7 [.agg (.a8 (p)), .agg (.a8 (q)), .agg (.a8 (n))] []) (.val (.c (.val (.bool (true)))) []) := by
  refine c_call Try.func7 rfl Try.ntmps7 rfl LEN_ ?_
  refine S_ ?_
  refine c_region ?_
  refine s_memN (m_box BX_ LEN_) APP_ rfl ?_
  refine s_memN (m_box BX_ LEN_) APP_ rfl ?_
  refine s_memN (m_box BX_ LEN_) APP_ rfl ?_
  refine s_val (v_assignC rfl) rfl ?_
  refine s_nil ?_
  have hQ2 : (rdP p).length = 16 := LQ_
  have hE1 : (unOk p) = false := hk
  refine S_ ?_
  refine c_region ?_
  refine s_val (v_loadR rfl rfl row_22 sz_22 EQ_ (by decide)) rfl ?_
  refine s_evN (e_callR (bs := []) (rfDec_ev p HYP_) ok_26 (by kernel_rfl) (by kernel_rfl) rfl VAL_) APP_ rfl ?_
  refine s_val (v_moveT rfl) rfl ?_
  refine s_val (v_extract rfl rfl) rfl ?_
  refine s_val (v_bool (v_extract rfl rfl) hE1) rfl ?_
  refine s_memN (m_alloc al_42 LEN_) APP_ rfl ?_
  refine s_storeR rfl rfl rfl rfl sz_42 EQ_ EQ_ SET_ ?_
  refine s_val (v_assignC rfl) rfl ?_
  refine s_nil ?_
  refine S_ ?_
  refine c_region ?_
  refine s_val (v_loadR rfl rfl row_22 sz_22 EQ_ (by decide)) rfl ?_
  refine s_evN (e_callR (bs := []) (cvCheckF_ev p hp hk) ok_14 (by kernel_rfl) (by kernel_rfl) rfl VAL_) APP_ rfl ?_
  refine s_val (v_eqlN (a := 4) (b := 0) rfl rfl) rfl ?_
  refine s_val (v_moveC rfl) rfl ?_
  refine s_val (v_neqB rfl rfl Try.underlying4) rfl ?_
  refine s_val (v_moveC rfl) rfl ?_
  refine s_go GO_ ?_
  refine s_val (v_moveC rfl) rfl ?_
  refine s_go GO_ ?_
  refine s_val (v_unnotB rfl) rfl ?_
  refine s_go GO_ ?_
  refine s_val (v_moveC rfl) rfl ?_
  refine s_go GO_ ?_
  refine s_val (v_loadR rfl rfl row_22 sz_22 EQ_ (by decide)) rfl ?_
  refine s_go GO_ ?_
  refine s_evN (e_callR (bs := []) (cvCheckF_ev p hp hk) ok_14 (by kernel_rfl) (by kernel_rfl) rfl VAL_) APP_ rfl ?_
  refine s_go GO_ ?_
  refine s_val (v_neqN (a := 4) (b := 4) rfl rfl) rfl ?_
  refine s_go GO_ ?_
  refine s_val (v_pickT rfl PK_ rfl) rfl ?_
  refine s_val (v_pickF rfl PK_ rfl) rfl ?_
  refine s_nil ?_
  have hQ3 : (cvAddN0).length = 32 := LQ_
  refine S_ ?_
  refine c_region ?_
  refine s_val (v_loadR rfl rfl row_22 sz_22 EQ_ (by decide)) rfl ?_
  refine s_val (v_loadR rfl rfl row_22 sz_22 EQ_ (by decide)) rfl ?_
  refine s_evN (e_callR (bs := []) (cvAddN_ev p q hp hq hk) ok_13 (by kernel_rfl) (by kernel_rfl) rfl VAL_) APP_ rfl ?_
  refine s_val (v_moveT rfl) rfl ?_
  refine s_val (v_extract rfl rfl) rfl ?_
  refine s_val (v_extract rfl rfl) rfl ?_
  refine s_memN (m_alloc al_22 LEN_) APP_ rfl ?_
  refine s_storeR rfl rfl rfl rfl sz_22 EQ_ EQ_ SET_ ?_
  refine s_val (v_assignC rfl) rfl ?_
  refine s_nil ?_
  have hQ4 : (rfSumN0).length = 32 := LQ_
  refine S_ ?_
  refine c_region ?_
  refine s_val (v_loadR rfl rfl row_22 sz_22 EQ_ (by decide)) rfl ?_
  refine s_val (v_loadR rfl rfl row_22 sz_22 EQ_ (by decide)) rfl ?_
  refine s_evN (e_callR (bs := []) (rfSumN_ev p q hp hq hk) ok_27 (by kernel_rfl) (by kernel_rfl) rfl VAL_) APP_ rfl ?_
  refine s_val (v_moveT rfl) rfl ?_
  refine s_val (v_extract rfl rfl) rfl ?_
  refine s_val (v_extract rfl rfl) rfl ?_
  refine s_memN (m_alloc al_22 LEN_) APP_ rfl ?_
  refine s_storeR rfl rfl rfl rfl sz_22 EQ_ EQ_ SET_ ?_
  refine s_val (v_assignC rfl) rfl ?_
  refine s_nil ?_
  have hE5 : (!decide (cvAddN0 = rfSumN0)) = false := by rw [decide_eq_true (by unfold cvAddN0 rfSumN0; rfl)]; rfl
  refine S_ ?_
  refine c_region ?_
  refine s_val (v_moveC rfl) rfl ?_
  refine s_val (v_moveC rfl) rfl ?_
  refine s_val (v_eqlN (a := 4) (b := 0) rfl rfl) rfl ?_
  refine s_val (v_neqB rfl rfl Try.underlying4) rfl ?_
  refine s_val (v_moveC rfl) rfl ?_
  refine s_go GO_ ?_
  refine s_val (v_loadR rfl rfl row_22 sz_22 EQ_ (by decide)) rfl ?_
  refine s_go GO_ ?_
  refine s_val (v_loadR rfl rfl row_22 sz_22 EQ_ (by decide)) rfl ?_
  refine s_go GO_ ?_
  refine s_val (v_bool (v_neqR8 rfl rfl Try.underlying22 Try.underlying5 sz_5 EQ_ EQ_) hE5) rfl ?_
  refine s_val (v_pickF rfl PK_ rfl) rfl ?_
  refine s_val (v_moveC rfl) rfl ?_
  refine s_go GO_ ?_
  refine s_val (v_moveC rfl) rfl ?_
  refine s_go GO_ ?_
  refine s_val (v_unnotB rfl) rfl ?_
  refine s_go GO_ ?_
  refine s_val (v_moveC rfl) rfl ?_
  refine s_go GO_ ?_
  refine s_val (v_moveC rfl) rfl ?_
  refine s_go GO_ ?_
  refine s_val (v_neqN (a := 4) (b := 4) rfl rfl) rfl ?_
  refine s_go GO_ ?_
  refine s_val (v_pickT rfl PK_ rfl) rfl ?_
  refine s_val (v_pickF rfl PK_ rfl) rfl ?_
  refine s_nil ?_
  have hQ6 : (cvTmsF0).length = 32 := LQ_
  refine S_ ?_
  refine c_region ?_
  refine s_val (v_loadR rfl rfl row_22 sz_22 EQ_ (by decide)) rfl ?_
  refine s_val (v_loadR rfl rfl row_22 sz_22 EQ_ (by decide)) rfl ?_
  refine s_evN (e_callR (bs := []) (cvTmsF_ev n p hn hp hk) ok_17 (by kernel_rfl) (by kernel_rfl) rfl VAL_) APP_ rfl ?_
  refine s_val (v_moveT rfl) rfl ?_
  refine s_val (v_extract rfl rfl) rfl ?_
  refine s_val (v_extract rfl rfl) rfl ?_
  refine s_storeR rfl rfl rfl rfl sz_22 EQ_ EQ_ SET_ ?_
  refine s_val (v_assignC rfl) rfl ?_
  refine s_nil ?_
  have hQ7 : (rfTmsF0).length = 32 := LQ_
  refine S_ ?_
  refine c_region ?_
  refine s_val (v_loadR rfl rfl row_22 sz_22 EQ_ (by decide)) rfl ?_
  refine s_val (v_loadR rfl rfl row_22 sz_22 EQ_ (by decide)) rfl ?_
  refine s_evN (e_callR (bs := []) (rfTmsF_ev n p hn hp hk) ok_28 (by kernel_rfl) (by kernel_rfl) rfl VAL_) APP_ rfl ?_
  refine s_val (v_moveT rfl) rfl ?_
  refine s_val (v_extract rfl rfl) rfl ?_
  refine s_val (v_extract rfl rfl) rfl ?_
  refine s_storeR rfl rfl rfl rfl sz_22 EQ_ EQ_ SET_ ?_
  refine s_val (v_assignC rfl) rfl ?_
  refine s_nil ?_
  have hE8 : (!decide (cvTmsF0 = rfTmsF0)) = false := by rw [decide_eq_true (by unfold cvTmsF0 rfTmsF0; rfl)]; rfl
  refine S_ ?_
  refine c_region ?_
  refine s_val (v_moveC rfl) rfl ?_
  refine s_val (v_moveC rfl) rfl ?_
  refine s_val (v_eqlN (a := 4) (b := 0) rfl rfl) rfl ?_
  refine s_val (v_neqB rfl rfl Try.underlying4) rfl ?_
  refine s_val (v_moveC rfl) rfl ?_
  refine s_go GO_ ?_
  refine s_val (v_loadR rfl rfl row_22 sz_22 EQ_ (by decide)) rfl ?_
  refine s_go GO_ ?_
  refine s_val (v_loadR rfl rfl row_22 sz_22 EQ_ (by decide)) rfl ?_
  refine s_go GO_ ?_
  refine s_val (v_bool (v_neqR8 rfl rfl Try.underlying22 Try.underlying5 sz_5 EQ_ EQ_) hE8) rfl ?_
  refine s_val (v_pickF rfl PK_ rfl) rfl ?_
  refine s_val (v_moveC rfl) rfl ?_
  refine s_go GO_ ?_
  refine s_val (v_moveC rfl) rfl ?_
  refine s_go GO_ ?_
  refine s_val (v_unnotB rfl) rfl ?_
  refine s_go GO_ ?_
  refine s_val (v_moveC rfl) rfl ?_
  refine s_go GO_ ?_
  refine s_val (v_moveC rfl) rfl ?_
  refine s_go GO_ ?_
  refine s_val (v_neqN (a := 4) (b := 4) rfl rfl) rfl ?_
  refine s_go GO_ ?_
  refine s_val (v_pickT rfl PK_ rfl) rfl ?_
  refine s_val (v_pickF rfl PK_ rfl) rfl ?_
  refine s_nil ?_
  have hQ10 : (enc (oB n)).length = 32 := LQ_
  have hE9 : (decide (enc (oB n) = enc (oB n))) = true := decide_eq_true rfl
  refine S_ ?_
  refine c_draw 9 mixed (by kernel_rfl) rfl rfl rfl ?_
  refine h_val (v_loadR rfl rfl row_22 sz_22 EQ_ (by decide)) rfl ?_
  refine h_evN (e_callR (bs := []) (bsE_ev n HYP_) ok_12 (by kernel_rfl) (by kernel_rfl) rfl VAL_) APP_ rfl ?_
  refine h_val (v_loadR rfl rfl row_22 sz_22 EQ_ (by decide)) rfl ?_
  refine h_evN (e_callR (bs := []) (rbs_ev n HYP_) ok_29 (by kernel_rfl) (by kernel_rfl) rfl VAL_) APP_ rfl ?_
  refine h_val (v_bool (v_eqlR8 rfl rfl Try.underlying22 Try.underlying5 sz_5 EQ_ EQ_) hE9) rfl ?_
  refine h_val (v_moveC rfl) rfl ?_
  refine h_go GO_ ?_
  refine h_evN (e_callR (wakes_ev) ok_16 rfl rfl rfl VAL_) APP_ rfl ?_
  refine h_val (v_pickT rfl PK_ rfl) rfl ?_
  refine h_val (v_assignC rfl) rfl ?_
  refine h_nil ?_
  refine s_nil ?_
  refine S_ ?_
  exact k_1 (by first | exact r_tmpC rfl | exact r_tmpA rfl) (by first | kernel_rfl | rfl)
end Go.Proofs.Ytcekjmejppemeaa
/- curve's points are the reference's: all cases. -/
namespace Go.Proofs.Ytcekjmejppemeaa
open Go.RowKit
theorem curveExact_ev (p q n : List (BitVec 8)) (hp : p.length = 32) (hq : q.length = 32) (hn : n.length = 32) : Ev Try.prog (.call 7 [.agg (.a8 (p)), .agg (.a8 (q)), .agg (.a8 (n))] []) (.val (.c (.val (.bool (true)))) []) := by
  cases hk : unOk p with
  | false => exact cvExN_ev p q n hp hq hn hk
  | true =>
    cases hq_ : unOk q with
    | true => exact cvExT_ev p q n hp hq hn hk hq_
    | false => exact cvExF_ev p q n hp hq hn hk hq_
end Go.Proofs.Ytcekjmejppemeaa
/- Slices of bytes: what a slice reads as, what a call owns, appending. -/
namespace Go.Proofs.Ytcekjmejppemeaa
open Go.RowKit

/-- The slice value v reads as the bytes l. -/
def Sl (w : World) (v : Value) (l : List (BitVec 8)) : Prop :=
  ∃ a cap, v = .slice a l.length cap ∧ l.length ≤ cap ∧ cap ≤ maxLen ∧ (a = none → cap = 0) ∧ ∀ i, i < l.length → ∃ b off, a = some ⟨b, off, none⟩ ∧ w.cell? ⟨b, off + i, none⟩ = some (U8 (nth l i))
/-- The call owns the slice v, from block B on; it reads as l. -/
def Own (B : Nat) (w : World) (v : Value) (l : List (BitVec 8)) : Prop := w.ownsRow B 5 1 v l.length (l.map U8)

theorem Sl.nil (w : World) : Sl w (.slice none 0 0) [] := ⟨none, 0, rfl, Nat.le_refl _, by unfold maxLen; omega, fun _ => rfl, fun i h => absurd h (by simp)⟩
theorem addr_mid (b o j : Nat) : (⟨b, o, none⟩ : Addr).add j = ⟨b, o + j, none⟩ := Addr.add_mid b o j
theorem Own.sl {B : Nat} {w : World} {v : Value} {l : List (BitVec 8)} (h : Own B w v l) : Sl w v l := by
  obtain ⟨h1, h2⟩ := h
  rcases h2 with ⟨rfl, hn⟩ | ⟨g, cap, cur, rfl, hg, hh, hc, hm, hs, ht⟩
  · obtain rfl : l = [] := List.length_eq_zero_iff.1 hn
    exact Sl.nil w
  · refine ⟨some ⟨g, 0, none⟩, cap, rfl, hc, hm, (fun h => by cases h), fun i hi => ⟨g, 0, rfl, ?_⟩⟩
    rw [cell_of_row w g (0 + i) cur _ _ hh]
    have := congrArg (fun x => x[i]?) ht
    simp only [List.getElem?_take, Nat.mul_one, hi, if_true, List.getElem?_map] at this
    rw [Nat.zero_add, ← Array.getElem?_toList, this]
    simp [nth, hi]
theorem Own.nil (B : Nat) (w : World) : Own B w (.slice none 0 0) [] := World.ownsRow_nil w B _ 1
/-- The shape of a slice that is not empty. -/
theorem Sl.shape {w : World} {v : Value} {l : List (BitVec 8)} (h : Sl w v l) (hl : l ≠ []) : ∃ b off cap, v = .slice (some ⟨b, off, none⟩) l.length cap ∧ l.length ≤ cap ∧ cap ≤ maxLen ∧ ∀ i, i < l.length → w.cell? ⟨b, off + i, none⟩ = some (U8 (nth l i)) := by
  obtain ⟨a, cap, rfl, hc, hm, _, hi⟩ := h
  have hp : 0 < l.length := List.length_pos_iff.2 hl
  obtain ⟨b, off, rfl, _⟩ := hi 0 hp
  refine ⟨b, off, cap, rfl, hc, hm, fun i h => ?_⟩
  obtain ⟨b', off', e, hcell⟩ := hi i h
  simp only [Option.some.injEq, Addr.mk.injEq] at e
  obtain ⟨rfl, rfl, _⟩ := e
  exact hcell
theorem Sl.len {w : World} {v : Value} {l : List (BitVec 8)} (h : Sl w v l) : ∃ a cap, v = .slice a l.length cap := by obtain ⟨a, cap, h, _⟩ := h; exact ⟨a, cap, h⟩
theorem Sl.mk {w : World} {b off len cap : Nat} {l : List (BitVec 8)} (hl : l.length = len) (hc : len ≤ cap) (hm : cap ≤ maxLen) (h : ∀ i, i < len → w.cell? ⟨b, off + i, none⟩ = some (U8 (nth l i))) : Sl w (.slice (some ⟨b, off, none⟩) len cap) l := by
  subst hl
  exact ⟨_, cap, rfl, hc, hm, fun h => (by cases h), fun i hi => ⟨b, off, rfl, h i hi⟩⟩
theorem Sl.below {w w' : World} {v : Value} {l : List (BitVec 8)} (h : Sl w v l) (hb : Below w.heap.size w w') : Sl w' v l := by
  obtain ⟨a, cap, rfl, hc, hm, hn, hi⟩ := h
  refine ⟨a, cap, rfl, hc, hm, hn, fun i h => ?_⟩
  obtain ⟨b, off, e, hcell⟩ := hi i h
  refine ⟨b, off, e, ?_⟩
  rw [hb.cell (World.block_lt_of_cell? w _ hcell)]; exact hcell
/-- What is changed lies elsewhere. -/
theorem Sl.same {w w' : World} {v : Value} {l : List (BitVec 8)} (h : Sl w v l) (hb : ∀ k, (l ≠ [] → v.ownBlock = some k) → w'.heap[k]? = w.heap[k]?) : Sl w' v l := by
  obtain ⟨a, cap, rfl, hc, hm, hn, hi⟩ := h
  refine ⟨a, cap, rfl, hc, hm, hn, fun i h => ?_⟩
  obtain ⟨b, off, rfl, hcell⟩ := hi i h
  refine ⟨b, off, rfl, ?_⟩
  rw [World.cell?_of_block (w := w) (w' := w') (hb b fun _ => rfl)]; exact hcell
theorem Sl.upto {w : World} {v : Value} {l : List (BitVec 8)} (h : Sl w v l) (hl : l ≠ []) : ∃ k, v.ownBlock = some k ∧ k < w.heap.size := by
  obtain ⟨b, off, cap, rfl, _, _, hi⟩ := h.shape hl
  exact ⟨b, rfl, World.block_lt_of_cell? w _ (hi 0 (List.length_pos_iff.2 hl))⟩

theorem Own.below {B : Nat} {w w' : World} {v : Value} {l : List (BitVec 8)} (h : Own B w v l) (hb : Below w.heap.size w w') : Own B w' v l := by
  obtain ⟨h1, h2⟩ := h
  refine ⟨h1, ?_⟩
  rcases h2 with h2 | ⟨g, cap, cur, rfl, hg, hh, r⟩
  · exact Or.inl h2
  · exact Or.inr ⟨g, cap, cur, rfl, hg, by rw [hb.block g (Array.getElem?_eq_some_iff.1 hh).1]; exact hh, r⟩
theorem Own.mono {B B' : Nat} {w : World} {v : Value} {l : List (BitVec 8)} (h : Own B w v l) (hB : B' ≤ B) : Own B' w v l := by
  obtain ⟨h1, h2⟩ := h
  refine ⟨h1, ?_⟩
  rcases h2 with h2 | ⟨g, cap, cur, rfl, hg, hh, r⟩
  · exact Or.inl h2
  · exact Or.inr ⟨g, cap, cur, rfl, Nat.le_trans hB hg, hh, r⟩
theorem Has.grown {w w' : World} {b : Nat} {cs : Array Value} {t : TypeId} {row : Option Nat} (h : Has w b cs t) (hg : w.grownBy w' row) (hb : some b ≠ row) : Has w' b cs t := by
  have := h.lt; unfold Has at *; rw [hg.block b this hb]; exact h
theorem Sl.grown {w w' : World} {v : Value} {l : List (BitVec 8)} {row : Option Nat} (h : Sl w v l) (hg : w.grownBy w' row) (hb : l ≠ [] → v.ownBlock ≠ row) : Sl w' v l := by
  by_cases hl : l = []
  · subst hl
    obtain ⟨a, cap, rfl, hc, hm, hn, hi⟩ := h
    exact ⟨a, cap, rfl, hc, hm, hn, fun i h => absurd h (by simp)⟩
  · obtain ⟨k, hk, hk2⟩ := h.upto hl
    refine h.same fun j hj => ?_
    have : j = k := by have := hj hl; rw [hk] at this; simpa using this.symm
    subst this
    exact hg.block j hk2 (by rw [← hk]; exact hb hl)

/-- Bytes appended to a slice that the call owns. -/
theorem wpList_append8 {P : Program} (w : World) {ops : Array Oper} {rest : List Oper} {o : Oper} {a : Act} {Q : Exit → Act → World → Prop} (hgd : o.guard = none) (s x : Operand) (t : TypeId)
    (ho : o.op = .call { callee := .builtin .append, args := #[s, x], argTypes := #[t, t] }) (B : Nat) (ht : P.underlying t = some (.slice 5)) (hi : (P.info? 5).map (fun i => (i.zero, i.size, i.bytes)) = some (some (.int .u8 0), 1, 1))
    (v : Value) (l m : List (BitVec 8)) (hs : a.eval s = v) (hown : Own B w v l) (u : Value) (hx : a.eval x = u) (hu : Sl w u m) (h46 : l.length + m.length ≤ 70368744177664) (hB : B ≤ w.heap.size)
    (h : ∀ v' w', Own B w' v' (l ++ m) → w.grownBy w' v.ownBlock → wpList P ops Q rest (a.put o.dst v') w') : wpList P ops Q (o :: rest) a w := by
  obtain ⟨i0, hi0, hz0, hz1, hz2⟩ := info_parts hi
  obtain ⟨ad, cap, rfl, hc, hm, hn, hcell⟩ := hu
  cases ad with
  | none =>
    obtain rfl := hn rfl
    have hm0 : m.length = 0 := by omega
    obtain rfl : m = [] := List.length_eq_zero_iff.1 hm0
    refine wpList_append_own_none hgd s x t ho B 5 i0 1 ht hi0 v l.length (l.map U8) hs hown hx ?_
    exact h v w (by simpa using hown) ⟨rfl, rfl, rfl, Nat.le_refl _, fun _ _ _ => rfl⟩
  | some p =>
    refine wpList_append_own w hgd s x t ho B 5 i0 (.int .u8 0) 1 1 ht hi0 hz0 hz1 hz2 rfl (by decide) v l.length (l.map U8) hs hown p m.length cap (m.map U8) hx (by simp) ?_ ?_ (by unfold maxLen; omega) (by omega) hB ?_
    · intro j y hy
      rw [List.getElem?_map] at hy
      obtain ⟨z, hz, rfl⟩ := Option.map_eq_some_iff.1 hy
      have hj : j < m.length := (List.getElem?_eq_some_iff.1 hz).1
      obtain ⟨b, off, e, hc2⟩ := hcell j hj
      obtain rfl := Option.some.inj e
      rw [addr_mid, hc2]
      simp [nth, hz]
    · intro y hy
      obtain ⟨z, _, rfl⟩ := List.mem_map.1 hy
      rfl
    · intro v' w' hown' hg _
      exact h v' w' (by unfold Own; rw [List.length_append, List.map_append]; exact hown') hg
/-- The same as a law on the operation's run. -/
theorem run_append8 {P : Program} (w : World) (t ty : TypeId) (B : Nat) (ht : P.underlying t = some (.slice 5)) (hi : (P.info? 5).map (fun i => (i.zero, i.size, i.bytes)) = some (some (.int .u8 0), 1, 1))
    (v : Value) (l m : List (BitVec 8)) (hown : Own B w v l) (u : Value) (hu : Sl w u m) (h46 : l.length + m.length ≤ 70368744177664) (hB : B ≤ w.heap.size) :
    ∃ v' w', (Builtin.append_ #[t, t] ty #[v, u]).run P w = .ok v' w' ∧ Own B w' v' (l ++ m) ∧ w.grownBy w' v.ownBlock := by
  obtain ⟨i0, hi0, hz0, hz1, hz2⟩ := info_parts hi
  obtain ⟨ad, cap, rfl, hc, hm, hn, hcell⟩ := hu
  cases ad with
  | none =>
    obtain rfl := hn rfl
    have hm0 : m.length = 0 := by omega
    obtain rfl : m = [] := List.length_eq_zero_iff.1 hm0
    exact ⟨v, w, run_append_owned_none w B t ty 5 i0 1 ht hi0 v l.length (l.map U8) hown, by simpa using hown, ⟨rfl, rfl, rfl, Nat.le_refl _, fun _ _ _ => rfl⟩⟩
  | some p =>
    obtain ⟨v', w', hr, ho, hg, _⟩ := run_append_own (P := P) w B t ty 5 i0 (.int .u8 0) 1 1 ht hi0 hz0 hz1 hz2 rfl (by decide) v l.length (l.map U8) hown p m.length cap (m.map U8) (by simp) (by
      intro j y hy
      rw [List.getElem?_map] at hy
      obtain ⟨z, hz, rfl⟩ := Option.map_eq_some_iff.1 hy
      have hj : j < m.length := (List.getElem?_eq_some_iff.1 hz).1
      obtain ⟨b, off, e, hc2⟩ := hcell j hj
      obtain rfl := Option.some.inj e
      rw [addr_mid, hc2]
      simp [nth, hz]) (by
      intro y hy
      obtain ⟨z, _, rfl⟩ := List.mem_map.1 hy
      rfl) (by unfold maxLen; omega) (by omega) hB
    exact ⟨v', w', hr, by unfold Own; rw [List.length_append, List.map_append]; exact ho, hg⟩
/-- .. as a step of a region that draws. -/
theorem step_append8 {P : Program} {ops : Array Oper} {o : Oper} {a : Act} {w : World} {K : Act → World → Prop} {Q : Exit → Act → World → Prop} {E : Prop}
    (hgd : o.guard = none) (s x : Operand) (t : TypeId) (hop : o.op = Op.call { callee := Callee.builtin Builtin.append, args := #[s, x], argTypes := #[t, t] }) (B : Nat) (ht : P.underlying t = some (.slice 5)) (hi : (P.info? 5).map (fun i => (i.zero, i.size, i.bytes)) = some (some (.int .u8 0), 1, 1))
    (v : Value) (l m : List (BitVec 8)) (hs : a.eval s = v) (hown : Own B w v l) (u : Value) (hx : a.eval x = u) (hu : Sl w u m) (h46 : l.length + m.length ≤ 70368744177664) (hB : B ≤ w.heap.size)
    (hK : ∀ v' w', Own B w' v' (l ++ m) → w.grownBy w' v.ownBlock → K (a.put o.dst v') w') :
    if Region.wanted o (yielded ops a.tmps) = true then Oper.wp P o a w K Q else E := by
  have hw : Region.wanted o (yielded ops a.tmps) = true := by simp [Region.wanted, hgd]
  rw [if_pos hw]
  obtain ⟨v', w', hrun, r1, r2⟩ := run_append8 (P := P) w t o.type B ht hi v l m hown u hu h46 hB
  unfold Oper.wp
  simp [execOp, hop, resolve, invoke, builtin, hs, hx, hrun, Result.andThen]
  exact hK v' w' r1 r2
/-- A slice that the call owns lies apart from any row of another kind. -/
theorem Own.apart {B : Nat} {w : World} {v : Value} {l : List (BitVec 8)} (h : Own B w v l) {b : Nat} {cs : Array Value} {t : TypeId} (hb : Has w b cs t) (ht : t ≠ 5) : some b ≠ v.ownBlock := by
  obtain ⟨_, h2⟩ := h
  rcases h2 with ⟨rfl, _⟩ | ⟨g, cap, cur, rfl, hg, hh, _⟩
  · simp [Value.ownBlock]
  · intro e
    simp only [Value.ownBlock, Option.some.injEq] at e
    subst e
    unfold Has at hb
    rw [hb] at hh
    simp only [Option.some.injEq, Obj.cells.injEq] at hh
    exact ht hh.2.1
theorem Own.from {B : Nat} {w : World} {v : Value} {l : List (BitVec 8)} (h : Own B w v l) : ∀ k, v.ownBlock = some k → B ≤ k := fun k hk => (World.ownsRow.lt h k hk).1
theorem Has.own {B : Nat} {w w' : World} {v : Value} {l : List (BitVec 8)} (h : Own B w v l) (hg : w.grownBy w' v.ownBlock) {b : Nat} {cs : Array Value} {t : TypeId} (hb : Has w b cs t) (ht : t ≠ 5) : Has w' b cs t := hb.grown hg (h.apart hb ht)
theorem below_own {B : Nat} {w0 w w' : World} {v : Value} {l : List (BitVec 8)} (hb : Below B w0 w) {B' : Nat} (h : Own B' w v l) (hB : B ≤ B') (hBw : B ≤ w.heap.size) (hg : w.grownBy w' v.ownBlock) : Below B w0 w' :=
  hb.grown hg hBw fun k hk => Nat.le_trans hB (h.from k hk)
theorem Sl.one {w : World} {g : Nat} {x : BitVec 8} {t : TypeId} (h : Has w g #[U8 x] t) : Sl w (.slice (some ⟨g, 0, none⟩) 1 1) [x] :=
  Sl.mk (l := [x]) rfl (Nat.le_refl _) (by unfold maxLen; omega) fun i hi => by
    obtain rfl : i = 0 := by omega
    rw [h.cell]; rfl
/-- Bytes, and whatever lies behind them. -/
def cellsT (l : List (BitVec 8)) (T : List Value) : Array Value := (l.map U8 ++ T).toArray
@[go_sem] theorem cellsT_get (l : List (BitVec 8)) (T : List Value) (i : Nat) (h : i < l.length) : (cellsT l T)[i]? = some (U8 (nth l i)) := by
  simp only [cellsT, List.getElem?_toArray]
  rw [List.getElem?_append_left (by simpa using h)]
  simp [nth, h]
@[go_sem] theorem cellsT_set (l : List (BitVec 8)) (T : List Value) (i : Nat) (v : BitVec 8) (h : i < l.length) : (cellsT l T).setIfInBounds i (U8 v) = cellsT (put l i v) T := by
  simp [cellsT, put, List.map_set, h]
theorem Own.made0 {B : Nat} {w : World} {g : Nat} (hg : B ≤ g) (h : Has w g #[] 5) : Own B w (.slice (some ⟨g, 0, none⟩) 0 0) [] :=
  ⟨rfl, .inr ⟨g, 0, #[], rfl, hg, h, Nat.le_refl _, by unfold maxLen; omega, rfl, rfl⟩⟩
/-- What a slice that the call owns looks like. -/
theorem Own.shape {B : Nat} {w : World} {v : Value} {l : List (BitVec 8)} (h : Own B w v l) (hl : l ≠ []) : ∃ g cap T, v = .slice (some ⟨g, 0, none⟩) l.length cap ∧ B ≤ g ∧ Has w g (cellsT l T) 5 ∧ l.length ≤ cap ∧ cap ≤ maxLen ∧ l.length + T.length = cap := by
  obtain ⟨h1, h2⟩ := h
  rcases h2 with ⟨rfl, hn⟩ | ⟨g, cap, cur, rfl, hg, hh, hc, hm, hs, ht⟩
  · exact absurd (List.length_eq_zero_iff.1 hn) hl
  · refine ⟨g, cap, cur.toList.drop l.length, rfl, hg, ?_, hc, hm, ?_⟩
    · have e : cellsT l (cur.toList.drop l.length) = cur := by
        unfold cellsT
        rw [Nat.mul_one] at ht
        rw [← ht, List.take_append_drop]
      unfold Has; rw [e]; exact hh
    · have : cur.toList.length = cap := by simpa using hs
      rw [List.length_drop, this]; omega
theorem Own.mk {B : Nat} {w : World} {g cap : Nat} {l : List (BitVec 8)} {T : List Value} (hg : B ≤ g) (h : Has w g (cellsT l T) 5) (hm : cap ≤ maxLen) (hc : l.length + T.length = cap) : Own B w (.slice (some ⟨g, 0, none⟩) l.length cap) l := by
  refine ⟨by simp, .inr ⟨g, cap, cellsT l T, rfl, hg, h, by omega, hm, by simp [cellsT]; omega, ?_⟩⟩
  simp [cellsT]
theorem info8 : (Try.prog.info? 5).map (fun i => (i.zero, i.size, i.bytes)) = some (some (.int .u8 0), 1, 1) := by kernel_rfl
end Go.Proofs.Ytcekjmejppemeaa
/- Opening the given arguments of a law: slices of bytes, arrays of bytes, words. -/
namespace Go.Proofs.Ytcekjmejppemeaa
open Go.ChangeShapes Go.WideShapes Go.ChangeAt Go.RowKit

theorem int_u8 {n : Int} (h : (Lit.int .u8 n).wf = true) : (.int .u8 n : Value) = U8 (BitVec.ofInt 8 n) := by
  simp only [Lit.wf, Bool.and_eq_true, decide_eq_true_eq] at h
  have h1 : (0 : Int) ≤ n := h.1
  have h2 : n ≤ 255 := h.2
  show Value.int .u8 n = Value.int .u8 (tn (BitVec.ofInt 8 n))
  congr 1
  unfold tn
  rw [BitVec.toNat_ofInt]
  omega
theorem int_u32 {n : Int} (h : (Lit.int .u32 n).wf = true) : (.int .u32 n : Value) = U32 (BitVec.ofInt 32 n) := by
  simp only [Lit.wf, Bool.and_eq_true, decide_eq_true_eq] at h
  have h1 : (0 : Int) ≤ n := h.1
  have h2 : n ≤ 4294967295 := h.2
  show Value.int .u32 n = Value.int .u32 (tn (BitVec.ofInt 32 n))
  congr 1
  unfold tn
  rw [BitVec.toNat_ofInt]
  omega
theorem int_u64 {n : Int} (h : (Lit.int .u64 n).wf = true) : (.int .u64 n : Value) = U64 (BitVec.ofInt 64 n) := by
  simp only [Lit.wf, Bool.and_eq_true, decide_eq_true_eq] at h
  have h1 : (0 : Int) ≤ n := h.1
  have h2 : n ≤ 18446744073709551615 := h.2
  show Value.int .u64 n = Value.int .u64 (tn (BitVec.ofInt 64 n))
  congr 1
  unfold tn
  rw [BitVec.toNat_ofInt]
  omega
/-- The number of a cell, as a byte. -/
def byteOf : Value → BitVec 8
  | .int _ n => BitVec.ofInt 8 n
  | _ => 0
section
variable {H : Type} {enc : TypeId × Value → H} {P : Program} {w : World} {base : Nat} {spare : Nat → Bool} {held : Bool}
theorem okWide_array {r : Reach} {b0 : Nat} {t e : TypeId} {n : Nat} {v : Value} (ht : P.underlying t = some (.array n e)) (h : Value.okWide P w r b0 t v) : ∃ cs, v = .agg cs ∧ cs.size = P.cellsOf t := by
  simp only [Value.okWide, ht] at h
  obtain ⟨cs, h1, h2, _⟩ := h
  exact ⟨cs, h1, h2⟩
/-- An array of bytes, opened. -/
theorem open_bytes {r : Reach} {b0 : Nat} {t e : TypeId} {n : Nat} {v : Value} {d : DataW H} {ps : List MemPlace} (ht : P.underlying t = some (.array n e)) (he : P.underlying e = some (.int .u8)) (hc : P.cellsOf e = 1) (hct : P.cellsOf t = n)
    (hval : Value.okWide P w r b0 t v) (hd : DataW.Trod enc P w base spare held t v d ps) : ∃ l : List (BitVec 8), v = .agg (cells U8 l) ∧ l.length = n := by
  obtain ⟨cs, rfl, hs⟩ := okWide_array ht hval
  obtain ⟨fuel, hf⟩ := hd
  obtain ⟨xs, m, _, _, _, hx, hi⟩ := DataW.trod_array ht hf
  refine ⟨cs.toList.map byteOf, ?_, by simp [hs, hct]⟩
  congr 1
  apply Array.ext
  · simp [cells]
  · intro i h1 h2
    have hin : i < n := by omega
    have h := hi i hin
    rw [List.getElem?_eq_getElem (by omega)] at h
    obtain ⟨z, hz, _, hw⟩ := DataW.trod_int he h
    have hv : cs[i] = .int .u8 z := by
      rw [hc, Nat.mul_one] at hz
      have : ((cs.toList.drop i).take 1)[0]? = some (.int .u8 z) := by
        have hz' : ((cs.toList.drop i).take 1) = [.int .u8 z] := hz
        rw [hz']; rfl
      simp [List.getElem?_drop] at this
      have h3 := Array.getElem?_eq_some_iff.1 this
      exact h3.2
    simp only [cells, List.getElem_toArray, List.getElem_map, Array.getElem_toList]
    rw [hv]
    exact int_u8 hw
/-- A slice of bytes, opened. -/
theorem open_sl {r : Reach} {b0 : Nat} {t e : TypeId} {v : Value} {d : DataW H} {ps : List MemPlace} (ht : P.underlying t = some (.slice e)) (he : P.underlying e = some (.int .u8)) (hc : P.cellsOf e = 1)
    (hval : Value.okWide P w r b0 t v) (hd : DataW.Trod enc P w base spare held t v d ps) : ∃ l : List (BitVec 8), Sl w v l := by
  obtain ⟨a0, len0, cap0, rfl⟩ := okWide_slice ht hval
  obtain ⟨fuel, hf⟩ := hd
  rcases open_ints ht he hc hf with ⟨hcs, _⟩ | ⟨x, len, c, zs, hcs, _, hl, hm, hz, _, hcell, hwz⟩
  · simp [Value.cells] at hcs
    obtain ⟨rfl, rfl, rfl⟩ := hcs
    exact ⟨[], Sl.nil w⟩
  · simp [Value.cells] at hcs
    obtain ⟨rfl, rfl, rfl⟩ := hcs
    have hzl : len0 ≤ zs.length := by rw [hz]; split <;> omega
    have hlen : ((zs.take len0).map (BitVec.ofInt 8)).length = len0 := by simp; omega
    refine ⟨(zs.take len0).map (BitVec.ofInt 8), some x, cap0, by rw [hlen], by rw [hlen]; exact hl, hm, (fun h => by cases h), fun i hi => ?_⟩
    rw [hlen] at hi
    obtain ⟨b, off, spot⟩ := x
    have hc0 := hcell i (by omega)
    have hspot : spot = none := by
      have h0 := hcell 0 (by omega)
      simpa [Addr.add] using World.cell?_spot h0
    subst hspot
    refine ⟨b, off, rfl, ?_⟩
    have e1 : (⟨b, off, none⟩ : Addr).add i = ⟨b, off + i, none⟩ := addr_mid b off i
    rw [e1] at hc0
    rw [hc0, int_u8 (hwz _ (by rw [List.getD_eq_getElem?_getD, List.getElem?_eq_getElem (by omega)]; exact List.getElem_mem _))]
    congr 2
    rw [nth_eq _ _ (by rw [hlen]; exact hi)]
    have hi2 : i < zs.length := by omega
    simp [hi2]
theorem open_u8 {r : Reach} {b0 : Nat} {t : TypeId} {v : Value} {d : DataW H} {ps : List MemPlace} (ht : P.underlying t = some (.int .u8)) (hval : Value.okWide P w r b0 t v) (hd : DataW.Trod enc P w base spare held t v d ps) : ∃ c : BitVec 8, v = U8 c := by
  obtain ⟨n, rfl, _, _, hw⟩ := open_int ht hval hd
  exact ⟨_, int_u8 hw⟩
theorem open_u32 {r : Reach} {b0 : Nat} {t : TypeId} {v : Value} {d : DataW H} {ps : List MemPlace} (ht : P.underlying t = some (.int .u32)) (hval : Value.okWide P w r b0 t v) (hd : DataW.Trod enc P w base spare held t v d ps) : ∃ c : BitVec 32, v = U32 c := by
  obtain ⟨n, rfl, _, _, hw⟩ := open_int ht hval hd
  exact ⟨_, int_u32 hw⟩
theorem open_u64 {r : Reach} {b0 : Nat} {t : TypeId} {v : Value} {d : DataW H} {ps : List MemPlace} (ht : P.underlying t = some (.int .u64)) (hval : Value.okWide P w r b0 t v) (hd : DataW.Trod enc P w base spare held t v d ps) : ∃ c : BitVec 64, v = U64 c := by
  obtain ⟨n, rfl, _, _, hw⟩ := open_int ht hval hd
  exact ⟨_, int_u64 hw⟩
theorem open_i64 {r : Reach} {b0 : Nat} {t : TypeId} {v : Value} {d : DataW H} {ps : List MemPlace} (ht : P.underlying t = some (.int .i64)) (hval : Value.okWide P w r b0 t v) (hd : DataW.Trod enc P w base spare held t v d ps) :
    ∃ n : Int, v = .int .i64 n ∧ (Lit.int .i64 n).wf = true := by
  obtain ⟨n, rfl, _, _, hw⟩ := open_int ht hval hd
  exact ⟨n, rfl, hw⟩
end
end Go.Proofs.Ytcekjmejppemeaa
/- Abstract data: the given arguments of a law as rows; a law's answer told of the machine. -/
namespace Go.Proofs.Ytcekjmejppemeaa
open Go.ChangeShapes Go.WideShapes Go.ChangeAt Go.RowKit
/-- A slice of bytes that may be looked at, with the place that it has. -/
def SlR (w : World) (v : Value) (l : List (BitVec 8)) : Prop :=
  ∃ a cap, v = .slice a l.length cap ∧ l.length ≤ cap ∧ cap ≤ maxLen ∧ (cap = 0 ∨ ∃ b off cs t fr, a = some ⟨b, off, none⟩ ∧ w.heap[b]? = some (.cells cs t fr) ∧ ∀ i, i < l.length → cs[off + i]? = some (U8 (nth l i)))
section
variable {H : Type} {enc : TypeId × Value → H} {P : Program} {w : World} {base : Nat} {held : Bool}
theorem open_slR {r : Reach} {b0 : Nat} {t e : TypeId} {v : Value} {d : DataW H} {ps : List MemPlace} (ht : P.underlying t = some (.slice e)) (he : P.underlying e = some (.int .u8)) (hc : P.cellsOf e = 1)
    (hval : Value.okWide P w r b0 t v) (hd : DataW.Trod enc P w base (fun _ => true) held t v d ps) : ∃ l : List (BitVec 8), SlR w v l := by
  obtain ⟨a0, len0, cap0, rfl⟩ := okWide_slice ht hval
  obtain ⟨fuel, hf⟩ := hd
  rcases open_ints ht he hc hf with ⟨hcs, _⟩ | ⟨x, len, c, zs, hcs, _, hl, hm, hz, _, hcell, hwz⟩
  · simp [Value.cells] at hcs
    obtain ⟨rfl, rfl, rfl⟩ := hcs
    exact ⟨[], none, 0, rfl, Nat.le_refl _, by unfold maxLen; omega, .inl rfl⟩
  · simp [Value.cells] at hcs
    obtain ⟨rfl, rfl, rfl⟩ := hcs
    rw [if_pos rfl] at hz
    have hlen : ((zs.take len0).map (BitVec.ofInt 8)).length = len0 := by simp; omega
    refine ⟨(zs.take len0).map (BitVec.ofInt 8), some x, cap0, by rw [hlen], by rw [hlen]; exact hl, hm, ?_⟩
    rcases Nat.eq_zero_or_pos cap0 with h0 | h0
    · exact .inl h0
    · right
      obtain ⟨b, off, spot⟩ := x
      have hspot : spot = none := by
        have h1 := hcell 0 (by omega)
        simpa [Addr.add] using World.cell?_spot h1
      subst hspot
      have at_ : ∀ i, i < cap0 → w.cell? ⟨b, off + i, none⟩ = some (.int .u8 (zs.getD i 0)) := fun i hi => by
        have h1 := hcell i (by omega)
        rwa [show (⟨b, off, none⟩ : Addr).add i = ⟨b, off + i, none⟩ from addr_mid b off i] at h1
      have h1 := at_ 0 h0
      unfold World.cell? at h1
      split at h1
      · rename_i cs t fr hh
        refine ⟨b, off, cs, t, fr, rfl, hh, fun i hi => ?_⟩
        rw [hlen] at hi
        have h2 := at_ i (by omega)
        unfold World.cell? at h2
        simp only [hh] at h2
        rw [show cs[off + i]? = some (.int .u8 (zs.getD i 0)) by simpa using h2, int_u8 (hwz _ (by rw [List.getD_eq_getElem?_getD, List.getElem?_eq_getElem (by omega)]; exact List.getElem_mem _))]
        congr 2
        rw [nth_eq _ _ (by rw [hlen]; exact hi)]
        have hi2 : i < zs.length := by omega
        simp [hi2]
      · cases h1
end
def locOf : Value → Option Loc
  | .slice (some a) _ cap => if cap = 0 then none else some ⟨a.block, a.off, cap⟩
  | _ => none
def openEmb (us : List (Value × List (BitVec 8))) : Emb := fun i => (us[i]?).bind fun p => locOf p.1
def openMem (us : List (Value × List (BitVec 8))) : Mem := us.map fun p => .row false (.a8 p.2)
theorem open_R {us : List (Value × List (BitVec 8))} {w : World} (h : ∀ p ∈ us, SlR w p.1 p.2) : R (openEmb us) (openMem us) w := by
  have row : ∀ {b : Nat} {own : Bool} {x : Arr}, (openMem us)[b]? = some (.row own x) → ∃ p, us[b]? = some p ∧ own = false ∧ x = .a8 p.2 := fun {b own x} hb => by
    unfold openMem at hb
    rw [List.getElem?_map] at hb
    obtain ⟨p, hp, e⟩ := Option.map_eq_some_iff.1 hb
    cases e
    exact ⟨p, hp, rfl, rfl⟩
  refine ⟨fun b hb => ?_, fun b l own x h1 h2 => ?_, fun b b' l l' own own' x x' _ _ _ k1 k2 ho => ?_⟩
  · unfold openEmb
    rw [List.getElem?_eq_none (by simpa [openMem] using hb)]; rfl
  · obtain ⟨p, hp, rfl, rfl⟩ := row h2
    obtain ⟨a, cap, hv, hl, _, hs⟩ := h p (List.mem_of_getElem? hp)
    unfold openEmb at h1
    rw [hp] at h1
    simp only [Option.bind_some, hv] at h1
    cases a with
    | none => cases h1
    | some a =>
      simp only [locOf] at h1
      split at h1
      · cases h1
      · rename_i hc
        cases h1
        rcases hs with hs | ⟨b1, off, cs, t, fr, ha, hh, hcell⟩
        · exact absurd hs hc
        · cases ha
          exact ⟨cs, t, fr, hh, hl, fun i hi => ⟨_, hcell i hi, rfl⟩, fun h => by cases h⟩
  · obtain ⟨_, _, rfl, _⟩ := row k1
    obtain ⟨_, _, rfl, _⟩ := row k2
    rcases ho with h | h <;> cases h
theorem open_rel {us : List (Value × List (BitVec 8))} {w : World} {i : Nat} {u : Value} {l : List (BitVec 8)} (hi : us[i]? = some (u, l)) (h : SlR w u l) : (AV.c (.sl i 0 l.length l.length 1)).rel (openEmb us) u := by
  obtain ⟨a, cap, rfl, hl, _, hs⟩ := h
  refine ⟨a, cap, rfl, hl, hl, ?_⟩
  rcases hs with hs | ⟨b1, off, cs, t, fr, rfl, hh, hcell⟩
  · exact .inl hs
  · by_cases hc : cap = 0
    · exact .inl hc
    · refine .inr ⟨⟨b1, off, cap⟩, ?_, rfl, by simp⟩
      unfold openEmb
      rw [hi]
      simp [locOf, hc]
theorem rel_bytes (ι : Emb) (l : List (BitVec 8)) : (AV.agg (.a8 l)).rel ι (.agg (cells U8 l)) := by
  refine ⟨cells U8 l, rfl, by simp [cells, Arr.size], fun i hi => ⟨U8 (nth l i), ?_, rfl⟩⟩
  have hi' : i < l.length := hi
  rw [Nat.zero_add, nth_eq l i hi']
  simp [cells, hi']
/-- A law's answer. -/
theorem law_calls {P : Program} {f : FuncId} {args : List AV} {m m' : Mem} {ι : Emb} {w : World} {vs : Array Value} (h : Ev P (.call f args m) (.val (.c (.val (.bool true))) m')) (hR : R ι m w) (ha : ArgsRel ι args vs.toList) (hro : ∀ c, ¬ Owned ι m c) :
    Calls P f vs w fun e w' => e = .returned (.bool true) ∧ Below w.heap.size w w' := by
  refine (sound h ι w vs hR ha).mono fun e w' hq => ?_
  obtain ⟨u, ι', rfl, hv, hs⟩ := hq
  have hu : u = .bool true := hv
  subst hu
  exact ⟨rfl, hs.trans.os, hs.trans.tape, hs.trans.output, hs.trans.size, fun c hc => hs.trans.keep c hc (hro c)⟩
theorem open_none {us : List (Value × List (BitVec 8))} {c : Nat} : ¬ Owned (openEmb us) (openMem us) c := by
  rintro ⟨b, l, x, _, h, _⟩
  unfold openMem at h
  rw [List.getElem?_map] at h
  obtain ⟨p, _, e⟩ := Option.map_eq_some_iff.1 h
  cases e
end Go.Proofs.Ytcekjmejppemeaa
/- curve.product (Drawn up by a program.) -/
namespace Go.Proofs.Ytcekjmejppemeaa
open Go.RowKit
def scProd_L7_S (a : List (BitVec 64)) (b : List (BitVec 64)) (j3 : Nat) (X2 : BitVec 64) (X3 : List (BitVec 64)) (j7 : Nat) : BitVec 64 × List (BitVec 64) := (((mul640 (nth a j3) (nth b j7)) + (addC (nth X3 (j3 + j7)) (mul641 (nth a j3) (nth b j7)) 0#64)) + (addC (nth (put X3 (j3 + j7) ((nth X3 (j3 + j7)) + (mul641 (nth a j3) (nth b j7)) + 0#64)) (j3 + j7)) X2 0#64), put (put X3 (j3 + j7) ((nth X3 (j3 + j7)) + (mul641 (nth a j3) (nth b j7)) + 0#64)) (j3 + j7) ((nth (put X3 (j3 + j7) ((nth X3 (j3 + j7)) + (mul641 (nth a j3) (nth b j7)) + 0#64)) (j3 + j7)) + X2 + 0#64))
def scProd_L7 (a : List (BitVec 64)) (b : List (BitVec 64)) (X1 : List (BitVec 64)) (j3 : Nat) : Nat → BitVec 64 × List (BitVec 64)
  | 0 => (0#64, X1)
  | j7 + 1 => scProd_L7_S a b j3 (scProd_L7 a b X1 j3 j7).1 (scProd_L7 a b X1 j3 j7).2 j7
theorem scProd_L7_len1 (a : List (BitVec 64)) (b : List (BitVec 64)) (X1 : List (BitVec 64)) (j3 : Nat) (_ha : a.length = 4) (_hb : b.length = 4) (hX1 : X1.length = 9) (j7 : Nat) : (scProd_L7 a b X1 j3 j7).2.length = 9 := by
  induction j7 with
  | zero => first | (simp (maxDischargeDepth := 9) [scProd_L7, *]; done) | (simp (maxDischargeDepth := 9) [scProd_L7, *]; omega)
  | succ j7 ih => rw [scProd_L7.eq_2, scProd_L7_S]; first | (simp (maxDischargeDepth := 9) [ih]; done) | (simp (maxDischargeDepth := 9) [ih]; omega) | (simp (maxDischargeDepth := 9) [*]; done) | (simp (maxDischargeDepth := 9) [*]; omega) | (split <;> first | (simp (maxDischargeDepth := 9) [ih]; done) | (simp (maxDischargeDepth := 9) [ih]; omega) | (simp (maxDischargeDepth := 9) [*]; done))
def scProd_L3_S (a : List (BitVec 64)) (b : List (BitVec 64)) (X1 : List (BitVec 64)) (j3 : Nat) : List (BitVec 64) := put ((scProd_L7 a b X1 j3 4).2) (j3 + 4) ((scProd_L7 a b X1 j3 4).1)
def scProd_L3 (a : List (BitVec 64)) (b : List (BitVec 64)) : Nat → List (BitVec 64)
  | 0 => zer64 9
  | j3 + 1 => scProd_L3_S a b (scProd_L3 a b j3) j3
theorem scProd_L3_len (a : List (BitVec 64)) (b : List (BitVec 64)) (ha : a.length = 4) (hb : b.length = 4) (j3 : Nat) : (scProd_L3 a b j3).length = 9 := by
  induction j3 with
  | zero => first | (simp (maxDischargeDepth := 9) [scProd_L3, *]; done) | (simp (maxDischargeDepth := 9) [scProd_L3, *]; omega)
  | succ j3 ih => rw [scProd_L3.eq_2, scProd_L3_S]; first | (simp (maxDischargeDepth := 9) []; done) | (simp (maxDischargeDepth := 9) []; omega) | (simp (maxDischargeDepth := 9) [scProd_L7_len1, *]; done) | (simp (maxDischargeDepth := 9) [scProd_L7_len1, *]; omega) | (split <;> first | (simp (maxDischargeDepth := 9) [ih]; done) | (simp (maxDischargeDepth := 9) [ih]; omega) | (simp (maxDischargeDepth := 9) [scProd_L7_len1, *]; done))
def scProd_L19_S (c : List (BitVec 64)) (X9 : BitVec 64) (X10 : List (BitVec 64)) (j19 : Nat) : BitVec 64 × List (BitVec 64) := (addC (nth X10 j19) (if j19 < 4 then nth c j19 else 0#64) X9, put X10 j19 ((nth X10 j19) + (if j19 < 4 then nth c j19 else 0#64) + X9))
def scProd_L19 (c : List (BitVec 64)) (Y8 : List (BitVec 64)) : Nat → BitVec 64 × List (BitVec 64)
  | 0 => (0#64, Y8)
  | j19 + 1 => scProd_L19_S c (scProd_L19 c Y8 j19).1 (scProd_L19 c Y8 j19).2 j19
theorem scProd_L19_len1 (c : List (BitVec 64)) (Y8 : List (BitVec 64)) (_hc : c.length = 4) (hY8 : Y8.length = 9) (j19 : Nat) : (scProd_L19 c Y8 j19).2.length = 9 := by
  induction j19 with
  | zero => first | (simp (maxDischargeDepth := 9) [scProd_L19, *]; done) | (simp (maxDischargeDepth := 9) [scProd_L19, *]; omega)
  | succ j19 ih => rw [scProd_L19.eq_2, scProd_L19_S]; first | (simp (maxDischargeDepth := 9) [ih]; done) | (simp (maxDischargeDepth := 9) [ih]; omega) | (simp (maxDischargeDepth := 9) [scProd_L7_len1, scProd_L3_len, *]; done) | (simp (maxDischargeDepth := 9) [scProd_L7_len1, scProd_L3_len, *]; omega) | (split <;> first | (simp (maxDischargeDepth := 9) [ih]; done) | (simp (maxDischargeDepth := 9) [ih]; omega) | (simp (maxDischargeDepth := 9) [scProd_L7_len1, scProd_L3_len, *]; done))
def scProd_L28_S (Y14 : List (BitVec 64)) (X16 : List (BitVec 8)) (j28 : Nat) : List (BitVec 8) := X16 ++ [((nth Y14 (j28 / 8)) >>> (8 * (j28 % 8))).setWidth 8]
def scProd_L28 (Y14 : List (BitVec 64)) : Nat → List (BitVec 8)
  | 0 => []
  | j28 + 1 => scProd_L28_S Y14 (scProd_L28 Y14 j28) j28
theorem scProd_L28_len (Y14 : List (BitVec 64)) (_hY14 : Y14.length = 9) (j28 : Nat) : (scProd_L28 Y14 j28).length = j28 := by
  induction j28 with
  | zero => first | (simp (maxDischargeDepth := 9) [scProd_L28, *]; done) | (simp (maxDischargeDepth := 9) [scProd_L28, *]; omega)
  | succ j28 ih => rw [scProd_L28.eq_2, scProd_L28_S]; first | (simp (maxDischargeDepth := 9) [ih]; done) | (simp (maxDischargeDepth := 9) [ih]; omega) | (simp (maxDischargeDepth := 9) [scProd_L7_len1, scProd_L3_len, scProd_L19_len1, *]; done) | (simp (maxDischargeDepth := 9) [scProd_L7_len1, scProd_L3_len, scProd_L19_len1, *]; omega) | (split <;> first | (simp (maxDischargeDepth := 9) [ih]; done) | (simp (maxDischargeDepth := 9) [ih]; omega) | (simp (maxDischargeDepth := 9) [scProd_L7_len1, scProd_L3_len, scProd_L19_len1, *]; done))
def scProd (a : List (BitVec 64)) (b : List (BitVec 64)) (c : List (BitVec 64)) : List (BitVec 8) := (scProd_L28 ((scProd_L19 c (scProd_L3 a b 4) 9).2) 72)
theorem scProd_c (c Y : List (BitVec 64)) (j : Nat) : (scProd_L19 c Y j).1.toNat ≤ 1 := by
  induction j with
  | zero => show (0#64).toNat ≤ 1; decide
  | succ j ih => rw [scProd_L19.eq_2, scProd_L19_S]; exact addC_le _ _ _ ih
set_option maxRecDepth 100000 in
set_option maxHeartbeats 2000000 in
theorem scProd_ev (a : List (BitVec 64)) (b : List (BitVec 64)) (c : List (BitVec 64)) (ha : a.length = 4) (hb : b.length = 4) (hc : c.length = 4) : Ev Try.prog (.call 68 [.agg (.a64 (a)), .agg (.a64 (b)), .agg (.a64 (c))] []) (.val (.c (.sl 0 0 72 72 1)) [.row true (.a8 (scProd a b c))]) := by
  have hP : Hid (scProd a b c = (scProd_L28 ((scProd_L19 c (scProd_L3 a b 4) 9).2) 72)) := ⟨rfl⟩
  refine c_call Try.func68 rfl Try.ntmps68 rfl LEN_ ?_
  refine S_ ?_
  refine c_region ?_
  refine s_memN (m_box BX_ LEN_) APP_ rfl ?_
  refine s_memN (m_box BX_ LEN_) APP_ rfl ?_
  refine s_memN (m_box BX_ LEN_) APP_ rfl ?_
  refine s_val (v_assignC rfl) rfl ?_
  refine s_nil ?_
  refine S_ ?_
  refine c_region ?_
  refine s_memN (m_alloc al_99 LEN_) APP_ rfl ?_
  refine s_nil ?_
  refine S_ ?_
  refine c_region ?_
  refine s_val (v_moveC rfl) rfl ?_
  refine s_nil ?_
  refine S_ ?_
  refine c_loopC [3, 4, 5, 7, 20] (fun (zz : Nat × List (BitVec 64)) => ⟨112, keepT [3, 4, 5, 7, 20] [.c (.ptr 0 0), .c (.ptr 1 0), .c (.ptr 2 0), .c (.ptr 3 0), .c (.val (.int .i64 (((zz.1 : Nat) : Int))))], [.row true (.a64 (a)), .row true (.a64 (b)), .row true (.a64 (c)), .row true (.a64 (zz.2))]⟩) (fun j3 => (j3, scProd_L3 a b j3)) (4) (by kernel_rfl) ?_ ?_
  · intro j3 hj3
    try dsimp only
    have hX1 : (scProd_L3 a b j3).length = 9 := by rw [scProd_L3_len a b ha hb _]; try omega
    rw [scProd_L3.eq_2, scProd_L3_S]
    generalize scProd_L3 a b j3 = X1 at *
    refine S_ ?_
    refine c_region ?_
    refine s_val (v_lssN (b := 4) rfl rfl) rfl ?_
    refine s_nil ?_
    refine S_ ?_
    refine c_region ?_
    refine s_val (v_moveC rfl) rfl ?_
    refine s_val (v_assignC rfl) rfl ?_
    refine s_nil ?_
    refine S_ ?_
    refine c_region ?_
    refine s_val (v_assignC rfl) rfl ?_
    refine s_nil ?_
    refine S_ ?_
    refine c_region ?_
    refine s_val (v_moveC rfl) rfl ?_
    refine s_nil ?_
    refine S_ ?_
    refine c_loopC [3, 4, 5, 7, 8, 9, 20, 23] (fun (zz : Nat × BitVec 64 × List (BitVec 64)) => ⟨112, keepT [3, 4, 5, 7, 8, 9, 20, 23] [.c (.ptr 0 0), .c (.ptr 1 0), .c (.ptr 2 0), .c (.ptr 3 0), .c (.val (.int .i64 (((j3 : Nat) : Int)))), .c (.val (U64 (zz.2.1))), .c (.val (.int .i64 (((j3 : Nat) : Int)))), .c (.val (.int .i64 (((zz.1 : Nat) : Int))))], [.row true (.a64 (a)), .row true (.a64 (b)), .row true (.a64 (c)), .row true (.a64 (zz.2.2))]⟩) (fun j7 => (j7, scProd_L7 a b X1 j3 j7)) (4) (by kernel_rfl) ?_ ?_
    · intro j7 hj7
      try dsimp only
      have hX3 : (scProd_L7 a b X1 j3 j7).2.length = 9 := by rw [scProd_L7_len1 a b X1 j3 ha hb hX1 _]; try omega
      rw [scProd_L7.eq_2, scProd_L7_S]
      generalize scProd_L7 a b X1 j3 j7 = Z4 at *
      obtain ⟨X2, X3⟩ := Z4
      try dsimp only at *
      refine S_ ?_
      refine c_region ?_
      refine s_val (v_lssN (b := 4) rfl rfl) rfl ?_
      refine s_nil ?_
      refine S_ ?_
      refine c_region ?_
      refine s_val (v_moveC rfl) rfl ?_
      refine s_val (v_assignC rfl) rfl ?_
      refine s_nil ?_
      refine S_ ?_
      refine c_draw 12 mixed (by kernel_rfl) rfl rfl rfl ?_
      refine h_val (v_moveC rfl) rfl ?_
      refine h_val (v_idxA1 rfl rfl Try.underlying79 sz_29 (by omega)) rfl ?_
      refine h_val (v_load64 rfl rfl row_29 LT_) rfl ?_
      refine h_val (v_moveC rfl) rfl ?_
      refine h_val (v_idxA1 rfl rfl Try.underlying79 sz_29 (by omega)) rfl ?_
      refine h_val (v_load64 rfl rfl row_29 LT_) rfl ?_
      refine h_evN (e_callR (bs := []) (mul64_ev (nth a j3) (nth b j7)) ok_77 (by kernel_rfl) (by kernel_rfl) rfl VAL_) APP_ rfl ?_
      refine h_val (v_moveT rfl) rfl ?_
      refine h_val (v_extract rfl rfl) rfl ?_
      refine h_val (v_extract rfl rfl) rfl ?_
      refine h_val (v_assignC rfl) rfl ?_
      refine h_val (v_assignC rfl) rfl ?_
      refine h_nil ?_
      refine s_nil ?_
      refine S_ ?_
      refine c_region ?_
      refine s_val (v_assignC rfl) rfl ?_
      refine s_val (v_assignC rfl) rfl ?_
      refine s_nil ?_
      refine S_ ?_
      refine c_region ?_
      refine s_val (v_moveC rfl) rfl ?_
      refine s_val (v_moveC rfl) rfl ?_
      refine s_val (v_addN rfl rfl (by omega)) rfl ?_
      refine s_val (v_moveC rfl) rfl ?_
      refine s_val (v_moveC rfl) rfl ?_
      refine s_val (v_addN rfl rfl (by omega)) rfl ?_
      refine s_val (v_idxA1 rfl rfl Try.underlying99 sz_29 (by omega)) rfl ?_
      refine s_val (v_load64 rfl rfl row_29 LT_) rfl ?_
      refine s_val (v_moveC rfl) rfl ?_
      refine s_evN (e_add ext_71 rfl rfl rfl (rfl : _ = U64 (0#64)) (by decide)) APP_ rfl ?_
      refine s_val (v_moveT rfl) rfl ?_
      refine s_val (v_extract rfl rfl) rfl ?_
      refine s_val (v_extract rfl rfl) rfl ?_
      refine s_val (v_idxA1 rfl rfl Try.underlying99 sz_29 (by omega)) rfl ?_
      refine s_store64 rfl rfl rfl sz_29 LT_ SET_ ?_
      refine s_val (v_assignC rfl) rfl ?_
      refine s_nil ?_
      refine S_ ?_
      refine c_region ?_
      refine s_val (v_moveC rfl) rfl ?_
      refine s_val (v_moveC rfl) rfl ?_
      refine s_val (v_addN rfl rfl (by omega)) rfl ?_
      refine s_val (v_moveC rfl) rfl ?_
      refine s_val (v_moveC rfl) rfl ?_
      refine s_val (v_addN rfl rfl (by omega)) rfl ?_
      refine s_val (v_idxA1 rfl rfl Try.underlying99 sz_29 (by omega)) rfl ?_
      refine s_val (v_load64 rfl rfl row_29 LT_) rfl ?_
      refine s_val (v_moveC rfl) rfl ?_
      refine s_evN (e_add ext_71 rfl rfl rfl (rfl : _ = U64 (0#64)) (by decide)) APP_ rfl ?_
      refine s_val (v_moveT rfl) rfl ?_
      refine s_val (v_extract rfl rfl) rfl ?_
      refine s_val (v_extract rfl rfl) rfl ?_
      refine s_val (v_idxA1 rfl rfl Try.underlying99 sz_29 (by omega)) rfl ?_
      refine s_store64 rfl rfl rfl sz_29 LT_ SET_ ?_
      refine s_val (v_assignC rfl) rfl ?_
      refine s_nil ?_
      refine S_ ?_
      refine c_region ?_
      refine s_val (v_moveC rfl) rfl ?_
      refine s_val (v_moveC rfl) rfl ?_
      refine s_val (v_add64 rfl rfl) rfl ?_
      refine s_val (v_moveC rfl) rfl ?_
      refine s_val (v_add64 rfl rfl) rfl ?_
      refine s_val (v_assignC rfl) rfl ?_
      refine s_nil ?_
      refine S_ ?_
      refine c_region ?_
      refine s_val (v_addN (b := 1) rfl rfl (by omega)) rfl ?_
      refine s_val (v_moveC rfl) rfl ?_
      refine s_nil ?_
      exact ⟨(j7 + 1, _), by kernel_rfl, rfl⟩
    · try dsimp only
      have hY6 : (scProd_L7 a b X1 j3 4).2.length = 9 := by rw [scProd_L7_len1 a b X1 j3 ha hb hX1 _]; try omega
      generalize scProd_L7 a b X1 j3 4 = Z7 at *
      obtain ⟨Y5, Y6⟩ := Z7
      try dsimp only at *
      refine S_ ?_
      refine c_region ?_
      refine s_val (v_lssN (a := 4) (b := 4) rfl rfl) rfl ?_
      refine s_nil ?_
      refine S_ ?_
      refine c_region ?_
      refine s_val (v_moveC rfl) rfl ?_
      refine s_val (v_addN (b := 4) rfl rfl (by omega)) rfl ?_
      refine s_val (v_moveC rfl) rfl ?_
      refine s_val (v_idxA1 rfl rfl Try.underlying99 sz_29 (by omega)) rfl ?_
      refine s_store64 rfl rfl rfl sz_29 LT_ SET_ ?_
      refine s_nil ?_
      refine S_ ?_
      refine c_region ?_
      refine s_val (v_addN (b := 1) rfl rfl (by omega)) rfl ?_
      refine s_val (v_moveC rfl) rfl ?_
      refine s_nil ?_
      exact ⟨(j3 + 1, _), by kernel_rfl, rfl⟩
  · try dsimp only
    have hY8 : (scProd_L3 a b 4).length = 9 := by rw [scProd_L3_len a b ha hb _]; try omega
    generalize scProd_L3 a b 4 = Y8 at *
    refine S_ ?_
    refine c_region ?_
    refine s_val (v_lssN (a := 4) (b := 4) rfl rfl) rfl ?_
    refine s_nil ?_
    refine S_ ?_
    refine c_region ?_
    refine s_val (v_assignC rfl) rfl ?_
    refine s_nil ?_
    refine S_ ?_
    refine c_region ?_
    refine s_val (v_moveC rfl) rfl ?_
    refine s_nil ?_
    refine S_ ?_
    refine c_loopC [5, 7, 15, 75] (fun (zz : Nat × BitVec 64 × List (BitVec 64)) => ⟨112, keepT [5, 7, 15, 75] [.c (.ptr 0 0), .c (.ptr 1 0), .c (.val (U64 (zz.2.1))), .c (.val (.int .i64 (((zz.1 : Nat) : Int))))], [.row true (.a64 (c)), .row true (.a64 (zz.2.2))]⟩) (fun j19 => (j19, scProd_L19 c Y8 j19)) (9) (by kernel_rfl) ?_ ?_
    · intro j19 hj19
      try dsimp only
      have hX10 : (scProd_L19 c Y8 j19).2.length = 9 := by rw [scProd_L19_len1 c Y8 hc hY8 _]; try omega
      have hcc := scProd_c c Y8 j19
      rw [scProd_L19.eq_2, scProd_L19_S]
      generalize scProd_L19 c Y8 j19 = Z11 at *
      obtain ⟨X9, X10⟩ := Z11
      try dsimp only at *
      refine S_ ?_
      refine c_region ?_
      refine s_val (v_lssN (b := 9) rfl rfl) rfl ?_
      refine s_nil ?_
      refine S_ ?_
      refine c_region ?_
      refine s_val (v_moveC rfl) rfl ?_
      refine s_val (v_assignC rfl) rfl ?_
      refine s_nil ?_
      refine S_ ?_
      refine c_region ?_
      refine s_val (v_assignC rfl) rfl ?_
      refine s_nil ?_
      refine S_ ?_
      refine c_region ?_
      refine s_val (v_moveC rfl) rfl ?_
      refine s_val (v_lssN (b := 4) rfl rfl) rfl ?_
      refine s_nil ?_
      refine Q_ ?_
      refine c_join [5, 7, 15, 16, 17, 75] (fun (zz : BitVec 64) => ⟨112, keepT [5, 7, 15, 16, 17, 75] [.c (.ptr 0 0), .c (.ptr 1 0), .c (.val (U64 (X9))), .c (.val (.int .i64 (((j19 : Nat) : Int)))), .c (.val (U64 (zz))), .c (.val (.int .i64 (((j19 : Nat) : Int))))], [.row true (.a64 (c)), .row true (.a64 (X10))]⟩) (if j19 < 4 then nth c j19 else 0#64) rfl (fun hb => ?_) (fun hb => ?_) ?_
      · -- the test is True
        have hb_ := of_decide_eq_true hb
        refine S_ ?_
        refine c_region ?_
        refine s_val (v_moveC rfl) rfl ?_
        refine s_val (v_idxA1 rfl rfl Try.underlying79 sz_29 (by omega)) rfl ?_
        refine s_val (v_load64 rfl rfl row_29 LT_) rfl ?_
        refine s_val (v_assignC rfl) rfl ?_
        refine s_nil ?_
        refine S_ ?_
        refine ⟨(nth c j19), by kernel_rfl, ?_⟩
        rw [if_pos (of_decide_eq_true hb)]
      · -- the test is False
        have hb_ := of_decide_eq_false hb
        refine S_ ?_
        refine ⟨0#64, by kernel_rfl, ?_⟩
        rw [if_neg (of_decide_eq_false hb)]
      generalize (if j19 < 4 then nth c j19 else 0#64) = J12 at *
      refine S_ ?_
      refine c_region ?_
      refine s_val (v_moveC rfl) rfl ?_
      refine s_val (v_moveC rfl) rfl ?_
      refine s_val (v_idxA1 rfl rfl Try.underlying99 sz_29 (by omega)) rfl ?_
      refine s_val (v_load64 rfl rfl row_29 LT_) rfl ?_
      refine s_val (v_moveC rfl) rfl ?_
      refine s_val (v_moveC rfl) rfl ?_
      refine s_evN (e_add ext_71 rfl rfl rfl (rfl : _ = U64 (X9)) (by repeat (first | decide | assumption | apply addC_le | apply subC_le))) APP_ rfl ?_
      refine s_val (v_moveT rfl) rfl ?_
      refine s_val (v_extract rfl rfl) rfl ?_
      refine s_val (v_extract rfl rfl) rfl ?_
      refine s_val (v_idxA1 rfl rfl Try.underlying99 sz_29 (by omega)) rfl ?_
      refine s_store64 rfl rfl rfl sz_29 LT_ SET_ ?_
      refine s_val (v_assignC rfl) rfl ?_
      refine s_nil ?_
      refine S_ ?_
      refine c_region ?_
      refine s_val (v_addN (b := 1) rfl rfl (by omega)) rfl ?_
      refine s_val (v_moveC rfl) rfl ?_
      refine s_nil ?_
      exact ⟨(j19 + 1, _), by kernel_rfl, rfl⟩
    · try dsimp only
      have hY14 : (scProd_L19 c Y8 9).2.length = 9 := by rw [scProd_L19_len1 c Y8 hc hY8 _]; try omega
      have hcc := scProd_c c Y8 9
      generalize scProd_L19 c Y8 9 = Z15 at *
      obtain ⟨Y13, Y14⟩ := Z15
      try dsimp only at *
      refine S_ ?_
      refine c_region ?_
      refine s_val (v_lssN (a := 9) (b := 9) rfl rfl) rfl ?_
      refine s_nil ?_
      refine S_ ?_
      refine c_region ?_
      refine s_val (v_assignC rfl) rfl ?_
      refine s_nil ?_
      refine S_ ?_
      refine c_region ?_
      refine s_val (v_moveC rfl) rfl ?_
      refine s_nil ?_
      refine S_ ?_
      refine c_nil 18 1 (.a8 ([])) rfl rfl LEN_ rfl ?_
      refine S_ ?_
      refine c_loopC [7, 18, 95] (fun (zz : Nat × List (BitVec 8)) => ⟨112, keepT [7, 18, 95] [.c (.ptr 0 0), .c (.sl 1 0 zz.1 zz.1 1), .c (.val (.int .i64 (((zz.1 : Nat) : Int))))], [.row true (.a64 (Y14)), .row true (.a8 (zz.2))]⟩) (fun j28 => (j28, scProd_L28 Y14 j28)) (72) (by kernel_rfl) ?_ ?_
      · intro j28 hj28
        try dsimp only
        have hX16 : (scProd_L28 Y14 j28).length = j28 := by rw [scProd_L28_len Y14 hY14 _]; try omega
        rw [scProd_L28.eq_2, scProd_L28_S]
        generalize scProd_L28 Y14 j28 = X16 at *
        refine S_ ?_
        refine c_region ?_
        refine s_val (v_lssN (b := 72) rfl rfl) rfl ?_
        refine s_nil ?_
        refine S_ ?_
        refine c_region ?_
        refine s_val (v_moveC rfl) rfl ?_
        refine s_val (v_assignC rfl) rfl ?_
        refine s_nil ?_
        refine S_ ?_
        refine c_region ?_
        refine s_val (v_moveC rfl) rfl ?_
        refine s_val (v_moveC rfl) rfl ?_
        refine s_val (v_quoN (b := 8) rfl rfl (by omega) (by omega)) rfl ?_
        refine s_val (v_idxA1 rfl rfl Try.underlying99 sz_29 (by omega)) rfl ?_
        refine s_val (v_load64 rfl rfl row_29 LT_) rfl ?_
        refine s_val (v_moveC rfl) rfl ?_
        refine s_val (v_remN (b := 8) rfl rfl (by omega) (by omega)) rfl ?_
        refine s_val (v_mulN (a := 8) rfl rfl (by omega)) rfl ?_
        refine s_val (v_shr64n rfl rfl) rfl ?_
        refine s_val (v_conv rfl Try.underlying29 Try.underlying5 (w64_8 _)) rfl ?_
        refine s_memN (m_bs8 (l := [_]) Try.underlying47 el_5 rfl rfl (by decide) (by decide) LEN_) APP_ rfl ?_
        refine s_app8 rfl rfl rfl rfl Try.underlying47 Try.underlying47 el_5 EQL_ EQL_ (by omega) LEN_ KILL_ rfl ?_
        refine s_val (v_assignC rfl) rfl ?_
        refine s_nil ?_
        refine S_ ?_
        refine c_region ?_
        refine s_val (v_addN (b := 1) rfl rfl (by omega)) rfl ?_
        refine s_val (v_moveC rfl) rfl ?_
        refine s_nil ?_
        exact ⟨(j28 + 1, _), by kernel_rfl, rfl⟩
      · try dsimp only
        have hY17 : (scProd_L28 Y14 72).length = 72 := by rw [scProd_L28_len Y14 hY14 _]; try omega
        generalize scProd_L28 Y14 72 = Y17 at *
        refine S_ ?_
        refine c_region ?_
        refine s_val (v_lssN (a := 72) (b := 72) rfl rfl) rfl ?_
        refine s_nil ?_
        refine S_ ?_
        refine c_region ?_
        refine s_val (v_moveC rfl) rfl ?_
        refine s_val (v_assignC rfl) rfl ?_
        refine s_nil ?_
        refine S_ ?_
        rw [hP.out]
        exact k_1 (by first | exact r_tmpC rfl | exact r_tmpA rfl) (by first | kernel_rfl | rfl)

@[simp] theorem scProd_len (a : List (BitVec 64)) (b : List (BitVec 64)) (c : List (BitVec 64)) (ha : a.length = 4) (hb : b.length = 4) (hc : c.length = 4) : (scProd a b c).length = 72 := by
  unfold scProd
  first | (simp (maxDischargeDepth := 9) [scProd_L3_len, scProd_L19_len1, scProd_L28_len, *]; done) | (simp (maxDischargeDepth := 9) [scProd_L7_len1, scProd_L3_len, scProd_L19_len1, scProd_L28_len, *]; omega) | (split <;> (simp (maxDischargeDepth := 9) [scProd_L7_len1, scProd_L3_len, scProd_L19_len1, scProd_L28_len, *]; done))

attribute [irreducible] scProd
end Go.Proofs.Ytcekjmejppemeaa
/- curve.order, (curve.scalar).less, (curve.scalar).bytes, curve.of (Drawn up by a program.) -/
namespace Go.Proofs.Ytcekjmejppemeaa
open Go.RowKit
def scOrder  : List (BitVec 64) := [6346243789798364141#64, 1503914060200516822#64, 0#64, 1152921504606846976#64]
set_option maxRecDepth 100000 in
set_option maxHeartbeats 2000000 in
theorem scOrder_ev   : Ev Try.prog (.call 67 [] []) (.val (.agg (.a64 (scOrder))) []) := by
  have hP : Hid (scOrder = [6346243789798364141#64, 1503914060200516822#64, 0#64, 1152921504606846976#64]) := ⟨rfl⟩
  refine c_call Try.func67 rfl Try.ntmps67 rfl LEN_ ?_
  refine S_ ?_
  refine c_region ?_
  refine s_memN (m_alloc al_79 LEN_) APP_ rfl ?_
  refine s_nil ?_
  refine S_ ?_
  refine c_region ?_
  refine s_val (v_bld64 (l := [6346243789798364141#64, 1503914060200516822#64, 0#64, 1152921504606846976#64]) zc_79 Try.underlying79 sz_29 rfl rfl (by decide)) rfl ?_
  refine s_storeR rfl rfl rfl rfl sz_79 EQ_ EQ_ SET_ ?_
  refine s_nil ?_
  refine S_ ?_
  rw [hP.out]
  exact k_1 (r_row rfl rfl row_79 sz_79 EQ_ (by decide)) (by first | kernel_rfl | rfl)

@[simp] theorem scOrder_len  : (scOrder).length = 4 := by
  unfold scOrder
  first | (simp [*]; done) | (simp [*]; omega)

attribute [irreducible] scOrder

def scLess_L3_S (a : List (BitVec 64)) (b : List (BitVec 64)) (X1 : BitVec 64) (j3 : Nat) : BitVec 64 := subC (nth a j3) (nth b j3) X1
def scLess_L3 (a : List (BitVec 64)) (b : List (BitVec 64)) : Nat → BitVec 64
  | 0 => 0#64
  | j3 + 1 => scLess_L3_S a b (scLess_L3 a b j3) j3
theorem scLess_c (a b : List (BitVec 64)) (j : Nat) : (scLess_L3 a b j).toNat ≤ 1 := by
  induction j with
  | zero => show (0#64).toNat ≤ 1; decide
  | succ j ih => rw [scLess_L3.eq_2, scLess_L3_S]; exact subC_le _ _ _
set_option maxRecDepth 100000 in
set_option maxHeartbeats 2000000 in
theorem scLess_ev (a : List (BitVec 64)) (b : List (BitVec 64)) (ha : a.length = 4) (hb : b.length = 4) : Ev Try.prog (.call 66 [.agg (.a64 (a)), .agg (.a64 (b))] []) (.val (.c (.val (.bool (((scLess_L3 a b 4) == 1#64))))) []) := by
  refine c_call Try.func66 rfl Try.ntmps66 rfl LEN_ ?_
  refine S_ ?_
  refine c_region ?_
  refine s_memN (m_box BX_ LEN_) APP_ rfl ?_
  refine s_memN (m_box BX_ LEN_) APP_ rfl ?_
  refine s_val (v_assignC rfl) rfl ?_
  refine s_nil ?_
  refine S_ ?_
  refine c_region ?_
  refine s_val (v_assignC rfl) rfl ?_
  refine s_nil ?_
  refine S_ ?_
  refine c_region ?_
  refine s_val (v_moveC rfl) rfl ?_
  refine s_nil ?_
  refine S_ ?_
  refine c_loopC [2, 3, 5, 7] (fun (zz : Nat × BitVec 64) => ⟨24, keepT [2, 3, 5, 7] [.c (.ptr 0 0), .c (.ptr 1 0), .c (.val (U64 (zz.2))), .c (.val (.int .i64 (((zz.1 : Nat) : Int))))], [.row true (.a64 (a)), .row true (.a64 (b))]⟩) (fun j3 => (j3, scLess_L3 a b j3)) (4) (by kernel_rfl) ?_ ?_
  · intro j3 hj3
    try dsimp only
    have hc := scLess_c a b j3
    rw [scLess_L3.eq_2, scLess_L3_S]
    generalize scLess_L3 a b j3 = X1 at *
    refine S_ ?_
    refine c_region ?_
    refine s_val (v_lssN (b := 4) rfl rfl) rfl ?_
    refine s_nil ?_
    refine S_ ?_
    refine c_region ?_
    refine s_val (v_moveC rfl) rfl ?_
    refine s_val (v_assignC rfl) rfl ?_
    refine s_nil ?_
    refine S_ ?_
    refine c_draw 12 mixed (by kernel_rfl) rfl rfl rfl ?_
    refine h_val (v_moveC rfl) rfl ?_
    refine h_val (v_idxA1 rfl rfl Try.underlying79 sz_29 (by omega)) rfl ?_
    refine h_val (v_load64 rfl rfl row_29 LT_) rfl ?_
    refine h_val (v_moveC rfl) rfl ?_
    refine h_val (v_idxA1 rfl rfl Try.underlying79 sz_29 (by omega)) rfl ?_
    refine h_val (v_load64 rfl rfl row_29 LT_) rfl ?_
    refine h_val (v_moveC rfl) rfl ?_
    refine h_evN (e_sub ext_87 rfl rfl rfl (rfl : _ = U64 (X1)) (by repeat (first | decide | assumption | apply addC_le | apply subC_le))) APP_ rfl ?_
    refine h_val (v_moveT rfl) rfl ?_
    refine h_val (v_extract rfl rfl) rfl ?_
    refine h_val (v_extract rfl rfl) rfl ?_
    refine h_val (v_assignC rfl) rfl ?_
    refine h_nil ?_
    refine s_nil ?_
    refine S_ ?_
    refine c_region ?_
    refine s_val (v_addN (b := 1) rfl rfl (by omega)) rfl ?_
    refine s_val (v_moveC rfl) rfl ?_
    refine s_nil ?_
    exact ⟨(j3 + 1, _), by kernel_rfl, rfl⟩
  · try dsimp only
    have hc := scLess_c a b 4
    generalize scLess_L3 a b 4 = Y2 at *
    refine S_ ?_
    refine c_region ?_
    refine s_val (v_lssN (a := 4) (b := 4) rfl rfl) rfl ?_
    refine s_nil ?_
    refine S_ ?_
    refine c_region ?_
    refine s_val (v_moveC rfl) rfl ?_
    refine s_val (v_eql64 (b := 1#64) rfl rfl) rfl ?_
    refine s_val (v_assignC rfl) rfl ?_
    refine s_nil ?_
    refine S_ ?_
    exact k_1 (by first | exact r_tmpC rfl | exact r_tmpA rfl) (by first | kernel_rfl | rfl)

def scBytes_L3_S (a : List (BitVec 64)) (X1 : List (BitVec 8)) (j3 : Nat) : List (BitVec 8) := put X1 j3 (((nth a (j3 / 8)) >>> (8 * (j3 % 8))).setWidth 8)
def scBytes_L3 (a : List (BitVec 64)) : Nat → List (BitVec 8)
  | 0 => zer8 32
  | j3 + 1 => scBytes_L3_S a (scBytes_L3 a j3) j3
@[simp] theorem scBytes_L3_len (a : List (BitVec 64)) (j3 : Nat) : (scBytes_L3 a j3).length = 32 := by
  induction j3 with
  | zero => first | (simp [scBytes_L3, *]; done) | (simp [scBytes_L3, *]; omega)
  | succ j3 ih => rw [scBytes_L3.eq_2, scBytes_L3_S]; first | (simp [ih]; done) | (simp [ih]; omega) | (simp [*]; done) | (simp [*]; omega) | (split <;> first | (simp [ih]; done) | (simp [ih]; omega) | (simp [*]; done))
def scBytes (a : List (BitVec 64)) : List (BitVec 8) := (scBytes_L3 a 32)
set_option maxRecDepth 100000 in
set_option maxHeartbeats 2000000 in
theorem scBytes_ev (a : List (BitVec 64)) (ha : a.length = 4) : Ev Try.prog (.call 64 [.agg (.a64 (a))] []) (.val (.agg (.a8 (scBytes a))) []) := by
  have hP : Hid (scBytes a = (scBytes_L3 a 32)) := ⟨rfl⟩
  refine c_call Try.func64 rfl Try.ntmps64 rfl LEN_ ?_
  refine S_ ?_
  refine c_region ?_
  refine s_memN (m_box BX_ LEN_) APP_ rfl ?_
  refine s_memN (m_alloc al_22 LEN_) APP_ rfl ?_
  refine s_nil ?_
  refine S_ ?_
  refine c_region ?_
  refine s_memN (m_alloc al_22 LEN_) APP_ rfl ?_
  refine s_nil ?_
  refine S_ ?_
  refine c_region ?_
  refine s_val (v_moveC rfl) rfl ?_
  refine s_nil ?_
  refine S_ ?_
  refine c_loopC [1, 2, 3, 5] (fun (zz : Nat × List (BitVec 8)) => ⟨21, keepT [1, 2, 3, 5] [.c (.ptr 0 0), .c (.ptr 1 0), .c (.ptr 2 0), .c (.val (.int .i64 (((zz.1 : Nat) : Int))))], [.row true (.a64 (a)), .row true (.a8 (zer8 32)), .row true (.a8 (zz.2))]⟩) (fun j3 => (j3, scBytes_L3 a j3)) (32) (by kernel_rfl) ?_ ?_
  · intro j3 hj3
    try dsimp only
    have hX1 : (scBytes_L3 a j3).length = 32 := by rw [scBytes_L3_len a _]; try omega
    rw [scBytes_L3.eq_2, scBytes_L3_S]
    generalize scBytes_L3 a j3 = X1 at *
    refine S_ ?_
    refine c_region ?_
    refine s_val (v_lssN (b := 32) rfl rfl) rfl ?_
    refine s_nil ?_
    refine S_ ?_
    refine c_region ?_
    refine s_val (v_moveC rfl) rfl ?_
    refine s_val (v_assignC rfl) rfl ?_
    refine s_nil ?_
    refine S_ ?_
    refine c_region ?_
    refine s_val (v_moveC rfl) rfl ?_
    refine s_val (v_moveC rfl) rfl ?_
    refine s_val (v_quoN (b := 8) rfl rfl (by omega) (by omega)) rfl ?_
    refine s_val (v_idxA1 rfl rfl Try.underlying79 sz_29 (by omega)) rfl ?_
    refine s_val (v_load64 rfl rfl row_29 LT_) rfl ?_
    refine s_val (v_moveC rfl) rfl ?_
    refine s_val (v_remN (b := 8) rfl rfl (by omega) (by omega)) rfl ?_
    refine s_val (v_mulN (a := 8) rfl rfl (by omega)) rfl ?_
    refine s_val (v_shr64n rfl rfl) rfl ?_
    refine s_val (v_conv rfl Try.underlying29 Try.underlying5 (w64_8 _)) rfl ?_
    refine s_val (v_idxA1 rfl rfl Try.underlying22 sz_5 (by omega)) rfl ?_
    refine s_store8 rfl rfl rfl sz_5 LT_ SET_ ?_
    refine s_nil ?_
    refine S_ ?_
    refine c_region ?_
    refine s_val (v_addN (b := 1) rfl rfl (by omega)) rfl ?_
    refine s_val (v_moveC rfl) rfl ?_
    refine s_nil ?_
    exact ⟨(j3 + 1, _), by kernel_rfl, rfl⟩
  · try dsimp only
    have hY2 : (scBytes_L3 a 32).length = 32 := by rw [scBytes_L3_len a _]; try omega
    generalize scBytes_L3 a 32 = Y2 at *
    refine S_ ?_
    refine c_region ?_
    refine s_val (v_lssN (a := 32) (b := 32) rfl rfl) rfl ?_
    refine s_nil ?_
    refine S_ ?_
    refine c_region ?_
    refine s_val (v_loadR rfl rfl row_22 sz_22 EQ_ (by decide)) rfl ?_
    refine s_storeR rfl rfl rfl rfl sz_22 EQ_ EQ_ SET_ ?_
    refine s_nil ?_
    refine S_ ?_
    rw [hP.out]
    exact k_1 (r_row rfl rfl row_22 sz_22 EQ_ (by decide)) (by first | kernel_rfl | rfl)

@[simp] theorem scBytes_len (a : List (BitVec 64)) (_ha : a.length = 4) : (scBytes a).length = 32 := by
  unfold scBytes
  first | (simp [scBytes_L3_len, *]; done) | (simp [scBytes_L3_len, *]; omega)

attribute [irreducible] scBytes

def scOf_L3_S (b : List (BitVec 8)) (X1 : List (BitVec 64)) (j3 : Nat) : List (BitVec 64) := put X1 (j3 / 8) ((nth X1 (j3 / 8)) ||| (((nth b j3).setWidth 64) <<< (8 * (j3 % 8))))
def scOf_L3 (b : List (BitVec 8)) : Nat → List (BitVec 64)
  | 0 => zer64 4
  | j3 + 1 => scOf_L3_S b (scOf_L3 b j3) j3
@[simp] theorem scOf_L3_len (b : List (BitVec 8)) (j3 : Nat) : (scOf_L3 b j3).length = 4 := by
  induction j3 with
  | zero => first | (simp [scOf_L3, *]; done) | (simp [scOf_L3, *]; omega)
  | succ j3 ih => rw [scOf_L3.eq_2, scOf_L3_S]; first | (simp [ih]; done) | (simp [ih]; omega) | (simp [*]; done) | (simp [*]; omega) | (split <;> first | (simp [ih]; done) | (simp [ih]; omega) | (simp [*]; done))
def scOf (b : List (BitVec 8)) : List (BitVec 64) := (scOf_L3 b 32)
set_option maxRecDepth 100000 in
set_option maxHeartbeats 2000000 in
theorem scOf_ev (b : List (BitVec 8)) (hb : b.length = 32) : Ev Try.prog (.call 65 [.agg (.a8 (b))] []) (.val (.agg (.a64 (scOf b))) []) := by
  have hP : Hid (scOf b = (scOf_L3 b 32)) := ⟨rfl⟩
  refine c_call Try.func65 rfl Try.ntmps65 rfl LEN_ ?_
  refine S_ ?_
  refine c_region ?_
  refine s_memN (m_box BX_ LEN_) APP_ rfl ?_
  refine s_memN (m_alloc al_79 LEN_) APP_ rfl ?_
  refine s_nil ?_
  refine S_ ?_
  refine c_region ?_
  refine s_memN (m_alloc al_79 LEN_) APP_ rfl ?_
  refine s_nil ?_
  refine S_ ?_
  refine c_region ?_
  refine s_val (v_moveC rfl) rfl ?_
  refine s_nil ?_
  refine S_ ?_
  refine c_loopC [1, 2, 3, 5] (fun (zz : Nat × List (BitVec 64)) => ⟨24, keepT [1, 2, 3, 5] [.c (.ptr 0 0), .c (.ptr 1 0), .c (.ptr 2 0), .c (.val (.int .i64 (((zz.1 : Nat) : Int))))], [.row true (.a8 (b)), .row true (.a64 (zer64 4)), .row true (.a64 (zz.2))]⟩) (fun j3 => (j3, scOf_L3 b j3)) (32) (by kernel_rfl) ?_ ?_
  · intro j3 hj3
    try dsimp only
    have hX1 : (scOf_L3 b j3).length = 4 := by rw [scOf_L3_len b _]; try omega
    rw [scOf_L3.eq_2, scOf_L3_S]
    generalize scOf_L3 b j3 = X1 at *
    refine S_ ?_
    refine c_region ?_
    refine s_val (v_lssN (b := 32) rfl rfl) rfl ?_
    refine s_nil ?_
    refine S_ ?_
    refine c_region ?_
    refine s_val (v_moveC rfl) rfl ?_
    refine s_val (v_assignC rfl) rfl ?_
    refine s_nil ?_
    refine S_ ?_
    refine c_draw 14 mixed (by kernel_rfl) rfl rfl rfl ?_
    refine h_val (v_moveC rfl) rfl ?_
    refine h_val (v_quoN (b := 8) rfl rfl (by omega) (by omega)) rfl ?_
    refine h_val (v_idxA1 rfl rfl Try.underlying79 sz_29 (by omega)) rfl ?_
    refine h_val (v_load64 rfl rfl row_29 LT_) rfl ?_
    refine h_val (v_moveC rfl) rfl ?_
    refine h_val (v_idxA1 rfl rfl Try.underlying22 sz_5 (by omega)) rfl ?_
    refine h_val (v_load8 rfl rfl row_5 LT_) rfl ?_
    refine h_val (v_conv rfl Try.underlying5 Try.underlying29 (w8_64 _)) rfl ?_
    refine h_val (v_moveC rfl) rfl ?_
    refine h_val (v_remN (b := 8) rfl rfl (by omega) (by omega)) rfl ?_
    refine h_val (v_mulN (a := 8) rfl rfl (by omega)) rfl ?_
    refine h_val (v_shl64n rfl rfl) rfl ?_
    refine h_val (v_or64 rfl rfl) rfl ?_
    refine h_val (v_idxA1 rfl rfl Try.underlying79 sz_29 (by omega)) rfl ?_
    refine h_nil ?_
    refine s_store64 rfl rfl rfl sz_29 LT_ SET_ ?_
    refine s_nil ?_
    refine S_ ?_
    refine c_region ?_
    refine s_val (v_addN (b := 1) rfl rfl (by omega)) rfl ?_
    refine s_val (v_moveC rfl) rfl ?_
    refine s_nil ?_
    exact ⟨(j3 + 1, _), by kernel_rfl, rfl⟩
  · try dsimp only
    have hY2 : (scOf_L3 b 32).length = 4 := by rw [scOf_L3_len b _]; try omega
    generalize scOf_L3 b 32 = Y2 at *
    refine S_ ?_
    refine c_region ?_
    refine s_val (v_lssN (a := 32) (b := 32) rfl rfl) rfl ?_
    refine s_nil ?_
    refine S_ ?_
    refine c_region ?_
    refine s_val (v_loadR rfl rfl row_79 sz_79 EQ_ (by decide)) rfl ?_
    refine s_storeR rfl rfl rfl rfl sz_79 EQ_ EQ_ SET_ ?_
    refine s_nil ?_
    refine S_ ?_
    rw [hP.out]
    exact k_1 (r_row rfl rfl row_79 sz_79 EQ_ (by decide)) (by first | kernel_rfl | rfl)

@[simp] theorem scOf_len (b : List (BitVec 8)) (_hb : b.length = 32) : (scOf b).length = 4 := by
  unfold scOf
  first | (simp [scOf_L3_len, *]; done) | (simp [scOf_L3_len, *]; omega)

attribute [irreducible] scOf
end Go.Proofs.Ytcekjmejppemeaa
/- (curve.scalar).shifted (Drawn up by a program.) -/
namespace Go.Proofs.Ytcekjmejppemeaa
open Go.RowKit
def scSh_L2_S (X1 : BitVec 64) (X2 : List (BitVec 64)) (j2 : Nat) : BitVec 64 × List (BitVec 64) := ((nth X2 j2) >>> 63, put X2 j2 (((nth X2 j2) <<< 1) ||| X1))
def scSh_L2 (a : List (BitVec 64)) (bit : BitVec 64) : Nat → BitVec 64 × List (BitVec 64)
  | 0 => (bit, a)
  | j2 + 1 => scSh_L2_S (scSh_L2 a bit j2).1 (scSh_L2 a bit j2).2 j2
theorem scSh_L2_len1 (a : List (BitVec 64)) (bit : BitVec 64) (ha : a.length = 4) (j2 : Nat) : (scSh_L2 a bit j2).2.length = 4 := by
  induction j2 with
  | zero => first | (simp (maxDischargeDepth := 9) [scSh_L2, *]; done) | (simp (maxDischargeDepth := 9) [scSh_L2, *]; omega)
  | succ j2 ih => rw [scSh_L2.eq_2, scSh_L2_S]; first | (simp (maxDischargeDepth := 9) [ih]; done) | (simp (maxDischargeDepth := 9) [ih]; omega) | (simp (maxDischargeDepth := 9) [*]; done) | (simp (maxDischargeDepth := 9) [*]; omega) | (split <;> first | (simp (maxDischargeDepth := 9) [ih]; done) | (simp (maxDischargeDepth := 9) [ih]; omega) | (simp (maxDischargeDepth := 9) [*]; done))
def scSh (a : List (BitVec 64)) (bit : BitVec 64) : List (BitVec 64) := ((scSh_L2 a bit 4).2)
set_option maxRecDepth 100000 in
set_option maxHeartbeats 2000000 in
theorem scSh_ev (a : List (BitVec 64)) (bit : BitVec 64) (ha : a.length = 4) (hl : (scLess_L3 (scSh_L2 a bit 4).2 scOrder 4 == 1#64) = true) : Ev Try.prog (.call 86 [.agg (.a64 (a)), .c (.val (U64 bit))] []) (.val (.agg (.a64 (scSh a bit))) []) := by
  have hP : Hid (scSh a bit = ((scSh_L2 a bit 4).2)) := ⟨rfl⟩
  refine c_call Try.func86 rfl Try.ntmps86 rfl LEN_ ?_
  refine S_ ?_
  refine c_region ?_
  refine s_memN (m_box BX_ LEN_) APP_ rfl ?_
  refine s_memN (m_alloc al_79 LEN_) APP_ rfl ?_
  refine s_nil ?_
  refine S_ ?_
  refine c_region ?_
  refine s_val (v_moveC rfl) rfl ?_
  refine s_nil ?_
  refine S_ ?_
  refine c_loopC [1, 2, 4, 9] (fun (zz : Nat × BitVec 64 × List (BitVec 64)) => ⟨47, keepT [1, 2, 4, 9] [.c (.val (U64 (zz.2.1))), .c (.ptr 0 0), .c (.ptr 1 0), .c (.val (.int .i64 (((zz.1 : Nat) : Int))))], [.row true (.a64 (zz.2.2)), .row true (.a64 (zer64 4))]⟩) (fun j2 => (j2, scSh_L2 a bit j2)) (4) (by kernel_rfl) ?_ ?_
  · intro j2 hj2
    try dsimp only
    have hX2 : (scSh_L2 a bit j2).2.length = 4 := by rw [scSh_L2_len1 a bit ha _]; try omega
    rw [scSh_L2.eq_2, scSh_L2_S]
    generalize scSh_L2 a bit j2 = Z3 at *
    obtain ⟨X1, X2⟩ := Z3
    try dsimp only at *
    refine S_ ?_
    refine c_region ?_
    refine s_val (v_lssN (b := 4) rfl rfl) rfl ?_
    refine s_nil ?_
    refine S_ ?_
    refine c_region ?_
    refine s_val (v_moveC rfl) rfl ?_
    refine s_val (v_assignC rfl) rfl ?_
    refine s_nil ?_
    refine S_ ?_
    refine c_stores2 [0] mixed (by kernel_rfl) ?_
    refine x_val (v_moveC rfl) rfl ?_
    refine x_val (v_moveC rfl) rfl ?_
    refine x_val (v_idxA1 rfl rfl Try.underlying79 sz_29 (by omega)) rfl ?_
    first | refine x_val (v_load64 rfl rfl row_29 LT_) rfl ?_ | refine x_early (by kernel_rfl) (v_load64 rfl rfl row_29 LT_) rfl ?_
    refine x_val (v_shl64n (j := 1) rfl rfl) rfl ?_
    refine x_val (v_moveC rfl) rfl ?_
    refine x_val (v_or64 rfl rfl) rfl ?_
    refine x_val (v_moveC rfl) rfl ?_
    refine x_val (v_idxA1 rfl rfl Try.underlying79 sz_29 (by omega)) rfl ?_
    first | refine x_val (v_load64 rfl rfl row_29 LT_) rfl ?_ | refine x_early (by kernel_rfl) (v_load64 rfl rfl row_29 LT_) rfl ?_
    refine x_val (v_shr64n (j := 63) rfl rfl) rfl ?_
    refine x_val (v_idxA1 rfl rfl Try.underlying79 sz_29 (by omega)) rfl ?_
    refine x_store64 rfl rfl rfl rfl sz_29 LT_ SET_ ?_
    refine x_val (v_assignC rfl) rfl ?_
    refine x_nil ?_
    refine S_ ?_
    refine c_region ?_
    refine s_val (v_addN (b := 1) rfl rfl (by omega)) rfl ?_
    refine s_val (v_moveC rfl) rfl ?_
    refine s_nil ?_
    exact ⟨(j2 + 1, _), by kernel_rfl, rfl⟩
  · try dsimp only
    have hY5 : (scSh_L2 a bit 4).2.length = 4 := by rw [scSh_L2_len1 a bit ha _]; try omega
    generalize scSh_L2 a bit 4 = Z6 at *
    obtain ⟨Y4, Y5⟩ := Z6
    try dsimp only at *
    refine S_ ?_
    refine c_region ?_
    refine s_val (v_lssN (a := 4) (b := 4) rfl rfl) rfl ?_
    refine s_nil ?_
    have hQ7 : (scOrder).length = 4 := LQ_
    refine S_ ?_
    refine c_draw 3 mixed (by kernel_rfl) rfl rfl rfl ?_
    refine h_val (v_loadR rfl rfl row_79 sz_79 EQ_ (by decide)) rfl ?_
    refine h_evN (e_callR (bs := []) (scOrder_ev) ok_67 (by kernel_rfl) (by kernel_rfl) rfl VAL_) APP_ rfl ?_
    refine h_evN (e_callR (bs := []) (scLess_ev Y5 scOrder HYP_ HYP_) ok_66 (by kernel_rfl) (by kernel_rfl) rfl VAL_) APP_ rfl ?_
    refine h_nil ?_
    refine s_nil ?_
    refine Q_ ?_
    refine c_condT rfl (hl) ?_
    refine S_ ?_
    refine c_region ?_
    refine s_val (v_loadR rfl rfl row_79 sz_79 EQ_ (by decide)) rfl ?_
    refine s_storeR rfl rfl rfl rfl sz_79 EQ_ EQ_ SET_ ?_
    refine s_nil ?_
    refine S_ ?_
    rw [hP.out]
    exact k_1 (r_row rfl rfl row_79 sz_79 EQ_ (by decide)) (by first | kernel_rfl | rfl)

@[simp] theorem scSh_len (a : List (BitVec 64)) (bit : BitVec 64) (ha : a.length = 4) : (scSh a bit).length = 4 := by
  unfold scSh
  first | (simp (maxDischargeDepth := 9) [scSh_L2_len1, *]; done) | (simp (maxDischargeDepth := 9) [scSh_L2_len1, *]; omega) | (split <;> (simp (maxDischargeDepth := 9) [scSh_L2_len1, *]; done))

attribute [irreducible] scSh
end Go.Proofs.Ytcekjmejppemeaa
/- (curve.scalar).shifted (Drawn up by a program.) -/
namespace Go.Proofs.Ytcekjmejppemeaa
open Go.RowKit
def scSf_L2_S (X1 : BitVec 64) (X2 : List (BitVec 64)) (j2 : Nat) : BitVec 64 × List (BitVec 64) := ((nth X2 j2) >>> 63, put X2 j2 (((nth X2 j2) <<< 1) ||| X1))
def scSf_L2 (a : List (BitVec 64)) (bit : BitVec 64) : Nat → BitVec 64 × List (BitVec 64)
  | 0 => (bit, a)
  | j2 + 1 => scSf_L2_S (scSf_L2 a bit j2).1 (scSf_L2 a bit j2).2 j2
theorem scSf_L2_len1 (a : List (BitVec 64)) (bit : BitVec 64) (ha : a.length = 4) (j2 : Nat) : (scSf_L2 a bit j2).2.length = 4 := by
  induction j2 with
  | zero => first | (simp (maxDischargeDepth := 9) [scSf_L2, *]; done) | (simp (maxDischargeDepth := 9) [scSf_L2, *]; omega)
  | succ j2 ih => rw [scSf_L2.eq_2, scSf_L2_S]; first | (simp (maxDischargeDepth := 9) [ih]; done) | (simp (maxDischargeDepth := 9) [ih]; omega) | (simp (maxDischargeDepth := 9) [*]; done) | (simp (maxDischargeDepth := 9) [*]; omega) | (split <;> first | (simp (maxDischargeDepth := 9) [ih]; done) | (simp (maxDischargeDepth := 9) [ih]; omega) | (simp (maxDischargeDepth := 9) [*]; done))
def scSf_L10_S (X9 : BitVec 64) (X10 : List (BitVec 64)) (j10 : Nat) : BitVec 64 × List (BitVec 64) := (subC (nth X10 j10) (nth scOrder j10) X9, put X10 j10 ((nth X10 j10) - (nth scOrder j10) - X9))
def scSf_L10 (Y5 : List (BitVec 64)) : Nat → BitVec 64 × List (BitVec 64)
  | 0 => (0#64, Y5)
  | j10 + 1 => scSf_L10_S (scSf_L10 Y5 j10).1 (scSf_L10 Y5 j10).2 j10
theorem scSf_L10_len1 (Y5 : List (BitVec 64)) (hY5 : Y5.length = 4) (j10 : Nat) : (scSf_L10 Y5 j10).2.length = 4 := by
  induction j10 with
  | zero => first | (simp (maxDischargeDepth := 9) [scSf_L10, *]; done) | (simp (maxDischargeDepth := 9) [scSf_L10, *]; omega)
  | succ j10 ih => rw [scSf_L10.eq_2, scSf_L10_S]; first | (simp (maxDischargeDepth := 9) [ih]; done) | (simp (maxDischargeDepth := 9) [ih]; omega) | (simp (maxDischargeDepth := 9) [scSf_L2_len1, *]; done) | (simp (maxDischargeDepth := 9) [scSf_L2_len1, *]; omega) | (split <;> first | (simp (maxDischargeDepth := 9) [ih]; done) | (simp (maxDischargeDepth := 9) [ih]; omega) | (simp (maxDischargeDepth := 9) [scSf_L2_len1, *]; done))
def scSf (a : List (BitVec 64)) (bit : BitVec 64) : List (BitVec 64) := ((scSf_L10 ((scSf_L2 a bit 4).2) 4).2)
theorem scSf_c (Y : List (BitVec 64)) (j : Nat) : (scSf_L10 Y j).1.toNat ≤ 1 := by
  induction j with
  | zero => show (0#64).toNat ≤ 1; decide
  | succ j ih => rw [scSf_L10.eq_2, scSf_L10_S]; exact subC_le _ _ _
set_option maxRecDepth 100000 in
set_option maxHeartbeats 2000000 in
theorem scSf_ev (a : List (BitVec 64)) (bit : BitVec 64) (ha : a.length = 4) (hl : (scLess_L3 (scSf_L2 a bit 4).2 scOrder 4 == 1#64) = false) : Ev Try.prog (.call 86 [.agg (.a64 (a)), .c (.val (U64 bit))] []) (.val (.agg (.a64 (scSf a bit))) []) := by
  have hP : Hid (scSf a bit = ((scSf_L10 ((scSf_L2 a bit 4).2) 4).2)) := ⟨rfl⟩
  refine c_call Try.func86 rfl Try.ntmps86 rfl LEN_ ?_
  refine S_ ?_
  refine c_region ?_
  refine s_memN (m_box BX_ LEN_) APP_ rfl ?_
  refine s_memN (m_alloc al_79 LEN_) APP_ rfl ?_
  refine s_nil ?_
  refine S_ ?_
  refine c_region ?_
  refine s_val (v_moveC rfl) rfl ?_
  refine s_nil ?_
  refine S_ ?_
  refine c_loopC [1, 2, 4, 9] (fun (zz : Nat × BitVec 64 × List (BitVec 64)) => ⟨47, keepT [1, 2, 4, 9] [.c (.val (U64 (zz.2.1))), .c (.ptr 0 0), .c (.ptr 1 0), .c (.val (.int .i64 (((zz.1 : Nat) : Int))))], [.row true (.a64 (zz.2.2)), .row true (.a64 (zer64 4))]⟩) (fun j2 => (j2, scSf_L2 a bit j2)) (4) (by kernel_rfl) ?_ ?_
  · intro j2 hj2
    try dsimp only
    have hX2 : (scSf_L2 a bit j2).2.length = 4 := by rw [scSf_L2_len1 a bit ha _]; try omega
    rw [scSf_L2.eq_2, scSf_L2_S]
    generalize scSf_L2 a bit j2 = Z3 at *
    obtain ⟨X1, X2⟩ := Z3
    try dsimp only at *
    refine S_ ?_
    refine c_region ?_
    refine s_val (v_lssN (b := 4) rfl rfl) rfl ?_
    refine s_nil ?_
    refine S_ ?_
    refine c_region ?_
    refine s_val (v_moveC rfl) rfl ?_
    refine s_val (v_assignC rfl) rfl ?_
    refine s_nil ?_
    refine S_ ?_
    refine c_stores2 [0] mixed (by kernel_rfl) ?_
    refine x_val (v_moveC rfl) rfl ?_
    refine x_val (v_moveC rfl) rfl ?_
    refine x_val (v_idxA1 rfl rfl Try.underlying79 sz_29 (by omega)) rfl ?_
    first | refine x_val (v_load64 rfl rfl row_29 LT_) rfl ?_ | refine x_early (by kernel_rfl) (v_load64 rfl rfl row_29 LT_) rfl ?_
    refine x_val (v_shl64n (j := 1) rfl rfl) rfl ?_
    refine x_val (v_moveC rfl) rfl ?_
    refine x_val (v_or64 rfl rfl) rfl ?_
    refine x_val (v_moveC rfl) rfl ?_
    refine x_val (v_idxA1 rfl rfl Try.underlying79 sz_29 (by omega)) rfl ?_
    first | refine x_val (v_load64 rfl rfl row_29 LT_) rfl ?_ | refine x_early (by kernel_rfl) (v_load64 rfl rfl row_29 LT_) rfl ?_
    refine x_val (v_shr64n (j := 63) rfl rfl) rfl ?_
    refine x_val (v_idxA1 rfl rfl Try.underlying79 sz_29 (by omega)) rfl ?_
    refine x_store64 rfl rfl rfl rfl sz_29 LT_ SET_ ?_
    refine x_val (v_assignC rfl) rfl ?_
    refine x_nil ?_
    refine S_ ?_
    refine c_region ?_
    refine s_val (v_addN (b := 1) rfl rfl (by omega)) rfl ?_
    refine s_val (v_moveC rfl) rfl ?_
    refine s_nil ?_
    exact ⟨(j2 + 1, _), by kernel_rfl, rfl⟩
  · try dsimp only
    have hY5 : (scSf_L2 a bit 4).2.length = 4 := by rw [scSf_L2_len1 a bit ha _]; try omega
    generalize scSf_L2 a bit 4 = Z6 at *
    obtain ⟨Y4, Y5⟩ := Z6
    try dsimp only at *
    refine S_ ?_
    refine c_region ?_
    refine s_val (v_lssN (a := 4) (b := 4) rfl rfl) rfl ?_
    refine s_nil ?_
    have hQ7 : (scOrder).length = 4 := LQ_
    refine S_ ?_
    refine c_draw 3 mixed (by kernel_rfl) rfl rfl rfl ?_
    refine h_val (v_loadR rfl rfl row_79 sz_79 EQ_ (by decide)) rfl ?_
    refine h_evN (e_callR (bs := []) (scOrder_ev) ok_67 (by kernel_rfl) (by kernel_rfl) rfl VAL_) APP_ rfl ?_
    refine h_evN (e_callR (bs := []) (scLess_ev Y5 scOrder HYP_ HYP_) ok_66 (by kernel_rfl) (by kernel_rfl) rfl VAL_) APP_ rfl ?_
    refine h_nil ?_
    refine s_nil ?_
    refine Q_ ?_
    refine c_condF rfl (hl) ?_
    refine S_ ?_
    refine c_region ?_
    refine s_val (v_assignC rfl) rfl ?_
    refine s_nil ?_
    have hQ8 : (scOrder).length = 4 := LQ_
    refine S_ ?_
    refine c_region ?_
    refine s_evN (e_callR (bs := []) (scOrder_ev) ok_67 (by kernel_rfl) (by kernel_rfl) rfl VAL_) APP_ rfl ?_
    refine s_val (v_moveC rfl) rfl ?_
    refine s_nil ?_
    refine S_ ?_
    refine c_loopC [2, 4, 6, 29, 30] (fun (zz : Nat × BitVec 64 × List (BitVec 64)) => ⟨47, keepT [2, 4, 6, 29, 30] [.c (.ptr 0 0), .c (.ptr 1 0), .c (.val (U64 (zz.2.1))), .agg (.a64 (scOrder)), .c (.val (.int .i64 (((zz.1 : Nat) : Int))))], [.row true (.a64 (zz.2.2)), .row true (.a64 (zer64 4))]⟩) (fun j10 => (j10, scSf_L10 Y5 j10)) (4) (by kernel_rfl) ?_ ?_
    · intro j10 hj10
      try dsimp only
      have hX10 : (scSf_L10 Y5 j10).2.length = 4 := by rw [scSf_L10_len1 Y5 hY5 _]; try omega
      have hc := scSf_c Y5 j10
      rw [scSf_L10.eq_2, scSf_L10_S]
      generalize scSf_L10 Y5 j10 = Z11 at *
      obtain ⟨X9, X10⟩ := Z11
      try dsimp only at *
      refine S_ ?_
      refine c_region ?_
      refine s_val (v_lssN (b := 4) rfl rfl) rfl ?_
      refine s_nil ?_
      refine S_ ?_
      refine c_region ?_
      refine s_val (v_moveC rfl) rfl ?_
      refine s_val (v_ix64 rfl rfl Try.underlying79 sz_29 row_29 (by omega) LT_) rfl ?_
      refine s_val (v_assignC rfl) rfl ?_
      refine s_val (v_assignC rfl) rfl ?_
      refine s_nil ?_
      refine S_ ?_
      refine c_region ?_
      refine s_val (v_moveC rfl) rfl ?_
      refine s_val (v_moveC rfl) rfl ?_
      refine s_val (v_idxA1 rfl rfl Try.underlying79 sz_29 (by omega)) rfl ?_
      refine s_val (v_load64 rfl rfl row_29 LT_) rfl ?_
      refine s_val (v_moveC rfl) rfl ?_
      refine s_val (v_moveC rfl) rfl ?_
      refine s_evN (e_sub ext_87 rfl rfl rfl (rfl : _ = U64 (X9)) (by repeat (first | decide | assumption | apply addC_le | apply subC_le))) APP_ rfl ?_
      refine s_val (v_moveT rfl) rfl ?_
      refine s_val (v_extract rfl rfl) rfl ?_
      refine s_val (v_extract rfl rfl) rfl ?_
      refine s_val (v_idxA1 rfl rfl Try.underlying79 sz_29 (by omega)) rfl ?_
      refine s_store64 rfl rfl rfl sz_29 LT_ SET_ ?_
      refine s_val (v_assignC rfl) rfl ?_
      refine s_nil ?_
      refine S_ ?_
      refine c_region ?_
      refine s_val (v_addN (b := 1) rfl rfl (by omega)) rfl ?_
      refine s_val (v_moveC rfl) rfl ?_
      refine s_nil ?_
      exact ⟨(j10 + 1, _), by kernel_rfl, rfl⟩
    · try dsimp only
      have hY13 : (scSf_L10 Y5 4).2.length = 4 := by rw [scSf_L10_len1 Y5 hY5 _]; try omega
      have hc := scSf_c Y5 4
      generalize scSf_L10 Y5 4 = Z14 at *
      obtain ⟨Y12, Y13⟩ := Z14
      try dsimp only at *
      refine S_ ?_
      refine c_region ?_
      refine s_val (v_lssN (a := 4) (b := 4) rfl rfl) rfl ?_
      refine s_nil ?_
      refine S_ ?_
      refine c_region ?_
      refine s_val (v_loadR rfl rfl row_79 sz_79 EQ_ (by decide)) rfl ?_
      refine s_storeR rfl rfl rfl rfl sz_79 EQ_ EQ_ SET_ ?_
      refine s_nil ?_
      refine S_ ?_
      rw [hP.out]
      exact k_1 (r_row rfl rfl row_79 sz_79 EQ_ (by decide)) (by first | kernel_rfl | rfl)

@[simp] theorem scSf_len (a : List (BitVec 64)) (bit : BitVec 64) (ha : a.length = 4) : (scSf a bit).length = 4 := by
  unfold scSf
  first | (simp (maxDischargeDepth := 9) [scSf_L2_len1, scSf_L10_len1, *]; done) | (simp (maxDischargeDepth := 9) [scSf_L2_len1, scSf_L10_len1, *]; omega) | (split <;> (simp (maxDischargeDepth := 9) [scSf_L2_len1, scSf_L10_len1, *]; done))

attribute [irreducible] scSf
end Go.Proofs.Ytcekjmejppemeaa
/- (scalar).shifted, told at once. (Drawn up by a program.) -/
namespace Go.Proofs.Ytcekjmejppemeaa
open Go.RowKit
/-- A count down. -/
def decI (E : Int) : Nat → Int
  | 0 => E
  | n + 1 => decI E n - 1
theorem decI_eq (E : Int) (n : Nat) : decI E n = E - n := by
  induction n with
  | zero => exact (Int.sub_zero E).symm
  | succ n ih => rw [decI, ih]; omega
theorem scShf_L2 (a : List (BitVec 64)) (bit : BitVec 64) (j : Nat) : scSf_L2 a bit j = scSh_L2 a bit j := by
  induction j with
  | zero => rfl
  | succ j ih => rw [scSf_L2, scSh_L2, ih]; rfl
/-- Twice a number and a bit: the words, and with L taken off. -/
def scD (a : List (BitVec 64)) (bit : BitVec 64) : List (BitVec 64) := (scSh_L2 a bit 4).2
def scShift (a : List (BitVec 64)) (bit : BitVec 64) : List (BitVec 64) := if (scLess_L3 (scD a bit) scOrder 4 == 1#64) = true then scSh a bit else scSf a bit
@[simp] theorem scShift_len (a : List (BitVec 64)) (bit : BitVec 64) (ha : a.length = 4) : (scShift a bit).length = 4 := by
  unfold scShift
  split
  · exact scSh_len a bit ha
  · exact scSf_len a bit ha
theorem scShift_ev (a : List (BitVec 64)) (bit : BitVec 64) (ha : a.length = 4) : Ev Try.prog (.call 86 [.agg (.a64 (a)), .c (.val (U64 bit))] []) (.val (.agg (.a64 (scShift a bit))) []) := by
  unfold scShift scD
  cases h : (scLess_L3 (scSh_L2 a bit 4).2 scOrder 4 == 1#64) with
  | true => exact scSh_ev a bit ha h
  | false => exact scSf_ev a bit ha (by rw [scShf_L2]; exact h)
attribute [irreducible] scShift
end Go.Proofs.Ytcekjmejppemeaa
/- curve.reduced (Drawn up by a program.) -/
namespace Go.Proofs.Ytcekjmejppemeaa
open Go.RowKit
def scRed_L3_S (b : List (BitVec 8)) (X1 : List (BitVec 64)) (j3 : Nat) : List (BitVec 64) := scShift X1 ((((nth b ((8 * b.length - 1 - j3) / 8)) >>> ((8 * b.length - 1 - j3) % 8)) &&& 1#8).setWidth 64)
def scRed_L3 (b : List (BitVec 8)) : Nat → List (BitVec 64)
  | 0 => zer64 4
  | j3 + 1 => scRed_L3_S b (scRed_L3 b j3) j3
@[simp] theorem scRed_L3_len (b : List (BitVec 8)) (j3 : Nat) : (scRed_L3 b j3).length = 4 := by
  induction j3 with
  | zero => first | (simp [scRed_L3, *]; done) | (simp [scRed_L3, *]; omega)
  | succ j3 ih => rw [scRed_L3.eq_2, scRed_L3_S]; first | (simp [ih]; done) | (simp [ih]; omega) | (simp [*]; done) | (simp [*]; omega) | (split <;> first | (simp [ih]; done) | (simp [ih]; omega) | (simp [*]; done))
def scRed (b : List (BitVec 8)) : List (BitVec 64) := (scRed_L3 b (8 * b.length))
set_option maxRecDepth 100000 in
set_option maxHeartbeats 2000000 in
theorem scRed_ev (b : List (BitVec 8)) (n : Nat) (cap : Nat) (hb : b.length = n) (hn : n ≤ 1099511627776) : Ev Try.prog (.call 63 [.c (.sl 0 0 n cap 1)] [.row false (.a8 (b))]) (.val (.agg (.a64 (scRed b))) [.row false (.a8 (b))]) := by
  have hP : Hid (scRed b = (scRed_L3 b (8 * b.length))) := ⟨rfl⟩
  subst hb
  refine c_call Try.func63 rfl Try.ntmps63 rfl LEN_ ?_
  refine S_ ?_
  refine c_region ?_
  refine s_memN (m_alloc al_79 LEN_) APP_ rfl ?_
  refine s_nil ?_
  refine S_ ?_
  refine c_region ?_
  refine s_memN (m_alloc al_79 LEN_) APP_ rfl ?_
  refine s_nil ?_
  refine S_ ?_
  refine c_region ?_
  refine s_val (v_moveC rfl) rfl ?_
  refine s_val (v_lenS rfl Try.underlying47) rfl ?_
  refine s_val (v_mulN (a := 8) rfl rfl (by omega)) rfl ?_
  first
    | refine s_val (v_subN (b := 1) rfl rfl (by omega) (by omega)) rfl ?_
    | refine s_val (v_subI rfl rfl (by omega)) rfl ?_
  refine s_val (v_assignC rfl) rfl ?_
  refine s_nil ?_
  refine S_ ?_
  refine c_loopC [0, 2, 3, 4] (fun (zz : Nat × List (BitVec 64)) => ⟨26, keepT [0, 2, 3, 4] [.c (.sl 0 0 b.length cap 1), .c (.ptr 1 0), .c (.ptr 2 0), .c (.val (.int .i64 (decI (((8 * b.length : Nat) : Int) - ((1 : Nat) : Int)) zz.1)))], [.row false (.a8 (b)), .row true (.a64 (zer64 4)), .row true (.a64 (zz.2))]⟩) (fun j3 => (j3, scRed_L3 b j3)) (8 * b.length) (by kernel_rfl) ?_ ?_
  · intro j3 hj3
    try dsimp only
    have hX1 : (scRed_L3 b j3).length = 4 := by rw [scRed_L3_len b _]; try omega
    rw [scRed_L3.eq_2, scRed_L3_S]
    generalize scRed_L3 b j3 = X1 at *
    rw [show decI (((8 * b.length : Nat) : Int) - ((1 : Nat) : Int)) j3 = ((8 * b.length - 1 - j3 : Nat) : Int) from by rw [decI_eq]; omega]
    refine S_ ?_
    refine c_region ?_
    refine s_val (v_moveC rfl) rfl ?_
    refine s_val (v_geqN (b := 0) rfl rfl) rfl ?_
    refine s_nil ?_
    have hQ2 : (scShift X1 ((((nth b ((8 * b.length - 1 - j3) / 8)) >>> ((8 * b.length - 1 - j3) % 8)) &&& 1#8).setWidth 64)).length = 4 := LQ_
    refine S_ ?_
    refine c_draw 12 mixed (by kernel_rfl) rfl rfl rfl ?_
    refine h_val (v_loadR rfl rfl row_79 sz_79 EQ_ (by decide)) rfl ?_
    refine h_val (v_moveC rfl) rfl ?_
    refine h_val (v_moveC rfl) rfl ?_
    refine h_val (v_quoN (b := 8) rfl rfl (by omega) (by omega)) rfl ?_
    refine h_val (v_idxS1 rfl rfl Try.underlying47 sz_5 (by omega)) rfl ?_
    refine h_val (v_load8 rfl rfl row_5 LT_) rfl ?_
    refine h_val (v_moveC rfl) rfl ?_
    refine h_val (v_remN (b := 8) rfl rfl (by omega) (by omega)) rfl ?_
    refine h_val (v_shr8n rfl rfl) rfl ?_
    refine h_val (v_and8 (b := 1#8) rfl rfl) rfl ?_
    refine h_val (v_conv rfl Try.underlying5 Try.underlying29 (w8_64 _)) rfl ?_
    refine h_evN (e_callR (bs := []) (scShift_ev X1 ((((nth b ((8 * b.length - 1 - j3) / 8)) >>> ((8 * b.length - 1 - j3) % 8)) &&& 1#8).setWidth 64) HYP_) ok_86 (by kernel_rfl) (by kernel_rfl) rfl VAL_) APP_ rfl ?_
    refine h_nil ?_
    refine s_storeR rfl rfl rfl rfl sz_79 EQ_ EQ_ SET_ ?_
    refine s_nil ?_
    refine S_ ?_
    refine c_region ?_
    refine s_val (v_moveC rfl) rfl ?_
    first
      | refine s_val (v_subN (b := 1) rfl rfl (by omega) (by omega)) rfl ?_
      | refine s_val (v_subI rfl rfl (by omega)) rfl ?_
    refine s_val (v_assignC rfl) rfl ?_
    refine s_nil ?_
    refine ⟨(j3 + 1, _), (by
      dsimp only
      rw [show decI (((8 * b.length : Nat) : Int) - ((1 : Nat) : Int)) (j3 + 1) = ((8 * b.length - 1 - j3 : Nat) : Int) - 1 from by rw [decI_eq]; omega]
      kernel_rfl), rfl⟩
  · try dsimp only
    have hY3 : (scRed_L3 b (8 * b.length)).length = 4 := by rw [scRed_L3_len b _]; try omega
    generalize scRed_L3 b (8 * b.length) = Y3 at *
    rw [show decI (((8 * b.length : Nat) : Int) - ((1 : Nat) : Int)) (8 * b.length) = -1 from by rw [decI_eq]; omega]
    refine S_ ?_
    refine c_region ?_
    refine s_val (v_moveC rfl) rfl ?_
    refine s_val (v_geqI rfl rfl) rfl ?_
    refine s_nil ?_
    refine S_ ?_
    refine c_region ?_
    refine s_val (v_loadR rfl rfl row_79 sz_79 EQ_ (by decide)) rfl ?_
    refine s_storeR rfl rfl rfl rfl sz_79 EQ_ EQ_ SET_ ?_
    refine s_nil ?_
    refine S_ ?_
    rw [hP.out]
    exact k_1 (r_row rfl rfl row_79 sz_79 EQ_ (by decide)) (by first | kernel_rfl | rfl)

@[simp] theorem scRed_len (b : List (BitVec 8)) : (scRed b).length = 4 := by
  unfold scRed
  first | (simp [scRed_L3_len, *]; done) | (simp [scRed_L3_len, *]; omega)

attribute [irreducible] scRed
end Go.Proofs.Ytcekjmejppemeaa
/- curve.MulAdd, curve.Below, curve.Mod, curve.Mod (Drawn up by a program.) -/
namespace Go.Proofs.Ytcekjmejppemeaa
open Go.RowKit
def scMulAdd (a : List (BitVec 8)) (b : List (BitVec 8)) (c : List (BitVec 8)) : List (BitVec 8) := scBytes (scRed (scProd (scOf a) (scOf b) (scOf c)))
set_option maxRecDepth 100000 in
set_option maxHeartbeats 2000000 in
theorem scMulAdd_ev (a : List (BitVec 8)) (b : List (BitVec 8)) (c : List (BitVec 8)) (ha : a.length = 32) (hb : b.length = 32) (hc : c.length = 32) : Ev Try.prog (.call 32 [.agg (.a8 (a)), .agg (.a8 (b)), .agg (.a8 (c))] []) (.val (.agg (.a8 (scMulAdd a b c))) []) := by
  have hP : Hid (scMulAdd a b c = scBytes (scRed (scProd (scOf a) (scOf b) (scOf c)))) := ⟨rfl⟩
  refine c_call Try.func32 rfl Try.ntmps32 rfl LEN_ ?_
  refine S_ ?_
  refine c_region ?_
  refine s_memN (m_box BX_ LEN_) APP_ rfl ?_
  refine s_memN (m_box BX_ LEN_) APP_ rfl ?_
  refine s_memN (m_box BX_ LEN_) APP_ rfl ?_
  refine s_memN (m_alloc al_22 LEN_) APP_ rfl ?_
  refine s_nil ?_
  have hQ1 : (scOf a).length = 4 := LQ_
  have hQ2 : (scOf b).length = 4 := LQ_
  have hQ3 : (scOf c).length = 4 := LQ_
  have hQ4 : (scProd (scOf a) (scOf b) (scOf c)).length = 72 := LQ_
  have hQ5 : (scRed (scProd (scOf a) (scOf b) (scOf c))).length = 4 := LQ_
  have hQ6 : (scBytes (scRed (scProd (scOf a) (scOf b) (scOf c)))).length = 32 := LQ_
  refine S_ ?_
  refine c_draw 9 mixed (by kernel_rfl) rfl rfl rfl ?_
  refine h_val (v_loadR rfl rfl row_22 sz_22 EQ_ (by decide)) rfl ?_
  refine h_evN (e_callR (bs := []) (scOf_ev a HYP_) ok_65 (by kernel_rfl) (by kernel_rfl) rfl VAL_) APP_ rfl ?_
  refine h_val (v_loadR rfl rfl row_22 sz_22 EQ_ (by decide)) rfl ?_
  refine h_evN (e_callR (bs := []) (scOf_ev b HYP_) ok_65 (by kernel_rfl) (by kernel_rfl) rfl VAL_) APP_ rfl ?_
  refine h_val (v_loadR rfl rfl row_22 sz_22 EQ_ (by decide)) rfl ?_
  refine h_evN (e_callR (bs := []) (scOf_ev c HYP_) ok_65 (by kernel_rfl) (by kernel_rfl) rfl VAL_) APP_ rfl ?_
  refine h_evN (e_callR (bs := []) (scProd_ev (scOf a) (scOf b) (scOf c) HYP_ HYP_ HYP_) ok_68 (by kernel_rfl) (by kernel_rfl) rfl VAL_) APP_ rfl ?_
  refine h_evN (e_callR (bs := [4]) (scRed_ev (scProd (scOf a) (scOf b) (scOf c)) 72 72 HYP_ HYP_) ok_63 (by kernel_rfl) (by kernel_rfl) rfl VAL_) APP_ rfl ?_
  refine h_evN (e_callR (bs := []) (scBytes_ev (scRed (scProd (scOf a) (scOf b) (scOf c))) HYP_) ok_64 (by kernel_rfl) (by kernel_rfl) rfl VAL_) APP_ rfl ?_
  refine h_nil ?_
  refine s_storeR rfl rfl rfl rfl sz_22 EQ_ EQ_ SET_ ?_
  refine s_nil ?_
  refine S_ ?_
  rw [hP.out]
  exact k_1 (r_row rfl rfl row_22 sz_22 EQ_ (by decide)) (by first | kernel_rfl | rfl)

@[simp] theorem scMulAdd_len (a : List (BitVec 8)) (b : List (BitVec 8)) (c : List (BitVec 8)) (_ha : a.length = 32) (_hb : b.length = 32) (_hc : c.length = 32) : (scMulAdd a b c).length = 32 := by
  unfold scMulAdd
  first | (simp (maxDischargeDepth := 9) [*]; done) | (simp (maxDischargeDepth := 9) [*]; omega) | (split <;> (simp (maxDischargeDepth := 9) [*]; done))

attribute [irreducible] scMulAdd


set_option maxRecDepth 100000 in
set_option maxHeartbeats 2000000 in
theorem scBelow_ev (n : List (BitVec 8)) (hn : n.length = 32) : Ev Try.prog (.call 31 [.agg (.a8 (n))] []) (.val (.c (.val (.bool ((scLess_L3 (scOf n) scOrder 4) == 1#64)))) []) := by
  refine c_call Try.func31 rfl Try.ntmps31 rfl LEN_ ?_
  refine S_ ?_
  refine c_region ?_
  refine s_memN (m_box BX_ LEN_) APP_ rfl ?_
  refine s_val (v_assignC rfl) rfl ?_
  refine s_nil ?_
  have hQ1 : (scOf n).length = 4 := LQ_
  have hQ2 : (scOrder).length = 4 := LQ_
  refine S_ ?_
  refine c_region ?_
  refine s_val (v_loadR rfl rfl row_22 sz_22 EQ_ (by decide)) rfl ?_
  refine s_evN (e_callR (bs := []) (scOf_ev n HYP_) ok_65 (by kernel_rfl) (by kernel_rfl) rfl VAL_) APP_ rfl ?_
  refine s_evN (e_callR (bs := []) (scOrder_ev) ok_67 (by kernel_rfl) (by kernel_rfl) rfl VAL_) APP_ rfl ?_
  refine s_evN (e_callR (bs := []) (scLess_ev (scOf n) scOrder HYP_ HYP_) ok_66 (by kernel_rfl) (by kernel_rfl) rfl VAL_) APP_ rfl ?_
  refine s_val (v_assignC rfl) rfl ?_
  refine s_nil ?_
  refine S_ ?_
  exact k_1 (by first | exact r_tmpC rfl | exact r_tmpA rfl) (by first | kernel_rfl | rfl)

def scModT0 (b : List (BitVec 8)) : List (BitVec 8) := scBytes (scRed b)
set_option maxRecDepth 100000 in
set_option maxHeartbeats 2000000 in
theorem scModT_ev (b : List (BitVec 8)) (n : Nat) (cap : Nat) (hb : b.length = n) (hn : n ≤ 1099511627776) (hN : n ≤ 64) : Ev Try.prog (.call 30 [.c (.sl 0 0 n cap 1)] [.row false (.a8 (b))]) (.val (.tup [.agg (.a8 (scModT0 b)), .c (.val (.int .i64 ((0 : Nat) : Int)))]) [.row false (.a8 (b))]) := by
  have hP_scModT0 : Hid (scModT0 b = scBytes (scRed b)) := ⟨rfl⟩
  subst hb
  refine c_call Try.func30 rfl Try.ntmps30 rfl LEN_ ?_
  refine S_ ?_
  refine c_region ?_
  refine s_memN (m_alloc al_22 LEN_) APP_ rfl ?_
  refine s_val (v_assignC rfl) rfl ?_
  refine s_nil ?_
  refine S_ ?_
  refine c_region ?_
  refine s_val (v_moveC rfl) rfl ?_
  refine s_val (v_lenS rfl Try.underlying47) rfl ?_
  refine s_val (v_gtrN (b := 64) rfl rfl) rfl ?_
  refine s_nil ?_
  have hQ1 : (scRed b).length = 4 := LQ_
  have hQ2 : (scBytes (scRed b)).length = 32 := LQ_
  refine S_ ?_
  refine c_region ?_
  refine s_val (v_moveC rfl) rfl ?_
  refine s_evN (e_callR (bs := [0]) (scRed_ev b b.length cap HYP_ HYP_) ok_63 (by kernel_rfl) (by kernel_rfl) rfl VAL_) APP_ rfl ?_
  refine s_evN (e_callR (bs := []) (scBytes_ev (scRed b) HYP_) ok_64 (by kernel_rfl) (by kernel_rfl) rfl VAL_) APP_ rfl ?_
  refine s_storeR rfl rfl rfl rfl sz_22 EQ_ EQ_ SET_ ?_
  refine s_val (v_assignC rfl) rfl ?_
  refine s_nil ?_
  refine S_ ?_
  rw [hP_scModT0.out]
  exact k_2 (r_row rfl rfl row_22 sz_22 EQ_ (by decide)) (by first | exact r_tmpC rfl | exact r_tmpA rfl) (by first | kernel_rfl | rfl)

@[simp] theorem scModT0_len (b : List (BitVec 8)) : (scModT0 b).length = 32 := by
  unfold scModT0
  first | (simp [*]; done) | (simp [*]; omega)

attribute [irreducible] scModT0

def scModF0  : List (BitVec 8) := zer8 32
set_option maxRecDepth 100000 in
set_option maxHeartbeats 2000000 in
theorem scModF_ev (b : List (BitVec 8)) (n : Nat) (cap : Nat) (hb : b.length = n) (hn : n ≤ 1099511627776) (hN : 64 < n) : Ev Try.prog (.call 30 [.c (.sl 0 0 n cap 1)] [.row false (.a8 (b))]) (.val (.tup [.agg (.a8 (scModF0)), .c (.val (.int .i64 ((2 : Nat) : Int)))]) [.row false (.a8 (b))]) := by
  have hP_scModF0 : Hid (scModF0 = zer8 32) := ⟨rfl⟩
  subst hb
  refine c_call Try.func30 rfl Try.ntmps30 rfl LEN_ ?_
  refine S_ ?_
  refine c_region ?_
  refine s_memN (m_alloc al_22 LEN_) APP_ rfl ?_
  refine s_val (v_assignC rfl) rfl ?_
  refine s_nil ?_
  refine S_ ?_
  refine c_region ?_
  refine s_val (v_moveC rfl) rfl ?_
  refine s_val (v_lenS rfl Try.underlying47) rfl ?_
  refine s_val (v_gtrN (b := 64) rfl rfl) rfl ?_
  refine s_nil ?_
  refine S_ ?_
  refine c_region ?_
  refine s_val (v_blf8 (l := (zer8 32)) za_22 Try.underlying22 sz_5 rfl rfl) rfl ?_
  refine s_storeR rfl rfl rfl rfl sz_22 EQ_ EQ_ SET_ ?_
  refine s_val (v_assignC rfl) rfl ?_
  refine s_nil ?_
  refine S_ ?_
  rw [hP_scModF0.out]
  exact k_2 (r_row rfl rfl row_22 sz_22 EQ_ (by decide)) (by first | exact r_tmpC rfl | exact r_tmpA rfl) (by first | kernel_rfl | rfl)

@[simp] theorem scModF0_len  : (scModF0).length = 32 := by
  unfold scModF0
  first | (simp [*]; done) | (simp [*]; omega)

attribute [irreducible] scModF0
end Go.Proofs.Ytcekjmejppemeaa
/- Numbers modulo L. No program in sight. -/
namespace Go.Proofs.Ytcekjmejppemeaa
open Go.RowKit
theorem scOf_val (b : List (BitVec 8)) : wV (scOf b) = leS b 32 := by
  have run := words_run b (scOf_L3 b) rfl (fun j => by rw [scOf_L3, scOf_L3_S]) 32 (Nat.le_refl _)
  have v : ∀ t, t < 4 → (nth (scOf_L3 b 32) t).toNat = wvb b t 8 := fun t ht => by
    have := run.2 t ht
    rwa [show min 8 (32 - 8 * t) = 8 by omega] at this
  unfold scOf wV
  rw [v 0 (by decide), v 1 (by decide), v 2 (by decide), v 3 (by decide), leS_wvb]
theorem scBytes_val (a : List (BitVec 64)) : scBytes a = toB (wV a) := by
  unfold scBytes
  exact bytes_run a (scBytes_L3 a) rfl fun j => by rw [scBytes_L3, scBytes_L3_S]
theorem order_list : scOrder = [6346243789798364141#64, 1503914060200516822#64, 0#64, 1152921504606846976#64] := by unfold scOrder; rfl
theorem order_val : wV scOrder = L25519 := by rw [order_list]; decide +kernel
theorem order_len : scOrder.length = 4 := by rw [order_list]; rfl
theorem less_run (a b : List (BitVec 64)) (j : Nat) : scLess_L3 a b j = (rfsub_L4 a b j).1 := by
  induction j with
  | zero => rfl
  | succ j ih => rw [scLess_L3, scLess_L3_S, rfsub_L4, rfsub_L4_S, ih]
theorem less_val {a b : List (BitVec 64)} (ha : a.length = 4) (hb : b.length = 4) : (scLess_L3 a b 4 == 1#64) = decide (wV a < wV b) := by
  obtain ⟨e, hc⟩ := rfsub_val ha hb
  have h1 : scLess_L3 a b 4 = rfsub1 a b := by rw [less_run]; unfold rfsub1; rfl
  have l1 := wV_lt (rfsub0 a b)
  have l2 := wV_lt a
  rw [h1]
  by_cases h : wV a < wV b
  · rw [decide_eq_true h, beq_iff_eq]
    apply BitVec.eq_of_toNat_eq
    show _ = 1
    omega
  · rw [decide_eq_false h, beq_eq_false_iff_ne]
    intro h2
    have : (rfsub1 a b).toNat = 1 := by rw [h2]; rfl
    omega
theorem sub_run {y : List (BitVec 64)} (hy : y.length = 4) : (scSf_L10 y 4).2 = rfsub0 y scOrder := by
  obtain ⟨y0, y1, y2, y3, rfl⟩ := four hy
  unfold rfsub0
  rfl
theorem dbl_word (x c : BitVec 64) (hc : c.toNat < 2) : ((x <<< 1) ||| c).toNat = (2 * x.toNat) % 18446744073709551616 + c.toNat := by
  rw [BitVec.or_comm, or_low 1 (by omega)]
  omega
theorem shr63 (x : BitVec 64) : (x >>> 63).toNat = x.toNat / 9223372036854775808 := by
  rw [BitVec.toNat_ushiftRight, Nat.shiftRight_eq_div_pow]
theorem dbl_val {a : List (BitVec 64)} (ha : a.length = 4) (bit : BitVec 64) (hb : bit.toNat < 2) (hl : wV a < L25519) : (scD a bit).length = 4 ∧ wV (scD a bit) = 2 * wV a + bit.toNat := by
  obtain ⟨a0, a1, a2, a3, rfl⟩ := four ha
  have e : scD [a0, a1, a2, a3] bit = [(a0 <<< 1) ||| bit, (a1 <<< 1) ||| (a0 >>> 63), (a2 <<< 1) ||| (a1 >>> 63), (a3 <<< 1) ||| (a2 >>> 63)] := by unfold scD; rfl
  rw [e]
  refine ⟨rfl, ?_⟩
  have i0 := a0.isLt
  have i1 := a1.isLt
  have i2 := a2.isLt
  have i3 := a3.isLt
  have s0 := dbl_word a0 bit hb
  have s1 := dbl_word a1 (a0 >>> 63) (by rw [shr63]; omega)
  have s2 := dbl_word a2 (a1 >>> 63) (by rw [shr63]; omega)
  have s3 := dbl_word a3 (a2 >>> 63) (by rw [shr63]; omega)
  rw [shr63] at s1 s2 s3
  change a0.toNat + a1.toNat * 18446744073709551616 + a2.toNat * 340282366920938463463374607431768211456 + a3.toNat * 6277101735386680763835789423207666416102355444464034512896 < 7237005577332262213973186563042994240857116359379907606001950938285454250989 at hl
  show ((a0 <<< 1) ||| bit).toNat + ((a1 <<< 1) ||| (a0 >>> 63)).toNat * 18446744073709551616 + ((a2 <<< 1) ||| (a1 >>> 63)).toNat * 340282366920938463463374607431768211456 + ((a3 <<< 1) ||| (a2 >>> 63)).toNat * 6277101735386680763835789423207666416102355444464034512896 = 2 * (a0.toNat + a1.toNat * 18446744073709551616 + a2.toNat * 340282366920938463463374607431768211456 + a3.toNat * 6277101735386680763835789423207666416102355444464034512896) + bit.toNat
  rw [s0, s1, s2, s3]
  omega
theorem shift_val {a : List (BitVec 64)} (ha : a.length = 4) (bit : BitVec 64) (hb : bit.toNat < 2) (hl : wV a < L25519) : (scShift a bit).length = 4 ∧ wV (scShift a bit) = (2 * wV a + bit.toNat) % L25519 := by
  obtain ⟨dl, dv⟩ := dbl_val ha bit hb hl
  refine ⟨scShift_len a bit ha, ?_⟩
  unfold scShift
  rw [less_val dl order_len, order_val, dv]
  by_cases h : 2 * wV a + bit.toNat < L25519
  · rw [if_pos (decide_eq_true h), Nat.mod_eq_of_lt h]
    unfold scSh
    exact dv
  · rw [if_neg (by rw [decide_eq_false h]; decide)]
    have e : scSf a bit = rfsub0 (scD a bit) scOrder := by
      unfold scSf
      rw [scShf_L2, show (scSh_L2 a bit 4).2 = scD a bit by unfold scD; rfl, sub_run dl]
    rw [e]
    obtain ⟨e2, hc⟩ := rfsub_val (a := scD a bit) (b := scOrder) dl order_len
    rw [order_val, dv] at e2
    have l1 := wV_lt (rfsub0 (scD a bit) scOrder)
    change ¬ _ < 7237005577332262213973186563042994240857116359379907606001950938285454250989 at h
    change _ < 7237005577332262213973186563042994240857116359379907606001950938285454250989 at hl
    change _ + 7237005577332262213973186563042994240857116359379907606001950938285454250989 = _ at e2
    have hc0 : (rfsub1 (scD a bit) scOrder).toNat = 0 := by omega
    rw [hc0] at e2
    have hm : (2 * wV a + bit.toNat) % L25519 = 2 * wV a + bit.toNat - L25519 := by
      rw [Nat.mod_eq_sub_mod (by show 7237005577332262213973186563042994240857116359379907606001950938285454250989 ≤ _; omega), Nat.mod_eq_of_lt]
      show _ - 7237005577332262213973186563042994240857116359379907606001950938285454250989 < 7237005577332262213973186563042994240857116359379907606001950938285454250989
      omega
    rw [hm]
    show _ = _ - 7237005577332262213973186563042994240857116359379907606001950938285454250989
    omega
theorem bit_at (e : List (BitVec 8)) (n i : Nat) (hi : i < 8 * n) : ((((nth e (i / 8)) >>> (i % 8)) &&& 1#8).setWidth 64).toNat = leS e n / 2 ^ i % 2 := by
  have e1 : (((nth e (i / 8)) >>> (i % 8)) &&& 1#8).toNat = ((nth e (i / 8)) >>> (i % 8)).toNat % 2 := by
    rw [BitVec.toNat_and]
    exact Nat.and_two_pow_sub_one_eq_mod _ 1
  rw [BitVec.toNat_setWidth, e1]
  have h1 := leS_digit e n (i / 8) (by omega)
  rw [BitVec.toNat_ushiftRight, Nat.shiftRight_eq_div_pow, ← h1]
  have h2 : (2 : Nat) ^ i = 256 ^ (i / 8) * 2 ^ (i % 8) := by
    rw [show (256 : Nat) = 2 ^ 8 from rfl, ← Nat.pow_mul, ← Nat.pow_add, Nat.div_add_mod]
  rw [h2, ← Nat.div_div_eq_div_mul]
  generalize leS e n / 256 ^ (i / 8) = x
  rcases (by omega : i % 8 = 0 ∨ i % 8 = 1 ∨ i % 8 = 2 ∨ i % 8 = 3 ∨ i % 8 = 4 ∨ i % 8 = 5 ∨ i % 8 = 6 ∨ i % 8 = 7) with h | h | h | h | h | h | h | h <;> rw [h] <;> simp only [Nat.reducePow] <;> omega
theorem L_pos : 0 < L25519 := by unfold L25519; decide
theorem step_mod (x b : Nat) : (2 * (x % L25519) + b) % L25519 = (2 * x + b) % L25519 := by
  unfold L25519
  omega
theorem red_run (b : List (BitVec 8)) : ∀ j, j ≤ 8 * b.length → (scRed_L3 b j).length = 4 ∧ wV (scRed_L3 b j) = leS b b.length / 2 ^ (8 * b.length - j) % L25519 := by
  intro j
  induction j with
  | zero =>
    intro _
    rw [scRed_L3]
    refine ⟨rfl, ?_⟩
    have h := leS_lt b b.length
    rw [Nat.sub_zero, show (2 : Nat) ^ (8 * b.length) = 256 ^ b.length by rw [Nat.pow_mul], Nat.div_eq_of_lt h]
    rfl
  | succ j ih =>
    intro hj
    obtain ⟨h1, h2⟩ := ih (by omega)
    rw [scRed_L3, scRed_L3_S]
    have hbit := bit_at b b.length (8 * b.length - 1 - j) (by omega)
    obtain ⟨g1, g2⟩ := shift_val h1 ((((nth b ((8 * b.length - 1 - j) / 8)) >>> ((8 * b.length - 1 - j) % 8)) &&& 1#8).setWidth 64) (by rw [hbit]; exact Nat.mod_lt _ (by decide)) (by rw [h2]; exact Nat.mod_lt _ L_pos)
    refine ⟨g1, ?_⟩
    rw [g2, hbit, h2, step_mod]
    congr 1
    rw [show 8 * b.length - j = (8 * b.length - 1 - j) + 1 by omega, show 8 * b.length - (j + 1) = 8 * b.length - 1 - j by omega, Nat.pow_succ, ← Nat.div_div_eq_div_mul]
    omega
theorem red_val (b : List (BitVec 8)) : wV (scRed b) = leS b b.length % L25519 := by
  obtain ⟨_, h⟩ := red_run b (8 * b.length) (Nat.le_refl _)
  unfold scRed
  rw [h, Nat.sub_self, Nat.pow_zero, Nat.div_one]
theorem prod_word (x y o c : BitVec 64) : ((mul640 x y + addC o (mul641 x y) 0#64) + addC (o + mul641 x y + 0#64) c 0#64).toNat * 18446744073709551616 + ((o + mul641 x y + 0#64) + c + 0#64).toNat = x.toNat * y.toNat + o.toNat + c.toNat := by
  have h := times_word x y o c
  rw [BitVec.add_comm o (mul641 x y), show addC o (mul641 x y) 0#64 = addC (mul641 x y) o 0#64 by unfold addC; rw [Nat.add_comm o.toNat]]
  exact h
theorem prod_inner {a b T : List (BitVec 64)} (i : Nat) (hi : i < 4) (hT : T.length = 9) : ∀ k, k ≤ 4 →
    (scProd_L7 a b T i k).2.length = 9 ∧ v64 (scProd_L7 a b T i k).2 9 + (scProd_L7 a b T i k).1.toNat * 18446744073709551616 ^ (i + k) = v64 T 9 + (nth a i).toNat * v64 b k * 18446744073709551616 ^ i ∧ ∀ t, i + 4 ≤ t → nth (scProd_L7 a b T i k).2 t = nth T t := by
  intro k
  induction k with
  | zero => intro _; exact ⟨hT, by show v64 T 9 + 0 * _ = v64 T 9 + _ * 0 * _; rw [Nat.zero_mul, Nat.mul_zero, Nat.zero_mul], fun t _ => rfl⟩
  | succ k ih =>
    intro hk
    obtain ⟨h1, h2, h3⟩ := ih (by omega)
    rw [scProd_L7, scProd_L7_S]
    generalize scProd_L7 a b T i k = Y at *
    obtain ⟨c, t⟩ := Y
    dsimp only at h1 h2 h3 ⊢
    rw [put_again, nth_put _ _ _ _ (by omega), if_pos rfl]
    have hw := prod_word (nth a i) (nth b k) (nth t (i + k)) c
    generalize nth t (i + k) + mul641 (nth a i) (nth b k) + 0#64 + c + 0#64 = v at *
    generalize mul640 (nth a i) (nth b k) + addC (nth t (i + k)) (mul641 (nth a i) (nth b k)) 0#64 + addC (nth t (i + k) + mul641 (nth a i) (nth b k) + 0#64) c 0#64 = c' at *
    have hp := v64_put t (i + k) v (by omega) 9
    rw [if_pos (by omega), if_pos (by omega)] at hp
    refine ⟨by rw [put_length, h1], ?_, fun s hs => ?_⟩
    · have := ring1 _ _ _ _ _ _ _ _ _ _ hp hw h2
      have e : (nth a i).toNat * v64 b (k + 1) * 18446744073709551616 ^ i = (nth a i).toNat * v64 b k * 18446744073709551616 ^ i + (nth a i).toNat * (nth b k).toNat * 18446744073709551616 ^ (i + k) := by
        rw [show v64 b (k + 1) = v64 b k + (nth b k).toNat * 18446744073709551616 ^ k from rfl, Nat.pow_add]
        generalize 18446744073709551616 ^ i = p
        generalize 18446744073709551616 ^ k = q
        grind
      rw [← Nat.add_assoc i k 1, Nat.pow_succ, this, e, Nat.add_assoc]
    · rw [nth_put _ _ _ _ (by omega), if_neg (by omega)]; exact h3 s hs
theorem prod_outer {a b : List (BitVec 64)} : ∀ i, i ≤ 4 → (scProd_L3 a b i).length = 9 ∧ v64 (scProd_L3 a b i) 9 = v64 a i * v64 b 4 ∧ ∀ t, i + 4 ≤ t → nth (scProd_L3 a b i) t = 0#64 := by
  intro i
  induction i with
  | zero =>
    intro _
    refine ⟨rfl, ?_, fun t _ => ?_⟩
    · show v64 (zer64 9) 9 = 0 * _
      rw [Nat.zero_mul]; decide
    · show nth (zer64 9) t = 0#64
      unfold nth zer64
      rw [List.getD_eq_getElem?_getD, List.getElem?_replicate]
      split <;> rfl
  | succ i ih =>
    intro hi
    obtain ⟨h1, h2, h3⟩ := ih (by omega)
    obtain ⟨g1, g2, g3⟩ := prod_inner (a := a) (b := b) (T := scProd_L3 a b i) i (by omega) h1 4 (Nat.le_refl _)
    rw [scProd_L3, scProd_L3_S]
    generalize scProd_L7 a b (scProd_L3 a b i) i 4 = Y at *
    obtain ⟨c, t⟩ := Y
    dsimp only at g1 g2 g3 ⊢
    have hp := v64_put t (i + 4) c (by omega) 9
    rw [if_pos (by omega), if_pos (by omega), g3 (i + 4) (by omega), h3 (i + 4) (by omega), show (0#64 : BitVec 64).toNat = 0 from rfl, Nat.zero_mul, Nat.add_zero, g2, h2] at hp
    refine ⟨by rw [put_length, g1], ?_, fun s hs => ?_⟩
    · rw [hp, show v64 a (i + 1) = v64 a i + (nth a i).toNat * 18446744073709551616 ^ i from rfl, Nat.add_mul]
      congr 1
      generalize 18446744073709551616 ^ i = p
      grind
    · rw [nth_put _ _ _ _ (by omega), if_neg (by omega), g3 s (by omega), h3 s (by omega)]
/-- The words that are added: c's four, then 0. -/
def cAt (c : List (BitVec 64)) (j : Nat) : BitVec 64 := if j < 4 then nth c j else 0#64
def cSum (c : List (BitVec 64)) : Nat → Nat
  | 0 => 0
  | n + 1 => cSum c n + (cAt c n).toNat * 18446744073709551616 ^ n
theorem cSum_val (c : List (BitVec 64)) : cSum c 9 = wV c := by
  simp only [cSum, cAt, wV, Nat.pow_zero, Nat.reducePow, show (0#64 : BitVec 64).toNat = 0 from rfl, Nat.reduceLT, if_true, if_false]
  omega
theorem add_ring (V W T v Q M c' x c S : Nat) (h1 : V + T * Q = W + v * Q) (h2 : v + c' * M = T + x + c) (h3 : W + 0 = S + 0 → True) (hS : W = S) : V + c' * (Q * M) = S + x * Q + c * Q := by
  subst hS
  clear h3
  grind
theorem prod_add {c Y : List (BitVec 64)} (hY : Y.length = 9) : ∀ j, j ≤ 9 → (scProd_L19 c Y j).2.length = 9 ∧ v64 (scProd_L19 c Y j).2 9 + (scProd_L19 c Y j).1.toNat * 18446744073709551616 ^ j = v64 Y 9 + cSum c j ∧ ∀ t, j ≤ t → nth (scProd_L19 c Y j).2 t = nth Y t := by
  intro j
  induction j with
  | zero => intro _; exact ⟨hY, by show v64 Y 9 + 0 * _ = v64 Y 9 + 0; rw [Nat.zero_mul], fun t _ => rfl⟩
  | succ j ih =>
    intro hj
    obtain ⟨h1, h2, h3⟩ := ih (by omega)
    have hc := scProd_c c Y j
    rw [scProd_L19, scProd_L19_S]
    generalize scProd_L19 c Y j = X at *
    obtain ⟨k, t⟩ := X
    dsimp only at h1 h2 h3 hc ⊢
    rw [show (if j < 4 then nth c j else 0#64) = cAt c j from rfl]
    have hv : (nth t j + cAt c j + k).toNat + (addC (nth t j) (cAt c j) k).toNat * 18446744073709551616 = (nth t j).toNat + (cAt c j).toNat + k.toNat := by
      rw [addC_nat3 hc, add3]
      omega
    generalize nth t j + cAt c j + k = v at *
    generalize addC (nth t j) (cAt c j) k = k' at *
    have hp := v64_put t j v (by omega) 9
    rw [if_pos (by omega), if_pos (by omega)] at hp
    refine ⟨by rw [put_length, h1], ?_, fun s hs => ?_⟩
    · rw [cSum, Nat.pow_succ]
      generalize 18446744073709551616 ^ j = Q at *
      generalize 18446744073709551616 = M at *
      generalize v64 (put t j v) 9 = V at *
      generalize v64 t 9 = W at *
      generalize v64 Y 9 = S at *
      clear h1 h3
      have e1 : k'.toNat * (Q * M) = (k'.toNat * M) * Q := by rw [Nat.mul_comm Q M, Nat.mul_assoc]
      have e2 : (k'.toNat * M) * Q + v.toNat * Q = (nth t j).toNat * Q + (cAt c j).toNat * Q + k.toNat * Q := by rw [← Nat.add_mul, ← Nat.add_mul, ← Nat.add_mul, ← hv, Nat.add_comm]
      rw [e1]
      omega
    · rw [nth_put _ _ _ _ (by omega), if_neg (by omega)]; exact h3 s (by omega)
theorem v64_lt (a : List (BitVec 64)) (n : Nat) : v64 a n < 18446744073709551616 ^ n := by
  induction n with
  | zero => exact Nat.one_pos
  | succ n ih =>
    rw [v64, Nat.pow_succ]
    have h := (nth a n).isLt
    have : (nth a n).toNat * 18446744073709551616 ^ n ≤ 18446744073709551615 * 18446744073709551616 ^ n := Nat.mul_le_mul_right _ (by omega)
    omega
theorem v64_digit (a : List (BitVec 64)) (n i : Nat) (h : i < n) : v64 a n / 18446744073709551616 ^ i % 18446744073709551616 = (nth a i).toNat := by
  induction n with
  | zero => omega
  | succ n ih =>
    rw [v64]
    have hp : 0 < 18446744073709551616 ^ i := Nat.pow_pos (by decide)
    by_cases e : i = n
    · subst e
      rw [Nat.add_mul_div_right _ _ hp, Nat.div_eq_of_lt (v64_lt a i), Nat.zero_add, Nat.mod_eq_of_lt (nth a i).isLt]
    · obtain ⟨k, hk⟩ : ∃ k, n = i + (k + 1) := ⟨n - i - 1, by omega⟩
      rw [← ih (by omega), hk, Nat.pow_add, Nat.pow_succ, show (nth a (i + (k + 1))).toNat * (18446744073709551616 ^ i * (18446744073709551616 ^ k * 18446744073709551616)) = ((nth a (i + (k + 1))).toNat * 18446744073709551616 ^ k * 18446744073709551616) * 18446744073709551616 ^ i from by grobner, Nat.add_mul_div_right _ _ hp, Nat.add_mul_mod_self_right]
theorem byte_of (a : List (BitVec 64)) (n i : Nat) (hi : i < 8 * n) : (((nth a (i / 8)) >>> (8 * (i % 8))).setWidth 8).toNat = v64 a n / 256 ^ i % 256 := by
  rw [BitVec.toNat_setWidth, BitVec.toNat_ushiftRight, Nat.shiftRight_eq_div_pow, ← v64_digit a n (i / 8) (by omega)]
  have h2 : (256 : Nat) ^ i = 18446744073709551616 ^ (i / 8) * 2 ^ (8 * (i % 8)) := by
    rw [show (18446744073709551616 : Nat) = 256 ^ 8 from rfl, ← Nat.pow_mul, show (2 : Nat) ^ (8 * (i % 8)) = 256 ^ (i % 8) by rw [Nat.pow_mul], ← Nat.pow_add, Nat.div_add_mod]
  rw [h2, ← Nat.div_div_eq_div_mul]
  generalize v64 a n / 18446744073709551616 ^ (i / 8) = x
  rcases (by omega : i % 8 = 0 ∨ i % 8 = 1 ∨ i % 8 = 2 ∨ i % 8 = 3 ∨ i % 8 = 4 ∨ i % 8 = 5 ∨ i % 8 = 6 ∨ i % 8 = 7) with h | h | h | h | h | h | h | h <;> rw [h] <;> simp only [Nat.reducePow, Nat.reduceMul] <;> omega
theorem leS_append (l : List (BitVec 8)) (x : BitVec 8) (n : Nat) (h : n ≤ l.length) : leS (l ++ [x]) n = leS l n := by
  induction n with
  | zero => rfl
  | succ n ih =>
    rw [leS, leS, ih (by omega)]
    unfold nth
    rw [List.getD_eq_getElem?_getD, List.getD_eq_getElem?_getD, List.getElem?_append_left (by omega)]
theorem nth_last (l : List (BitVec 8)) (x : BitVec 8) : nth (l ++ [x]) l.length = x := by
  unfold nth
  rw [List.getD_eq_getElem?_getD, List.getElem?_append_right (Nat.le_refl _), Nat.sub_self]
  rfl
theorem text_run {Y : List (BitVec 64)} (hY : Y.length = 9) : ∀ j, j ≤ 72 → leS (scProd_L28 Y j) j = v64 Y 9 % 256 ^ j := by
  intro j
  induction j with
  | zero => intro _; rw [leS, Nat.pow_zero, Nat.mod_one]
  | succ j ih =>
    intro hj
    have hl := scProd_L28_len Y hY j
    have hn : nth (scProd_L28 Y j ++ [((nth Y (j / 8)) >>> (8 * (j % 8))).setWidth 8]) j = ((nth Y (j / 8)) >>> (8 * (j % 8))).setWidth 8 := by
      have := nth_last (scProd_L28 Y j) (((nth Y (j / 8)) >>> (8 * (j % 8))).setWidth 8)
      rwa [hl] at this
    have e := @Nat.mod_mul (256 ^ j) 256 (v64 Y 9)
    rw [scProd_L28, scProd_L28_S, leS, leS_append _ _ _ (by omega), hn, ih (by omega), byte_of Y 9 j (by omega), Nat.pow_succ, e, Nat.mul_comm (256 ^ j)]
theorem prod_val (a b c : List (BitVec 64)) : (scProd a b c).length = 72 ∧ leS (scProd a b c) 72 = wV a * wV b + wV c := by
  obtain ⟨h1, h2, _⟩ := prod_outer (a := a) (b := b) 4 (Nat.le_refl _)
  obtain ⟨g1, g2, _⟩ := prod_add (c := c) h1 9 (Nat.le_refl _)
  rw [h2, cSum_val, v64_four, v64_four] at g2
  have la := wV_lt a
  have lb := wV_lt b
  have lc := wV_lt c
  have hab : wV a * wV b ≤ 115792089237316195423570985008687907853269984665640564039457584007913129639935 * 115792089237316195423570985008687907853269984665640564039457584007913129639935 := Nat.mul_le_mul (by omega) (by omega)
  have ht := text_run g1 72 (Nat.le_refl _)
  have hv := v64_lt (scProd_L19 c (scProd_L3 a b 4) 9).2 9
  unfold scProd
  refine ⟨scProd_L28_len _ g1 72, ?_⟩
  rw [ht, Nat.mod_eq_of_lt (by rw [show (256 : Nat) ^ 72 = 18446744073709551616 ^ 9 from rfl]; exact hv)]
  generalize v64 (scProd_L19 c (scProd_L3 a b 4) 9).2 9 = V at *
  generalize (scProd_L19 c (scProd_L3 a b 4) 9).1.toNat = k at *
  generalize wV a * wV b = q at *
  simp only [Nat.reducePow, Nat.reduceMul] at *
  omega
/-- Told by numbers. -/
def sMod (b : List (BitVec 8)) : List (BitVec 8) := toB (leS b b.length % L25519)
def sMA (a b c : List (BitVec 8)) : List (BitVec 8) := toB ((leS a 32 * leS b 32 + leS c 32) % L25519)
def sBelow (n : List (BitVec 8)) : Bool := decide (leS n 32 < L25519)
@[simp] theorem sMod_len (b : List (BitVec 8)) : (sMod b).length = 32 := toB_len _
@[simp] theorem sMA_len (a b c : List (BitVec 8)) : (sMA a b c).length = 32 := toB_len _
theorem sMod_same (b : List (BitVec 8)) : scModT0 b = sMod b := by
  unfold scModT0 sMod
  rw [scBytes_val, red_val]
theorem sMA_same (a b c : List (BitVec 8)) : scMulAdd a b c = sMA a b c := by
  obtain ⟨h1, h2⟩ := prod_val (scOf a) (scOf b) (scOf c)
  unfold scMulAdd sMA
  rw [scBytes_val, red_val, h1, h2, scOf_val, scOf_val, scOf_val]
theorem sBelow_same {n : List (BitVec 8)} (hn : n.length = 32) : ((scLess_L3 (scOf n) scOrder 4) == 1#64) = sBelow n := by
  unfold sBelow
  rw [less_val (scOf_len n hn) order_len, order_val, scOf_val]
attribute [irreducible] sMA sMod sBelow
end Go.Proofs.Ytcekjmejppemeaa
/- curve's numbers, told by numbers. (Drawn up by a program.) -/
namespace Go.Proofs.Ytcekjmejppemeaa
open Go.RowKit
theorem sMA_ev (a b c : List (BitVec 8)) (ha : a.length = 32) (hb : b.length = 32) (hc : c.length = 32) : Ev Try.prog (.call 32 [.agg (.a8 a), .agg (.a8 b), .agg (.a8 c)] []) (.val (.agg (.a8 (sMA a b c))) []) := by
  rw [← sMA_same]; exact scMulAdd_ev a b c ha hb hc
theorem sBelow_ev (n : List (BitVec 8)) (hn : n.length = 32) : Ev Try.prog (.call 31 [.agg (.a8 n)] []) (.val (.c (.val (.bool (sBelow n)))) []) := by
  rw [← sBelow_same hn]; exact scBelow_ev n hn
theorem sMod_ev (b : List (BitVec 8)) (n cap : Nat) (hb : b.length = n) (hn : n ≤ 64) : Ev Try.prog (.call 30 [.c (.sl 0 0 n cap 1)] [.row false (.a8 b)]) (.val (.tup [.agg (.a8 (sMod b)), .c (.val (.int .i64 ((0 : Nat) : Int)))]) [.row false (.a8 b)]) := by
  rw [← sMod_same]; exact scModT_ev b n cap hb (by omega) hn
theorem L_lt : L25519 < 256 ^ 32 := by unfold L25519; decide
theorem leS_modL (x : Nat) : leS (toB (x % L25519)) 32 = x % L25519 := by
  rw [leS_toB _ _ (Nat.le_refl _), Nat.mod_eq_of_lt (Nat.lt_trans (Nat.mod_lt _ L_pos) L_lt)]
theorem leS_sMA (a b c : List (BitVec 8)) : leS (sMA a b c) 32 = (leS a 32 * leS b 32 + leS c 32) % L25519 := by unfold sMA; exact leS_modL _
theorem leS_sMod (b : List (BitVec 8)) : leS (sMod b) 32 = leS b b.length % L25519 := by unfold sMod; exact leS_modL _
theorem below_sMA (a b c : List (BitVec 8)) : sBelow (sMA a b c) = true := by
  unfold sBelow
  rw [leS_sMA]
  exact decide_eq_true (Nat.mod_lt _ L_pos)
theorem below_sMod (b : List (BitVec 8)) : sBelow (sMod b) = true := by
  unfold sBelow
  rw [leS_sMod]
  exact decide_eq_true (Nat.mod_lt _ L_pos)
theorem sMA_below_ev (a b c : List (BitVec 8)) : Ev Try.prog (.call 31 [.agg (.a8 (sMA a b c))] []) (.val (.c (.val (.bool true))) []) := by
  rw [← below_sMA a b c]; exact sBelow_ev _ (sMA_len a b c)
theorem sMod_below_ev (b : List (BitVec 8)) : Ev Try.prog (.call 31 [.agg (.a8 (sMod b))] []) (.val (.c (.val (.bool true))) []) := by
  rw [← below_sMod b]; exact sBelow_ev _ (sMod_len b)
theorem modL_eq {x y : Nat} (h : x % L25519 = y % L25519) : toB (x % L25519) = toB (y % L25519) := by rw [h]
theorem ring_comm (a b z : List (BitVec 8)) : sMA a b z = sMA b a z := by unfold sMA; rw [Nat.mul_comm]
theorem w0_nat : (0#64 : BitVec 64).toNat = 0 := rfl
theorem w1_nat : (1#64 : BitVec 64).toNat = 1 := rfl
theorem ring_one (a : List (BitVec 8)) (ha : a.length = 32) : sMA a (fSmall 1#64) (fSmall 0#64) = sMod a := by
  unfold sMA sMod
  rw [leS_sm, leS_sm, ha, w0_nat, w1_nat, Nat.mul_one, Nat.add_zero]
theorem ring_zero (a b : List (BitVec 8)) (ha : a.length = 32) : sMA (fSmall 0#64) b a = sMod a := by
  unfold sMA sMod
  rw [leS_sm, ha, w0_nat, Nat.zero_mul, Nat.zero_add]
theorem ring_parts (a b c : List (BitVec 8)) : sMA a (sMA b (fSmall 1#64) c) (fSmall 0#64) = sMA a b (sMA a c (fSmall 0#64)) := by
  unfold sMA
  rw [leS_sm, leS_sm, leS_modL, leS_modL, w0_nat, w1_nat]
  refine modL_eq ?_
  rw [Nat.mul_one, Nat.add_zero, Nat.add_zero, Nat.add_mod_mod, Nat.mul_mod, Nat.mod_mod, ← Nat.mul_mod, Nat.mul_add]
theorem ring_assoc (a b c : List (BitVec 8)) : sMA (sMA a b (fSmall 0#64)) c (fSmall 0#64) = sMA a (sMA b c (fSmall 0#64)) (fSmall 0#64) := by
  unfold sMA
  rw [leS_sm, leS_modL, leS_modL, w0_nat]
  refine modL_eq ?_
  rw [Nat.add_zero, Nat.add_zero, Nat.add_zero, Nat.add_zero, Nat.mul_mod, Nat.mod_mod, ← Nat.mul_mod, Nat.mul_mod (leS a 32) ((leS b 32 * leS c 32) % L25519), Nat.mod_mod, ← Nat.mul_mod, Nat.mul_assoc]
theorem mult_add (n m : BitVec 64) (P : OPt) : oadd (oT (fSmall (n >>> 1)) P) (oT (fSmall (m >>> 1)) P) = oT (fSmall ((n >>> 1) + (m >>> 1))) P := by
  unfold oT
  rw [leS_sm, leS_sm, leS_sm, half_add, omul_add]
theorem mult_mul (n m : BitVec 64) (k : List (BitVec 8)) : oB (sMA (fSmall n) k (fSmall m)) = oadd (oT (fSmall n) (oB k)) (oB (fSmall m)) := by
  unfold oB oT
  rw [leS_sMA, leS_sm, leS_sm, obase_mod, omul_add, Nat.mul_comm, omul_mul]
theorem oB_mod (n : List (BitVec 8)) (hn : n.length = 32) : oB (sMod n) = oB n := by
  unfold oB
  rw [leS_sMod, hn, obase_mod]
theorem leS_rB (n : List (BitVec 64)) : leS (rB n) 32 = wV n := by
  unfold rB
  rw [leS_toB _ _ (Nat.le_refl _), Nat.mod_eq_of_lt]
  exact wV_lt n
end Go.Proofs.Ytcekjmejppemeaa
/- trystref06.L (Drawn up by a program.) -/
namespace Go.Proofs.Ytcekjmejppemeaa
open Go.RowKit
def rfL  : List (BitVec 64) := [6346243789798364141#64, 1503914060200516822#64, 0#64, 1152921504606846976#64]
set_option maxRecDepth 100000 in
set_option maxHeartbeats 2000000 in
theorem rfL_ev   : Ev Try.prog (.call 24 [] []) (.val (.agg (.a64 (rfL))) []) := by
  have hP : Hid (rfL = [6346243789798364141#64, 1503914060200516822#64, 0#64, 1152921504606846976#64]) := ⟨rfl⟩
  refine c_call Try.func24 rfl Try.ntmps24 rfl LEN_ ?_
  refine S_ ?_
  refine c_region ?_
  refine s_memN (m_alloc al_38 LEN_) APP_ rfl ?_
  refine s_nil ?_
  refine S_ ?_
  refine c_region ?_
  refine s_val (v_bld64 (l := [6346243789798364141#64, 1503914060200516822#64, 0#64, 1152921504606846976#64]) zc_38 Try.underlying38 sz_29 rfl rfl (by decide)) rfl ?_
  refine s_storeR rfl rfl rfl rfl sz_38 EQ_ EQ_ SET_ ?_
  refine s_nil ?_
  refine S_ ?_
  rw [hP.out]
  exact k_1 (r_row rfl rfl row_38 sz_38 EQ_ (by decide)) (by first | kernel_rfl | rfl)

@[simp] theorem rfL_len  : (rfL).length = 4 := by
  unfold rfL
  first | (simp [*]; done) | (simp [*]; omega)

attribute [irreducible] rfL
theorem rfL_val : wV rfL = L25519 := by unfold rfL; decide +kernel
theorem rfL_up : wV (put rfL 0 ((nth rfL 0) + 1#64)) = L25519 + 1 := by unfold rfL; decide +kernel
theorem rfL_down : wV (put rfL 0 ((nth rfL 0) - 1#64)) = L25519 - 1 := by unfold rfL; decide +kernel
theorem oB_L : oB (rB rfL) = ozero := by
  unfold oB
  rw [leS_rB, rfL_val]
  exact obase_L
theorem oB_L1 : oB (rB (put rfL 0 ((nth rfL 0) + 1#64))) = obase := by
  unfold oB
  rw [leS_rB, rfL_up, omul_add, obase_L, omul_one]
  exact zero_oadd _
theorem below_L : sBelow (rB rfL) = false := by
  unfold sBelow
  rw [leS_rB, rfL_val]
  exact decide_eq_false (Nat.lt_irrefl _)
end Go.Proofs.Ytcekjmejppemeaa
/- trystref06.modL (Drawn up by a program.) -/
namespace Go.Proofs.Ytcekjmejppemeaa
open Go.RowKit
def rfModL_L3_S (t : List (BitVec 64)) (X1 : List (BitVec 64)) (j3 : Nat) : List (BitVec 64) := (if (!((rfsub1 (put (rfadd0 X1 X1) 0 ((nth (rfadd0 X1 X1) 0) ||| (((nth t ((511 - j3) / 64)) >>> (BitVec.ofNat 64 ((511 - j3) % 64)).toNat) &&& 1#64))) rfL) == 1#64)) = true then rfsub0 (put (rfadd0 X1 X1) 0 ((nth (rfadd0 X1 X1) 0) ||| (((nth t ((511 - j3) / 64)) >>> (BitVec.ofNat 64 ((511 - j3) % 64)).toNat) &&& 1#64))) rfL else put (rfadd0 X1 X1) 0 ((nth (rfadd0 X1 X1) 0) ||| (((nth t ((511 - j3) / 64)) >>> (BitVec.ofNat 64 ((511 - j3) % 64)).toNat) &&& 1#64)))
def rfModL_L3 (t : List (BitVec 64)) : Nat → List (BitVec 64)
  | 0 => zer64 4
  | j3 + 1 => rfModL_L3_S t (rfModL_L3 t j3) j3
theorem rfModL_L3_len (t : List (BitVec 64)) (_ht : t.length = 8) (j3 : Nat) : (rfModL_L3 t j3).length = 4 := by
  induction j3 with
  | zero => first | (simp (maxDischargeDepth := 9) [rfModL_L3, *]; done) | (simp (maxDischargeDepth := 9) [rfModL_L3, *]; omega)
  | succ j3 ih => rw [rfModL_L3.eq_2, rfModL_L3_S]; first | (simp (maxDischargeDepth := 9) []; done) | (simp (maxDischargeDepth := 9) []; omega) | (simp (maxDischargeDepth := 9) [*]; done) | (simp (maxDischargeDepth := 9) [*]; omega) | (split <;> first | (simp (maxDischargeDepth := 9) [ih]; done) | (simp (maxDischargeDepth := 9) [ih]; omega) | (simp (maxDischargeDepth := 9) [*]; done))
def rfModL (t : List (BitVec 64)) : List (BitVec 64) := (rfModL_L3 t 512)
set_option maxRecDepth 100000 in
set_option maxHeartbeats 2000000 in
theorem rfModL_ev (t : List (BitVec 64)) (ht : t.length = 8) : Ev Try.prog (.call 69 [.agg (.a64 (t))] []) (.val (.agg (.a64 (rfModL t))) []) := by
  have hP : Hid (rfModL t = (rfModL_L3 t 512)) := ⟨rfl⟩
  refine c_call Try.func69 rfl Try.ntmps69 rfl LEN_ ?_
  refine S_ ?_
  refine c_region ?_
  refine s_memN (m_box BX_ LEN_) APP_ rfl ?_
  refine s_memN (m_alloc al_38 LEN_) APP_ rfl ?_
  refine s_nil ?_
  refine S_ ?_
  refine c_region ?_
  refine s_memN (m_alloc al_38 LEN_) APP_ rfl ?_
  refine s_nil ?_
  refine S_ ?_
  refine c_region ?_
  refine s_val (v_assignC rfl) rfl ?_
  refine s_nil ?_
  refine S_ ?_
  refine c_loopC [1, 2, 3, 4] (fun (zz : Nat × List (BitVec 64)) => ⟨39, keepT [1, 2, 3, 4] [.c (.ptr 0 0), .c (.ptr 1 0), .c (.ptr 2 0), .c (.val (.int .i64 (((511 : Nat) : Int) - ((zz.1 : Nat) : Int))))], [.row true (.a64 (t)), .row true (.a64 (zer64 4)), .row true (.a64 (zz.2))]⟩) (fun j3 => (j3, rfModL_L3 t j3)) (512) (by kernel_rfl) ?_ ?_
  · intro j3 hj3
    try dsimp only
    have hX1 : (rfModL_L3 t j3).length = 4 := by rw [rfModL_L3_len t ht _]; try omega
    rw [rfModL_L3.eq_2, rfModL_L3_S]
    generalize rfModL_L3 t j3 = X1 at *
    rw [show ((511 : Nat) : Int) - ((j3 : Nat) : Int) = ((511 - j3 : Nat) : Int) from by omega]
    refine S_ ?_
    refine c_region ?_
    refine s_val (v_moveC rfl) rfl ?_
    refine s_val (v_geqN (b := 0) rfl rfl) rfl ?_
    refine s_nil ?_
    have hQ2 : (rfadd0 X1 X1).length = 4 := LQ_
    refine S_ ?_
    refine c_region ?_
    refine s_val (v_loadR rfl rfl row_38 sz_38 EQ_ (by decide)) rfl ?_
    refine s_val (v_loadR rfl rfl row_38 sz_38 EQ_ (by decide)) rfl ?_
    refine s_evN (e_callR (bs := []) (rfadd_ev X1 X1 HYP_ HYP_) ok_81 (by kernel_rfl) (by kernel_rfl) rfl VAL_) APP_ rfl ?_
    refine s_val (v_moveT rfl) rfl ?_
    refine s_val (v_extract rfl rfl) rfl ?_
    refine s_val (v_extract rfl rfl) rfl ?_
    refine s_storeR rfl rfl rfl rfl sz_38 EQ_ EQ_ SET_ ?_
    refine s_nil ?_
    refine S_ ?_
    refine c_draw 13 mixed (by kernel_rfl) rfl rfl rfl ?_
    refine h_val (v_idxA1 (j := 0) rfl rfl Try.underlying38 sz_29 (by omega)) rfl ?_
    refine h_val (v_load64 rfl rfl row_29 LT_) rfl ?_
    refine h_val (v_moveC rfl) rfl ?_
    refine h_val (v_quoN (b := 64) rfl rfl (by omega) (by omega)) rfl ?_
    refine h_val (v_idxA1 rfl rfl Try.underlying85 sz_29 (by omega)) rfl ?_
    refine h_val (v_load64 rfl rfl row_29 LT_) rfl ?_
    refine h_val (v_moveC rfl) rfl ?_
    refine h_val (v_remN (b := 64) rfl rfl (by omega) (by omega)) rfl ?_
    refine h_val (v_conv rfl Try.underlying3 Try.underlying51 (wi_64 _)) rfl ?_
    refine h_val (v_shr64w rfl rfl) rfl ?_
    refine h_val (v_and64 (b := 1#64) rfl rfl) rfl ?_
    refine h_val (v_or64 rfl rfl) rfl ?_
    refine h_val (v_idxA1 (j := 0) rfl rfl Try.underlying38 sz_29 (by omega)) rfl ?_
    refine h_nil ?_
    refine s_store64 rfl rfl rfl sz_29 LT_ SET_ ?_
    refine s_nil ?_
    have hQ3 : (rfL).length = 4 := LQ_
    refine S_ ?_
    refine c_draw 4 mixed (by kernel_rfl) rfl rfl rfl ?_
    refine h_val (v_loadR rfl rfl row_38 sz_38 EQ_ (by decide)) rfl ?_
    refine h_evN (e_callR (bs := []) (rfL_ev) ok_24 (by kernel_rfl) (by kernel_rfl) rfl VAL_) APP_ rfl ?_
    refine h_evN (e_callR (bs := []) (rfless_ev (put (rfadd0 X1 X1) 0 ((nth (rfadd0 X1 X1) 0) ||| (((nth t ((511 - j3) / 64)) >>> (BitVec.ofNat 64 ((511 - j3) % 64)).toNat) &&& 1#64))) rfL HYP_ HYP_) ok_51 (by kernel_rfl) (by kernel_rfl) rfl VAL_) APP_ rfl ?_
    refine h_val (v_unnotB rfl) rfl ?_
    refine h_nil ?_
    refine s_nil ?_
    refine Q_ ?_
    refine c_join [1, 2, 3, 4] (fun (zz : List (BitVec 64)) => ⟨39, keepT [1, 2, 3, 4] [.c (.ptr 0 0), .c (.ptr 1 0), .c (.ptr 2 0), .c (.val (.int .i64 (((511 - j3 : Nat) : Int))))], [.row true (.a64 (t)), .row true (.a64 (zer64 4)), .row true (.a64 (zz))]⟩) (if (!((rfsub1 (put (rfadd0 X1 X1) 0 ((nth (rfadd0 X1 X1) 0) ||| (((nth t ((511 - j3) / 64)) >>> (BitVec.ofNat 64 ((511 - j3) % 64)).toNat) &&& 1#64))) rfL) == 1#64)) = true then rfsub0 (put (rfadd0 X1 X1) 0 ((nth (rfadd0 X1 X1) 0) ||| (((nth t ((511 - j3) / 64)) >>> (BitVec.ofNat 64 ((511 - j3) % 64)).toNat) &&& 1#64))) rfL else put (rfadd0 X1 X1) 0 ((nth (rfadd0 X1 X1) 0) ||| (((nth t ((511 - j3) / 64)) >>> (BitVec.ofNat 64 ((511 - j3) % 64)).toNat) &&& 1#64))) rfl (fun hb => ?_) (fun hb => ?_) ?_
    · -- the test is True
      have hQ5 : (rfL).length = 4 := LQ_
      have hQ6 : (rfsub0 (put (rfadd0 X1 X1) 0 ((nth (rfadd0 X1 X1) 0) ||| (((nth t ((511 - j3) / 64)) >>> (BitVec.ofNat 64 ((511 - j3) % 64)).toNat) &&& 1#64))) rfL).length = 4 := LQ_
      refine S_ ?_
      refine c_late 6 5 mixed (by kernel_rfl) (by kernel_rfl) rfl rfl rfl ?_
      refine h_val (v_loadR rfl rfl row_38 sz_38 EQ_ (by decide)) rfl ?_
      refine h_evN (e_callR (bs := []) (rfL_ev) ok_24 (by kernel_rfl) (by kernel_rfl) rfl VAL_) APP_ rfl ?_
      refine h_evN (e_callR (bs := []) (rfsub_ev (put (rfadd0 X1 X1) 0 ((nth (rfadd0 X1 X1) 0) ||| (((nth t ((511 - j3) / 64)) >>> (BitVec.ofNat 64 ((511 - j3) % 64)).toNat) &&& 1#64))) rfL HYP_ HYP_) ok_80 (by kernel_rfl) (by kernel_rfl) rfl VAL_) APP_ rfl ?_
      refine h_val (v_moveT rfl) rfl ?_
      refine h_val (v_extract rfl rfl) rfl ?_
      refine h_val (v_extract rfl rfl) rfl ?_
      refine h_nil ?_
      refine s_storeR rfl rfl rfl rfl sz_38 EQ_ EQ_ SET_ ?_
      refine s_nil ?_
      refine S_ ?_
      refine ⟨(rfsub0 (put (rfadd0 X1 X1) 0 ((nth (rfadd0 X1 X1) 0) ||| (((nth t ((511 - j3) / 64)) >>> (BitVec.ofNat 64 ((511 - j3) % 64)).toNat) &&& 1#64))) rfL), by kernel_rfl, ?_⟩
      rw [if_pos (hb)]
    · -- the test is False
      refine S_ ?_
      refine ⟨(put (rfadd0 X1 X1) 0 ((nth (rfadd0 X1 X1) 0) ||| (((nth t ((511 - j3) / 64)) >>> (BitVec.ofNat 64 ((511 - j3) % 64)).toNat) &&& 1#64))), by kernel_rfl, ?_⟩
      rw [if_neg (by first | (rw [hb]; decide) | simp [hb])]
    have hJ4 : (if (!((rfsub1 (put (rfadd0 X1 X1) 0 ((nth (rfadd0 X1 X1) 0) ||| (((nth t ((511 - j3) / 64)) >>> (BitVec.ofNat 64 ((511 - j3) % 64)).toNat) &&& 1#64))) rfL) == 1#64)) = true then rfsub0 (put (rfadd0 X1 X1) 0 ((nth (rfadd0 X1 X1) 0) ||| (((nth t ((511 - j3) / 64)) >>> (BitVec.ofNat 64 ((511 - j3) % 64)).toNat) &&& 1#64))) rfL else put (rfadd0 X1 X1) 0 ((nth (rfadd0 X1 X1) 0) ||| (((nth t ((511 - j3) / 64)) >>> (BitVec.ofNat 64 ((511 - j3) % 64)).toNat) &&& 1#64))).length = 4 := by split <;> simp [*]
    generalize (if (!((rfsub1 (put (rfadd0 X1 X1) 0 ((nth (rfadd0 X1 X1) 0) ||| (((nth t ((511 - j3) / 64)) >>> (BitVec.ofNat 64 ((511 - j3) % 64)).toNat) &&& 1#64))) rfL) == 1#64)) = true then rfsub0 (put (rfadd0 X1 X1) 0 ((nth (rfadd0 X1 X1) 0) ||| (((nth t ((511 - j3) / 64)) >>> (BitVec.ofNat 64 ((511 - j3) % 64)).toNat) &&& 1#64))) rfL else put (rfadd0 X1 X1) 0 ((nth (rfadd0 X1 X1) 0) ||| (((nth t ((511 - j3) / 64)) >>> (BitVec.ofNat 64 ((511 - j3) % 64)).toNat) &&& 1#64))) = J4 at *
    refine S_ ?_
    refine c_region ?_
    refine s_val (v_moveC rfl) rfl ?_
    first
      | refine s_val (v_subN (b := 1) rfl rfl (by omega) (by omega)) rfl ?_
      | refine s_val (v_subI rfl rfl (by omega)) rfl ?_
    refine s_val (v_assignC rfl) rfl ?_
    refine s_nil ?_
    refine ⟨(j3 + 1, _), (by
      dsimp only
      rw [show ((511 : Nat) : Int) - ((j3 + 1 : Nat) : Int) = ((511 - j3 : Nat) : Int) - 1 from by omega]
      kernel_rfl), rfl⟩
  · try dsimp only
    have hY7 : (rfModL_L3 t 512).length = 4 := by rw [rfModL_L3_len t ht _]; try omega
    generalize rfModL_L3 t 512 = Y7 at *
    refine S_ ?_
    refine c_region ?_
    refine s_val (v_moveC rfl) rfl ?_
    refine s_val (v_geqI rfl rfl) rfl ?_
    refine s_nil ?_
    refine S_ ?_
    refine c_region ?_
    refine s_val (v_loadR rfl rfl row_38 sz_38 EQ_ (by decide)) rfl ?_
    refine s_storeR rfl rfl rfl rfl sz_38 EQ_ EQ_ SET_ ?_
    refine s_nil ?_
    refine S_ ?_
    rw [hP.out]
    exact k_1 (r_row rfl rfl row_38 sz_38 EQ_ (by decide)) (by first | kernel_rfl | rfl)

@[simp] theorem rfModL_len (t : List (BitVec 64)) (ht : t.length = 8) : (rfModL t).length = 4 := by
  unfold rfModL
  first | (simp (maxDischargeDepth := 9) [rfModL_L3_len, *]; done) | (simp (maxDischargeDepth := 9) [rfModL_L3_len, *]; omega) | (split <;> (simp (maxDischargeDepth := 9) [rfModL_L3_len, *]; done))

attribute [irreducible] rfModL
end Go.Proofs.Ytcekjmejppemeaa
