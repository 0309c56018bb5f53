/- The texts RfDecF, RfEncG, RfEnc, RfPlusG, RfPlus, RfMult, FRfRoot, RfDec, RfBaseG, RfBase, RfApi, RfSame8, GRSame, GRSign, GRVfyA, GRVfyB, GRVfyC, GRVfyD, GBoth, GWakesP, GWakes, PKeep, GExact, GLooks, GLawP, GTwice, GBack, GNeutP, GNeut, GAll, Slice, Open, merged into one. -/
import Derived.Test.YtcgncafhonlmlaaGE6
import Derived.Laws.AppendOwnNone
import Derived.Deep.RegionLaw
import Derived.WalkKit
import Derived.ProofKit
import Derived.OpenShut
import Derived.ShutString
import Derived.ChangeOld
import Derived.Below
namespace Go.Proofs.Ytcgncafhonlmlaa
open Go.RowKit
set_option maxRecDepth 100000 in
set_option maxHeartbeats 2000000 in
theorem rfDecF_ev (b : List (BitVec 8)) (hb : b.length = 32) (wMul : List (BitVec 64) → List (BitVec 64) → List (BitVec 64)) (wMul_len : ∀ a b : List (BitVec 64), (wMul a b).length = 4) (wMul_ev : ∀ a b : List (BitVec 64), a.length = 4 → b.length = 4 → Ev Try.prog (.call 78 [.agg (.a64 a), .agg (.a64 b)] []) (.val (.agg (.a64 (wMul a b))) [])) (wSub : List (BitVec 64) → List (BitVec 64) → List (BitVec 64)) (wSub_len : ∀ a b : List (BitVec 64), (wSub a b).length = 4) (wSub_ev : ∀ a b : List (BitVec 64), a.length = 4 → b.length = 4 → Ev Try.prog (.call 80 [.agg (.a64 a), .agg (.a64 b)] []) (.val (.agg (.a64 (wSub a b))) [])) (wAdd : List (BitVec 64) → List (BitVec 64) → List (BitVec 64)) (wAdd_len : ∀ a b : List (BitVec 64), (wAdd a b).length = 4) (wAdd_ev : ∀ a b : List (BitVec 64), a.length = 4 → b.length = 4 → Ev Try.prog (.call 82 [.agg (.a64 a), .agg (.a64 b)] []) (.val (.agg (.a64 (wAdd a b))) [])) (wInv : List (BitVec 64) → List (BitVec 64)) (wInv_len : ∀ a : List (BitVec 64), (wInv a).length = 4) (wInv_ev : ∀ a : List (BitVec 64), a.length = 4 → Ev Try.prog (.call 81 [.agg (.a64 a)] []) (.val (.agg (.a64 (wInv a))) [])) (y : List (BitVec 64)) (y_len : y.length = 4) (y_ev : Ev Try.prog (.call 55 [.agg (.a8 (put b 31 ((nth b 31) &&& 127#8)))] []) (.val (.agg (.a64 y)) [])) (dd : List (BitVec 64)) (dd_len : dd.length = 4) (dd_ev : Ev Try.prog (.call 83 [] []) (.val (.agg (.a64 dd)) [])) (rt : List (BitVec 64)) (rt_len : rt.length = 4) (ri : Bool) (rt_ev : Ev Try.prog (.call 79 [.agg (.a64 (wMul (wSub (wMul y y) (put (zer64 4) 0 1#64)) (wInv (wAdd (wMul dd (wMul y y)) (put (zer64 4) 0 1#64)))))] []) (.val (.tup [.agg (.a64 rt), .c (.val (.bool ri))]) [])) (hL : (rfsub1 y rfP == 1#64) = true) (hI : ri = true) (hO : decide ((128#8).toNat ≤ (nth b 31).toNat) = true) (hZ : decide (rt = zer64 4) = false) : Ev Try.prog (.call 40 [.agg (.a8 (b))] []) (.val (.tup [.agg (.a64 ((wSub (zer64 4) rt) ++ y ++ (put (zer64 4) 0 1#64) ++ (wMul (wSub (zer64 4) rt) y))), .c (.val (.bool (true)))]) []) := by
  refine c_call Try.func40 rfl Try.ntmps40 rfl LEN_ ?_
  refine S_ ?_
  refine c_region ?_
  refine s_memN (m_box BX_ LEN_) APP_ rfl ?_
  refine s_memN (m_alloc al_64 LEN_) APP_ rfl ?_
  refine s_val (v_assignC rfl) rfl ?_
  refine s_nil ?_
  have hE1 : (decide ((128#8).toNat ≤ (nth b 31).toNat)) = true := hO
  refine S_ ?_
  refine c_region ?_
  refine s_val (v_idxA1 (j := 31) rfl rfl Try.underlying22 sz_5 (by omega)) rfl ?_
  refine s_val (v_load8 rfl rfl row_5 LT_) rfl ?_
  refine s_val (v_bool (v_geq8 (b := 128#8) rfl rfl) hE1) rfl ?_
  refine s_val (v_assignC rfl) rfl ?_
  refine s_nil ?_
  refine S_ ?_
  refine c_region ?_
  refine s_val (v_idxA1 (j := 31) rfl rfl Try.underlying22 sz_5 (by omega)) rfl ?_
  refine s_val (v_load8 rfl rfl row_5 LT_) rfl ?_
  refine s_val (v_and8 (b := 127#8) rfl rfl) rfl ?_
  refine s_val (v_idxA1 (j := 31) rfl rfl Try.underlying22 sz_5 (by omega)) rfl ?_
  refine s_store8 rfl rfl rfl sz_5 LT_ SET_ ?_
  refine s_nil ?_
  have hQ2 : (y).length = 4 := LQ_
  refine S_ ?_
  refine c_region ?_
  refine s_val (v_loadR rfl rfl row_22 sz_22 EQ_ (by decide)) rfl ?_
  refine s_evN (e_callR (bs := []) (y_ev) ok_55 (by kernel_rfl) (by kernel_rfl) rfl VAL_) APP_ rfl ?_
  refine s_memN (m_alloc al_42 LEN_) APP_ rfl ?_
  refine s_storeR rfl rfl rfl rfl sz_42 EQ_ EQ_ SET_ ?_
  refine s_nil ?_
  have hQ4 : (rfP).length = 4 := LQ_
  have hE3 : (!((rfsub1 y rfP) == 1#64)) = false := by rw [hL]; rfl
  refine S_ ?_
  refine c_draw 4 mixed (by kernel_rfl) rfl rfl rfl ?_
  refine h_val (v_loadR rfl rfl row_42 sz_42 EQ_ (by decide)) rfl ?_
  refine h_evN (e_callR (bs := []) (rfP_ev) ok_77 (by kernel_rfl) (by kernel_rfl) rfl VAL_) APP_ rfl ?_
  refine h_evN (e_callR (bs := []) (rfless_ev y rfP HYP_ HYP_) ok_76 (by kernel_rfl) (by kernel_rfl) rfl VAL_) APP_ rfl ?_
  refine h_val (v_bool (v_unnotB rfl) hE3) rfl ?_
  refine h_nil ?_
  refine s_nil ?_
  have hQ5 : (wMul y y).length = 4 := LQ_
  refine S_ ?_
  refine c_region ?_
  refine s_val (v_loadR rfl rfl row_42 sz_42 EQ_ (by decide)) rfl ?_
  refine s_val (v_loadR rfl rfl row_42 sz_42 EQ_ (by decide)) rfl ?_
  refine s_evN (e_callR (bs := []) (wMul_ev y y HYP_ HYP_) ok_78 (by kernel_rfl) (by kernel_rfl) rfl VAL_) APP_ rfl ?_
  refine s_memN (m_alloc al_42 LEN_) APP_ rfl ?_
  refine s_storeR rfl rfl rfl rfl sz_42 EQ_ EQ_ SET_ ?_
  refine s_nil ?_
  have hQ7 : (wSub (wMul y y) (put (zer64 4) 0 1#64)).length = 4 := LQ_
  have hQ8 : (dd).length = 4 := LQ_
  have hQ9 : (wMul dd (wMul y y)).length = 4 := LQ_
  have hQ10 : (wAdd (wMul dd (wMul y y)) (put (zer64 4) 0 1#64)).length = 4 := LQ_
  have hQ11 : (wInv (wAdd (wMul dd (wMul y y)) (put (zer64 4) 0 1#64))).length = 4 := LQ_
  have hQ12 : (wMul (wSub (wMul y y) (put (zer64 4) 0 1#64)) (wInv (wAdd (wMul dd (wMul y y)) (put (zer64 4) 0 1#64)))).length = 4 := LQ_
  have hQ13 : (rt).length = 4 := LQ_
  have hE6 : (ri) = true := hI
  refine S_ ?_
  refine c_late 15 13 mixed (by kernel_rfl) (by kernel_rfl) rfl rfl rfl ?_
  refine h_val (v_loadR rfl rfl row_42 sz_42 EQ_ (by decide)) rfl ?_
  refine h_val (v_blf64 (l := (put (zer64 4) 0 (1#64))) za_42 Try.underlying42 sz_40 rfl rfl) rfl ?_
  refine h_evN (e_callR (bs := []) (wSub_ev (wMul y y) (put (zer64 4) 0 1#64) HYP_ HYP_) ok_80 (by kernel_rfl) (by kernel_rfl) rfl VAL_) APP_ rfl ?_
  refine h_evN (e_callR (bs := []) (dd_ev) ok_83 (by kernel_rfl) (by kernel_rfl) rfl VAL_) APP_ rfl ?_
  refine h_val (v_loadR rfl rfl row_42 sz_42 EQ_ (by decide)) rfl ?_
  refine h_evN (e_callR (bs := []) (wMul_ev dd (wMul y y) HYP_ HYP_) ok_78 (by kernel_rfl) (by kernel_rfl) rfl VAL_) APP_ rfl ?_
  refine h_val (v_blf64 (l := (put (zer64 4) 0 (1#64))) za_42 Try.underlying42 sz_40 rfl rfl) rfl ?_
  refine h_evN (e_callR (bs := []) (wAdd_ev (wMul dd (wMul y y)) (put (zer64 4) 0 1#64) HYP_ HYP_) ok_82 (by kernel_rfl) (by kernel_rfl) rfl VAL_) APP_ rfl ?_
  refine h_evN (e_callR (bs := []) (wInv_ev (wAdd (wMul dd (wMul y y)) (put (zer64 4) 0 1#64)) HYP_) ok_81 (by kernel_rfl) (by kernel_rfl) rfl VAL_) APP_ rfl ?_
  refine h_evN (e_callR (bs := []) (wMul_ev (wSub (wMul y y) (put (zer64 4) 0 1#64)) (wInv (wAdd (wMul dd (wMul y y)) (put (zer64 4) 0 1#64))) HYP_ HYP_) ok_78 (by kernel_rfl) (by kernel_rfl) rfl VAL_) APP_ rfl ?_
  refine h_evN (e_callR (bs := []) (rt_ev) ok_79 (by kernel_rfl) (by kernel_rfl) rfl VAL_) APP_ rfl ?_
  refine h_val (v_moveT rfl) rfl ?_
  refine h_val (v_extract rfl rfl) rfl ?_
  refine h_val (v_bool (v_extract rfl rfl) hE6) rfl ?_
  refine h_memN (m_alloc al_42 LEN_) APP_ rfl ?_
  refine h_nil ?_
  refine s_storeR rfl rfl rfl rfl sz_42 EQ_ EQ_ SET_ ?_
  refine s_val (v_assignC rfl) rfl ?_
  refine s_nil ?_
  have hE14 : (decide (rt = zer64 4)) = false := hZ
  refine S_ ?_
  refine c_region ?_
  refine s_val (v_moveC rfl) rfl ?_
  refine s_val (v_unnotB rfl) rfl ?_
  refine s_val (v_moveC rfl) rfl ?_
  refine s_go GO_ ?_
  refine s_val (v_loadR rfl rfl row_42 sz_42 EQ_ (by decide)) rfl ?_
  refine s_go GO_ ?_
  refine s_val (v_blf64 (l := (zer64 4)) za_42 Try.underlying42 sz_40 rfl rfl) rfl ?_
  refine s_go GO_ ?_
  refine s_val (v_bool (v_eqlR64 rfl rfl Try.underlying42 Try.underlying40 sz_40 EQ_ EQ_) hE14) rfl ?_
  refine s_go GO_ ?_
  refine s_val (v_moveC rfl) rfl ?_
  refine s_no GO_ rfl ?_
  refine s_go GO_ ?_
  refine s_val (v_pickF rfl PK_ rfl) rfl ?_
  refine s_val (v_pickF rfl PK_ rfl) rfl ?_
  refine s_nil ?_
  refine S_ ?_
  refine c_region ?_
  refine s_val (v_moveC rfl) rfl ?_
  refine s_nil ?_
  have hQ15 : (wSub (zer64 4) rt).length = 4 := LQ_
  refine S_ ?_
  refine c_region ?_
  refine s_val (v_blf64 (l := (zer64 4)) za_42 Try.underlying42 sz_40 rfl rfl) rfl ?_
  refine s_val (v_loadR rfl rfl row_42 sz_42 EQ_ (by decide)) rfl ?_
  refine s_evN (e_callR (bs := []) (wSub_ev (zer64 4) rt HYP_ HYP_) ok_80 (by kernel_rfl) (by kernel_rfl) rfl VAL_) APP_ rfl ?_
  refine s_storeR rfl rfl rfl rfl sz_42 EQ_ EQ_ SET_ ?_
  refine s_nil ?_
  have hQ16 : (wMul (wSub (zer64 4) rt) y).length = 4 := LQ_
  refine S_ ?_
  refine c_draw 7 mixed (by kernel_rfl) rfl rfl rfl ?_
  refine h_val (v_loadR rfl rfl row_42 sz_42 EQ_ (by decide)) rfl ?_
  refine h_val (v_loadR rfl rfl row_42 sz_42 EQ_ (by decide)) rfl ?_
  refine h_val (v_blf64 (l := (put (zer64 4) 0 (1#64))) za_42 Try.underlying42 sz_40 rfl rfl) rfl ?_
  refine h_val (v_loadR rfl rfl row_42 sz_42 EQ_ (by decide)) rfl ?_
  refine h_val (v_loadR rfl rfl row_42 sz_42 EQ_ (by decide)) rfl ?_
  refine h_evN (e_callR (bs := []) (wMul_ev (wSub (zer64 4) rt) y HYP_ HYP_) ok_78 (by kernel_rfl) (by kernel_rfl) rfl VAL_) APP_ rfl ?_
  refine h_val (v_bld4 rfl rfl rfl rfl (bs_64 EQL_ EQL_ EQL_ EQL_)) rfl ?_
  refine h_nil ?_
  refine s_storeR rfl rfl rfl rfl sz_64 EQ_ EQ_ SET_ ?_
  refine s_val (v_assignC rfl) rfl ?_
  refine s_nil ?_
  refine S_ ?_
  exact k_2 (r_row rfl rfl row_64 sz_64 EQ_ (by decide)) (by first | exact r_tmpC rfl | exact r_tmpA rfl) (by first | kernel_rfl | rfl)
end Go.Proofs.Ytcgncafhonlmlaa
namespace Go.Proofs.Ytcgncafhonlmlaa
open Go.RowKit
set_option maxRecDepth 100000 in
set_option maxHeartbeats 2000000 in
theorem rfEncG_ev (p : List (BitVec 64)) (hp : p.length = 16) (wMul : List (BitVec 64) → List (BitVec 64) → List (BitVec 64)) (wMul_len : ∀ a b : List (BitVec 64), (wMul a b).length = 4) (wMul_ev : ∀ a b : List (BitVec 64), a.length = 4 → b.length = 4 → Ev Try.prog (.call 78 [.agg (.a64 a), .agg (.a64 b)] []) (.val (.agg (.a64 (wMul a b))) [])) (wInv : List (BitVec 64) → List (BitVec 64)) (wInv_len : ∀ a : List (BitVec 64), (wInv a).length = 4) (wInv_ev : ∀ a : List (BitVec 64), a.length = 4 → Ev Try.prog (.call 81 [.agg (.a64 a)] []) (.val (.agg (.a64 (wInv a))) [])) : Ev Try.prog (.call 53 [.agg (.a64 (p))] []) (.val (.agg (.a8 ((if (((nth (wMul (cut p 0 4) (wInv (cut p 8 4))) 0) &&& 1#64) == 1#64) = true then put (rB (wMul (cut p 4 4) (wInv (cut p 8 4)))) 31 ((nth (rB (wMul (cut p 4 4) (wInv (cut p 8 4)))) 31) ||| 128#8) else rB (wMul (cut p 4 4) (wInv (cut p 8 4))))))) []) := by
  refine c_call Try.func53 rfl Try.ntmps53 rfl LEN_ ?_
  refine S_ ?_
  refine c_region ?_
  refine s_memN (m_box BX_ LEN_) APP_ rfl ?_
  refine s_memN (m_alloc al_22 LEN_) APP_ rfl ?_
  refine s_nil ?_
  have hQ1 : (cut p 8 4).length = 4 := LQ_
  have hQ2 : (wInv (cut p 8 4)).length = 4 := LQ_
  refine S_ ?_
  refine c_region ?_
  refine s_val (v_fieldP rfl (fa_64_2 _ _)) rfl ?_
  refine s_val (v_loadW64 rfl rfl row_42 sz_42 LE_ (by decide)) rfl ?_
  refine s_evN (e_callR (bs := []) (wInv_ev (cut p 8 4) HYP_) ok_81 (by kernel_rfl) (by kernel_rfl) rfl VAL_) APP_ rfl ?_
  refine s_memN (m_alloc al_42 LEN_) APP_ rfl ?_
  refine s_storeR rfl rfl rfl rfl sz_42 EQ_ EQ_ SET_ ?_
  refine s_nil ?_
  have hQ3 : (cut p 0 4).length = 4 := LQ_
  have hQ4 : (wMul (cut p 0 4) (wInv (cut p 8 4))).length = 4 := LQ_
  have hQ5 : (cut p 4 4).length = 4 := LQ_
  have hQ6 : (wMul (cut p 4 4) (wInv (cut p 8 4))).length = 4 := LQ_
  refine S_ ?_
  refine c_draw 10 mixed (by kernel_rfl) rfl rfl rfl ?_
  refine h_val (v_fieldP rfl (fa_64_0 _ _)) rfl ?_
  refine h_val (v_loadW64 rfl rfl row_42 sz_42 LE_ (by decide)) rfl ?_
  refine h_val (v_loadR rfl rfl row_42 sz_42 EQ_ (by decide)) rfl ?_
  refine h_evN (e_callR (bs := []) (wMul_ev (cut p 0 4) (wInv (cut p 8 4)) HYP_ HYP_) ok_78 (by kernel_rfl) (by kernel_rfl) rfl VAL_) APP_ rfl ?_
  refine h_val (v_fieldP rfl (fa_64_1 _ _)) rfl ?_
  refine h_val (v_loadW64 rfl rfl row_42 sz_42 LE_ (by decide)) rfl ?_
  refine h_val (v_loadR rfl rfl row_42 sz_42 EQ_ (by decide)) rfl ?_
  refine h_evN (e_callR (bs := []) (wMul_ev (cut p 4 4) (wInv (cut p 8 4)) HYP_ HYP_) ok_78 (by kernel_rfl) (by kernel_rfl) rfl VAL_) APP_ rfl ?_
  refine h_memN (m_alloc al_42 LEN_) APP_ rfl ?_
  refine h_memN (m_alloc al_42 LEN_) APP_ rfl ?_
  refine h_nil ?_
  refine s_storeR rfl rfl rfl rfl sz_42 EQ_ EQ_ SET_ ?_
  refine s_storeR rfl rfl rfl rfl sz_42 EQ_ EQ_ SET_ ?_
  refine s_nil ?_
  have hQ7 : (rB (wMul (cut p 4 4) (wInv (cut p 8 4)))).length = 32 := LQ_
  refine S_ ?_
  refine c_region ?_
  refine s_val (v_loadR rfl rfl row_42 sz_42 EQ_ (by decide)) rfl ?_
  refine s_evN (e_callR (bs := []) (rB_ev (wMul (cut p 4 4) (wInv (cut p 8 4))) HYP_) ok_21 (by kernel_rfl) (by kernel_rfl) rfl VAL_) APP_ rfl ?_
  refine s_memN (m_alloc al_22 LEN_) APP_ rfl ?_
  refine s_storeR rfl rfl rfl rfl sz_22 EQ_ EQ_ SET_ ?_
  refine s_nil ?_
  refine S_ ?_
  refine c_region ?_
  refine s_val (v_idxA1 (j := 0) rfl rfl Try.underlying42 sz_40 (by omega)) rfl ?_
  refine s_val (v_load64 rfl rfl row_40 LT_) rfl ?_
  refine s_val (v_and64 (b := 1#64) rfl rfl) rfl ?_
  refine s_val (v_eql64 (b := 1#64) rfl rfl) rfl ?_
  refine s_nil ?_
  refine Q_ ?_
  refine c_join [2, 6] (fun (zz : List (BitVec 8)) => ⟨29, keepT [2, 6] [.c (.ptr 0 0), .c (.ptr 1 0)], [.row true (.a8 (zer8 32)), .row true (.a8 (zz))]⟩) (if (((nth (wMul (cut p 0 4) (wInv (cut p 8 4))) 0) &&& 1#64) == 1#64) = true then put (rB (wMul (cut p 4 4) (wInv (cut p 8 4)))) 31 ((nth (rB (wMul (cut p 4 4) (wInv (cut p 8 4)))) 31) ||| 128#8) else rB (wMul (cut p 4 4) (wInv (cut p 8 4)))) rfl (fun hb => ?_) (fun hb => ?_) ?_
  · -- the test is True
    refine S_ ?_
    refine c_region ?_
    refine s_val (v_idxA1 (j := 31) rfl rfl Try.underlying22 sz_5 (by omega)) rfl ?_
    refine s_val (v_load8 rfl rfl row_5 LT_) rfl ?_
    refine s_val (v_or8 (b := 128#8) rfl rfl) rfl ?_
    refine s_val (v_idxA1 (j := 31) rfl rfl Try.underlying22 sz_5 (by omega)) rfl ?_
    refine s_store8 rfl rfl rfl sz_5 LT_ SET_ ?_
    refine s_nil ?_
    refine S_ ?_
    refine ⟨(put (rB (wMul (cut p 4 4) (wInv (cut p 8 4)))) 31 ((nth (rB (wMul (cut p 4 4) (wInv (cut p 8 4)))) 31) ||| 128#8)), by kernel_rfl, ?_⟩
    rw [if_pos (hb)]
  · -- the test is False
    refine S_ ?_
    refine ⟨(rB (wMul (cut p 4 4) (wInv (cut p 8 4)))), by kernel_rfl, ?_⟩
    rw [if_neg (by first | (rw [hb]; decide) | simp [hb])]
  have hJ8 : (if (((nth (wMul (cut p 0 4) (wInv (cut p 8 4))) 0) &&& 1#64) == 1#64) = true then put (rB (wMul (cut p 4 4) (wInv (cut p 8 4)))) 31 ((nth (rB (wMul (cut p 4 4) (wInv (cut p 8 4)))) 31) ||| 128#8) else rB (wMul (cut p 4 4) (wInv (cut p 8 4)))).length = 32 := by split <;> simp [*]
  generalize (if (((nth (wMul (cut p 0 4) (wInv (cut p 8 4))) 0) &&& 1#64) == 1#64) = true then put (rB (wMul (cut p 4 4) (wInv (cut p 8 4)))) 31 ((nth (rB (wMul (cut p 4 4) (wInv (cut p 8 4)))) 31) ||| 128#8) else rB (wMul (cut p 4 4) (wInv (cut p 8 4)))) = J8 at *
  refine S_ ?_
  refine c_region ?_
  refine s_val (v_loadR rfl rfl row_22 sz_22 EQ_ (by decide)) rfl ?_
  refine s_storeR rfl rfl rfl rfl sz_22 EQ_ EQ_ SET_ ?_
  refine s_nil ?_
  refine S_ ?_
  exact k_1 (r_row rfl rfl row_22 sz_22 EQ_ (by decide)) (by first | kernel_rfl | rfl)
end Go.Proofs.Ytcgncafhonlmlaa
namespace Go.Proofs.Ytcgncafhonlmlaa
open Go.RowKit
def rfEnc (p : List (BitVec 64)) : List (BitVec 8) := (if (((nth (wMul (cut p 0 4) (wInv (cut p 8 4))) 0) &&& 1#64) == 1#64) = true then put (rB (wMul (cut p 4 4) (wInv (cut p 8 4)))) 31 ((nth (rB (wMul (cut p 4 4) (wInv (cut p 8 4)))) 31) ||| 128#8) else rB (wMul (cut p 4 4) (wInv (cut p 8 4))))
theorem rfEnc_ev (p : List (BitVec 64)) (hp : p.length = 16) : Ev Try.prog (.call 53 [.agg (.a64 (p))] []) (.val (.agg (.a8 (rfEnc p))) []) := by
  unfold rfEnc
  exact rfEncG_ev p hp wMul wMul_len wMul_ev wInv wInv_len wInv_ev
@[simp] theorem rfEnc_len (p : List (BitVec 64)) (hp : p.length = 16) : (rfEnc p).length = 32 := by
  unfold rfEnc
  first | (simp [*]; done) | (split <;> simp [*])
attribute [irreducible] rfEnc
end Go.Proofs.Ytcgncafhonlmlaa
namespace Go.Proofs.Ytcgncafhonlmlaa
open Go.RowKit
set_option maxRecDepth 100000 in
set_option maxHeartbeats 2000000 in
theorem rfPlusG_ev (p : List (BitVec 64)) (q : List (BitVec 64)) (k : List (BitVec 64)) (hp : p.length = 16) (hq : q.length = 16) (hk : k.length = 4) (wMul : List (BitVec 64) → List (BitVec 64) → List (BitVec 64)) (wMul_len : ∀ a b : List (BitVec 64), (wMul a b).length = 4) (wMul_ev : ∀ a b : List (BitVec 64), a.length = 4 → b.length = 4 → Ev Try.prog (.call 78 [.agg (.a64 a), .agg (.a64 b)] []) (.val (.agg (.a64 (wMul a b))) [])) (wSub : List (BitVec 64) → List (BitVec 64) → List (BitVec 64)) (wSub_len : ∀ a b : List (BitVec 64), (wSub a b).length = 4) (wSub_ev : ∀ a b : List (BitVec 64), a.length = 4 → b.length = 4 → Ev Try.prog (.call 80 [.agg (.a64 a), .agg (.a64 b)] []) (.val (.agg (.a64 (wSub a b))) [])) (wAdd : List (BitVec 64) → List (BitVec 64) → List (BitVec 64)) (wAdd_len : ∀ a b : List (BitVec 64), (wAdd a b).length = 4) (wAdd_ev : ∀ a b : List (BitVec 64), a.length = 4 → b.length = 4 → Ev Try.prog (.call 82 [.agg (.a64 a), .agg (.a64 b)] []) (.val (.agg (.a64 (wAdd a b))) [])) : Ev Try.prog (.call 84 [.agg (.a64 (p)), .agg (.a64 (q)), .agg (.a64 (k))] []) (.val (.agg (.a64 ((wMul (wSub (wMul (wAdd (cut p 4 4) (cut p 0 4)) (wAdd (cut q 4 4) (cut q 0 4))) (wMul (wSub (cut p 4 4) (cut p 0 4)) (wSub (cut q 4 4) (cut q 0 4)))) (wSub (wAdd (wMul (cut p 8 4) (cut q 8 4)) (wMul (cut p 8 4) (cut q 8 4))) (wAdd (wMul (wMul (cut p 12 4) k) (cut q 12 4)) (wMul (wMul (cut p 12 4) k) (cut q 12 4))))) ++ (wMul (wAdd (wAdd (wMul (cut p 8 4) (cut q 8 4)) (wMul (cut p 8 4) (cut q 8 4))) (wAdd (wMul (wMul (cut p 12 4) k) (cut q 12 4)) (wMul (wMul (cut p 12 4) k) (cut q 12 4)))) (wAdd (wMul (wAdd (cut p 4 4) (cut p 0 4)) (wAdd (cut q 4 4) (cut q 0 4))) (wMul (wSub (cut p 4 4) (cut p 0 4)) (wSub (cut q 4 4) (cut q 0 4))))) ++ (wMul (wSub (wAdd (wMul (cut p 8 4) (cut q 8 4)) (wMul (cut p 8 4) (cut q 8 4))) (wAdd (wMul (wMul (cut p 12 4) k) (cut q 12 4)) (wMul (wMul (cut p 12 4) k) (cut q 12 4)))) (wAdd (wAdd (wMul (cut p 8 4) (cut q 8 4)) (wMul (cut p 8 4) (cut q 8 4))) (wAdd (wMul (wMul (cut p 12 4) k) (cut q 12 4)) (wMul (wMul (cut p 12 4) k) (cut q 12 4))))) ++ (wMul (wSub (wMul (wAdd (cut p 4 4) (cut p 0 4)) (wAdd (cut q 4 4) (cut q 0 4))) (wMul (wSub (cut p 4 4) (cut p 0 4)) (wSub (cut q 4 4) (cut q 0 4)))) (wAdd (wMul (wAdd (cut p 4 4) (cut p 0 4)) (wAdd (cut q 4 4) (cut q 0 4))) (wMul (wSub (cut p 4 4) (cut p 0 4)) (wSub (cut q 4 4) (cut q 0 4)))))))) []) := by
  refine c_call Try.func84 rfl Try.ntmps84 rfl LEN_ ?_
  refine S_ ?_
  refine c_region ?_
  refine s_memN (m_box BX_ LEN_) APP_ rfl ?_
  refine s_memN (m_box BX_ LEN_) APP_ rfl ?_
  refine s_memN (m_box BX_ LEN_) APP_ rfl ?_
  refine s_memN (m_alloc al_64 LEN_) APP_ rfl ?_
  refine s_nil ?_
  have hQ1 : (cut p 4 4).length = 4 := LQ_
  have hQ2 : (cut p 0 4).length = 4 := LQ_
  have hQ3 : (wSub (cut p 4 4) (cut p 0 4)).length = 4 := LQ_
  have hQ4 : (cut q 4 4).length = 4 := LQ_
  have hQ5 : (cut q 0 4).length = 4 := LQ_
  have hQ6 : (wSub (cut q 4 4) (cut q 0 4)).length = 4 := LQ_
  have hQ7 : (wMul (wSub (cut p 4 4) (cut p 0 4)) (wSub (cut q 4 4) (cut q 0 4))).length = 4 := LQ_
  refine S_ ?_
  refine c_draw 12 mixed (by kernel_rfl) rfl rfl rfl ?_
  refine h_val (v_fieldP rfl (fa_64_1 _ _)) rfl ?_
  refine h_val (v_loadW64 rfl rfl row_42 sz_42 LE_ (by decide)) rfl ?_
  refine h_val (v_fieldP rfl (fa_64_0 _ _)) rfl ?_
  refine h_val (v_loadW64 rfl rfl row_42 sz_42 LE_ (by decide)) rfl ?_
  refine h_evN (e_callR (bs := []) (wSub_ev (cut p 4 4) (cut p 0 4) HYP_ HYP_) ok_80 (by kernel_rfl) (by kernel_rfl) rfl VAL_) APP_ rfl ?_
  refine h_val (v_fieldP rfl (fa_64_1 _ _)) rfl ?_
  refine h_val (v_loadW64 rfl rfl row_42 sz_42 LE_ (by decide)) rfl ?_
  refine h_val (v_fieldP rfl (fa_64_0 _ _)) rfl ?_
  refine h_val (v_loadW64 rfl rfl row_42 sz_42 LE_ (by decide)) rfl ?_
  refine h_evN (e_callR (bs := []) (wSub_ev (cut q 4 4) (cut q 0 4) HYP_ HYP_) ok_80 (by kernel_rfl) (by kernel_rfl) rfl VAL_) APP_ rfl ?_
  refine h_evN (e_callR (bs := []) (wMul_ev (wSub (cut p 4 4) (cut p 0 4)) (wSub (cut q 4 4) (cut q 0 4)) HYP_ HYP_) ok_78 (by kernel_rfl) (by kernel_rfl) rfl VAL_) APP_ rfl ?_
  refine h_memN (m_alloc al_42 LEN_) APP_ rfl ?_
  refine h_nil ?_
  refine s_storeR rfl rfl rfl rfl sz_42 EQ_ EQ_ SET_ ?_
  refine s_nil ?_
  have hQ8 : (cut p 4 4).length = 4 := LQ_
  have hQ9 : (cut p 0 4).length = 4 := LQ_
  have hQ10 : (wAdd (cut p 4 4) (cut p 0 4)).length = 4 := LQ_
  have hQ11 : (cut q 4 4).length = 4 := LQ_
  have hQ12 : (cut q 0 4).length = 4 := LQ_
  have hQ13 : (wAdd (cut q 4 4) (cut q 0 4)).length = 4 := LQ_
  have hQ14 : (wMul (wAdd (cut p 4 4) (cut p 0 4)) (wAdd (cut q 4 4) (cut q 0 4))).length = 4 := LQ_
  refine S_ ?_
  refine c_draw 12 mixed (by kernel_rfl) rfl rfl rfl ?_
  refine h_val (v_fieldP rfl (fa_64_1 _ _)) rfl ?_
  refine h_val (v_loadW64 rfl rfl row_42 sz_42 LE_ (by decide)) rfl ?_
  refine h_val (v_fieldP rfl (fa_64_0 _ _)) rfl ?_
  refine h_val (v_loadW64 rfl rfl row_42 sz_42 LE_ (by decide)) rfl ?_
  refine h_evN (e_callR (bs := []) (wAdd_ev (cut p 4 4) (cut p 0 4) HYP_ HYP_) ok_82 (by kernel_rfl) (by kernel_rfl) rfl VAL_) APP_ rfl ?_
  refine h_val (v_fieldP rfl (fa_64_1 _ _)) rfl ?_
  refine h_val (v_loadW64 rfl rfl row_42 sz_42 LE_ (by decide)) rfl ?_
  refine h_val (v_fieldP rfl (fa_64_0 _ _)) rfl ?_
  refine h_val (v_loadW64 rfl rfl row_42 sz_42 LE_ (by decide)) rfl ?_
  refine h_evN (e_callR (bs := []) (wAdd_ev (cut q 4 4) (cut q 0 4) HYP_ HYP_) ok_82 (by kernel_rfl) (by kernel_rfl) rfl VAL_) APP_ rfl ?_
  refine h_evN (e_callR (bs := []) (wMul_ev (wAdd (cut p 4 4) (cut p 0 4)) (wAdd (cut q 4 4) (cut q 0 4)) HYP_ HYP_) ok_78 (by kernel_rfl) (by kernel_rfl) rfl VAL_) APP_ rfl ?_
  refine h_memN (m_alloc al_42 LEN_) APP_ rfl ?_
  refine h_nil ?_
  refine s_storeR rfl rfl rfl rfl sz_42 EQ_ EQ_ SET_ ?_
  refine s_nil ?_
  have hQ15 : (cut p 12 4).length = 4 := LQ_
  have hQ16 : (wMul (cut p 12 4) k).length = 4 := LQ_
  have hQ17 : (cut q 12 4).length = 4 := LQ_
  have hQ18 : (wMul (wMul (cut p 12 4) k) (cut q 12 4)).length = 4 := LQ_
  refine S_ ?_
  refine c_draw 8 mixed (by kernel_rfl) rfl rfl rfl ?_
  refine h_val (v_fieldP rfl (fa_64_3 _ _)) rfl ?_
  refine h_val (v_loadW64 rfl rfl row_42 sz_42 LE_ (by decide)) rfl ?_
  refine h_val (v_loadR rfl rfl row_42 sz_42 EQ_ (by decide)) rfl ?_
  refine h_evN (e_callR (bs := []) (wMul_ev (cut p 12 4) k HYP_ HYP_) ok_78 (by kernel_rfl) (by kernel_rfl) rfl VAL_) APP_ rfl ?_
  refine h_val (v_fieldP rfl (fa_64_3 _ _)) rfl ?_
  refine h_val (v_loadW64 rfl rfl row_42 sz_42 LE_ (by decide)) rfl ?_
  refine h_evN (e_callR (bs := []) (wMul_ev (wMul (cut p 12 4) k) (cut q 12 4) HYP_ HYP_) ok_78 (by kernel_rfl) (by kernel_rfl) rfl VAL_) APP_ rfl ?_
  refine h_memN (m_alloc al_42 LEN_) APP_ rfl ?_
  refine h_nil ?_
  refine s_storeR rfl rfl rfl rfl sz_42 EQ_ EQ_ SET_ ?_
  refine s_nil ?_
  have hQ19 : (wAdd (wMul (wMul (cut p 12 4) k) (cut q 12 4)) (wMul (wMul (cut p 12 4) k) (cut q 12 4))).length = 4 := LQ_
  refine S_ ?_
  refine c_region ?_
  refine s_val (v_loadR rfl rfl row_42 sz_42 EQ_ (by decide)) rfl ?_
  refine s_val (v_loadR rfl rfl row_42 sz_42 EQ_ (by decide)) rfl ?_
  refine s_evN (e_callR (bs := []) (wAdd_ev (wMul (wMul (cut p 12 4) k) (cut q 12 4)) (wMul (wMul (cut p 12 4) k) (cut q 12 4)) HYP_ HYP_) ok_82 (by kernel_rfl) (by kernel_rfl) rfl VAL_) APP_ rfl ?_
  refine s_storeR rfl rfl rfl rfl sz_42 EQ_ EQ_ SET_ ?_
  refine s_nil ?_
  have hQ20 : (cut p 8 4).length = 4 := LQ_
  have hQ21 : (cut q 8 4).length = 4 := LQ_
  have hQ22 : (wMul (cut p 8 4) (cut q 8 4)).length = 4 := LQ_
  refine S_ ?_
  refine c_region ?_
  refine s_val (v_fieldP rfl (fa_64_2 _ _)) rfl ?_
  refine s_val (v_loadW64 rfl rfl row_42 sz_42 LE_ (by decide)) rfl ?_
  refine s_val (v_fieldP rfl (fa_64_2 _ _)) rfl ?_
  refine s_val (v_loadW64 rfl rfl row_42 sz_42 LE_ (by decide)) rfl ?_
  refine s_evN (e_callR (bs := []) (wMul_ev (cut p 8 4) (cut q 8 4) HYP_ HYP_) ok_78 (by kernel_rfl) (by kernel_rfl) rfl VAL_) APP_ rfl ?_
  refine s_memN (m_alloc al_42 LEN_) APP_ rfl ?_
  refine s_storeR rfl rfl rfl rfl sz_42 EQ_ EQ_ SET_ ?_
  refine s_nil ?_
  have hQ23 : (wAdd (wMul (cut p 8 4) (cut q 8 4)) (wMul (cut p 8 4) (cut q 8 4))).length = 4 := LQ_
  refine S_ ?_
  refine c_region ?_
  refine s_val (v_loadR rfl rfl row_42 sz_42 EQ_ (by decide)) rfl ?_
  refine s_val (v_loadR rfl rfl row_42 sz_42 EQ_ (by decide)) rfl ?_
  refine s_evN (e_callR (bs := []) (wAdd_ev (wMul (cut p 8 4) (cut q 8 4)) (wMul (cut p 8 4) (cut q 8 4)) HYP_ HYP_) ok_82 (by kernel_rfl) (by kernel_rfl) rfl VAL_) APP_ rfl ?_
  refine s_storeR rfl rfl rfl rfl sz_42 EQ_ EQ_ SET_ ?_
  refine s_nil ?_
  have hQ24 : (wSub (wMul (wAdd (cut p 4 4) (cut p 0 4)) (wAdd (cut q 4 4) (cut q 0 4))) (wMul (wSub (cut p 4 4) (cut p 0 4)) (wSub (cut q 4 4) (cut q 0 4)))).length = 4 := LQ_
  have hQ25 : (wSub (wAdd (wMul (cut p 8 4) (cut q 8 4)) (wMul (cut p 8 4) (cut q 8 4))) (wAdd (wMul (wMul (cut p 12 4) k) (cut q 12 4)) (wMul (wMul (cut p 12 4) k) (cut q 12 4)))).length = 4 := LQ_
  have hQ26 : (wAdd (wAdd (wMul (cut p 8 4) (cut q 8 4)) (wMul (cut p 8 4) (cut q 8 4))) (wAdd (wMul (wMul (cut p 12 4) k) (cut q 12 4)) (wMul (wMul (cut p 12 4) k) (cut q 12 4)))).length = 4 := LQ_
  have hQ27 : (wAdd (wMul (wAdd (cut p 4 4) (cut p 0 4)) (wAdd (cut q 4 4) (cut q 0 4))) (wMul (wSub (cut p 4 4) (cut p 0 4)) (wSub (cut q 4 4) (cut q 0 4)))).length = 4 := LQ_
  refine S_ ?_
  refine c_draw 16 mixed (by kernel_rfl) rfl rfl rfl ?_
  refine h_val (v_loadR rfl rfl row_42 sz_42 EQ_ (by decide)) rfl ?_
  refine h_val (v_loadR rfl rfl row_42 sz_42 EQ_ (by decide)) rfl ?_
  refine h_evN (e_callR (bs := []) (wSub_ev (wMul (wAdd (cut p 4 4) (cut p 0 4)) (wAdd (cut q 4 4) (cut q 0 4))) (wMul (wSub (cut p 4 4) (cut p 0 4)) (wSub (cut q 4 4) (cut q 0 4))) HYP_ HYP_) ok_80 (by kernel_rfl) (by kernel_rfl) rfl VAL_) APP_ rfl ?_
  refine h_val (v_loadR rfl rfl row_42 sz_42 EQ_ (by decide)) rfl ?_
  refine h_val (v_loadR rfl rfl row_42 sz_42 EQ_ (by decide)) rfl ?_
  refine h_evN (e_callR (bs := []) (wSub_ev (wAdd (wMul (cut p 8 4) (cut q 8 4)) (wMul (cut p 8 4) (cut q 8 4))) (wAdd (wMul (wMul (cut p 12 4) k) (cut q 12 4)) (wMul (wMul (cut p 12 4) k) (cut q 12 4))) HYP_ HYP_) ok_80 (by kernel_rfl) (by kernel_rfl) rfl VAL_) APP_ rfl ?_
  refine h_val (v_loadR rfl rfl row_42 sz_42 EQ_ (by decide)) rfl ?_
  refine h_val (v_loadR rfl rfl row_42 sz_42 EQ_ (by decide)) rfl ?_
  refine h_evN (e_callR (bs := []) (wAdd_ev (wAdd (wMul (cut p 8 4) (cut q 8 4)) (wMul (cut p 8 4) (cut q 8 4))) (wAdd (wMul (wMul (cut p 12 4) k) (cut q 12 4)) (wMul (wMul (cut p 12 4) k) (cut q 12 4))) HYP_ HYP_) ok_82 (by kernel_rfl) (by kernel_rfl) rfl VAL_) APP_ rfl ?_
  refine h_val (v_loadR rfl rfl row_42 sz_42 EQ_ (by decide)) rfl ?_
  refine h_val (v_loadR rfl rfl row_42 sz_42 EQ_ (by decide)) rfl ?_
  refine h_evN (e_callR (bs := []) (wAdd_ev (wMul (wAdd (cut p 4 4) (cut p 0 4)) (wAdd (cut q 4 4) (cut q 0 4))) (wMul (wSub (cut p 4 4) (cut p 0 4)) (wSub (cut q 4 4) (cut q 0 4))) HYP_ HYP_) ok_82 (by kernel_rfl) (by kernel_rfl) rfl VAL_) APP_ rfl ?_
  refine h_memN (m_alloc al_42 LEN_) APP_ rfl ?_
  refine h_memN (m_alloc al_42 LEN_) APP_ rfl ?_
  refine h_memN (m_alloc al_42 LEN_) APP_ rfl ?_
  refine h_memN (m_alloc al_42 LEN_) APP_ rfl ?_
  refine h_nil ?_
  refine s_storeR rfl rfl rfl rfl sz_42 EQ_ EQ_ SET_ ?_
  refine s_storeR rfl rfl rfl rfl sz_42 EQ_ EQ_ SET_ ?_
  refine s_storeR rfl rfl rfl rfl sz_42 EQ_ EQ_ SET_ ?_
  refine s_storeR rfl rfl rfl rfl sz_42 EQ_ EQ_ SET_ ?_
  refine s_nil ?_
  have hQ28 : (wMul (wSub (wMul (wAdd (cut p 4 4) (cut p 0 4)) (wAdd (cut q 4 4) (cut q 0 4))) (wMul (wSub (cut p 4 4) (cut p 0 4)) (wSub (cut q 4 4) (cut q 0 4)))) (wSub (wAdd (wMul (cut p 8 4) (cut q 8 4)) (wMul (cut p 8 4) (cut q 8 4))) (wAdd (wMul (wMul (cut p 12 4) k) (cut q 12 4)) (wMul (wMul (cut p 12 4) k) (cut q 12 4))))).length = 4 := LQ_
  have hQ29 : (wMul (wAdd (wAdd (wMul (cut p 8 4) (cut q 8 4)) (wMul (cut p 8 4) (cut q 8 4))) (wAdd (wMul (wMul (cut p 12 4) k) (cut q 12 4)) (wMul (wMul (cut p 12 4) k) (cut q 12 4)))) (wAdd (wMul (wAdd (cut p 4 4) (cut p 0 4)) (wAdd (cut q 4 4) (cut q 0 4))) (wMul (wSub (cut p 4 4) (cut p 0 4)) (wSub (cut q 4 4) (cut q 0 4))))).length = 4 := LQ_
  have hQ30 : (wMul (wSub (wAdd (wMul (cut p 8 4) (cut q 8 4)) (wMul (cut p 8 4) (cut q 8 4))) (wAdd (wMul (wMul (cut p 12 4) k) (cut q 12 4)) (wMul (wMul (cut p 12 4) k) (cut q 12 4)))) (wAdd (wAdd (wMul (cut p 8 4) (cut q 8 4)) (wMul (cut p 8 4) (cut q 8 4))) (wAdd (wMul (wMul (cut p 12 4) k) (cut q 12 4)) (wMul (wMul (cut p 12 4) k) (cut q 12 4))))).length = 4 := LQ_
  have hQ31 : (wMul (wSub (wMul (wAdd (cut p 4 4) (cut p 0 4)) (wAdd (cut q 4 4) (cut q 0 4))) (wMul (wSub (cut p 4 4) (cut p 0 4)) (wSub (cut q 4 4) (cut q 0 4)))) (wAdd (wMul (wAdd (cut p 4 4) (cut p 0 4)) (wAdd (cut q 4 4) (cut q 0 4))) (wMul (wSub (cut p 4 4) (cut p 0 4)) (wSub (cut q 4 4) (cut q 0 4))))).length = 4 := LQ_
  refine S_ ?_
  refine c_draw 13 mixed (by kernel_rfl) rfl rfl rfl ?_
  refine h_val (v_loadR rfl rfl row_42 sz_42 EQ_ (by decide)) rfl ?_
  refine h_val (v_loadR rfl rfl row_42 sz_42 EQ_ (by decide)) rfl ?_
  refine h_evN (e_callR (bs := []) (wMul_ev (wSub (wMul (wAdd (cut p 4 4) (cut p 0 4)) (wAdd (cut q 4 4) (cut q 0 4))) (wMul (wSub (cut p 4 4) (cut p 0 4)) (wSub (cut q 4 4) (cut q 0 4)))) (wSub (wAdd (wMul (cut p 8 4) (cut q 8 4)) (wMul (cut p 8 4) (cut q 8 4))) (wAdd (wMul (wMul (cut p 12 4) k) (cut q 12 4)) (wMul (wMul (cut p 12 4) k) (cut q 12 4)))) HYP_ HYP_) ok_78 (by kernel_rfl) (by kernel_rfl) rfl VAL_) APP_ rfl ?_
  refine h_val (v_loadR rfl rfl row_42 sz_42 EQ_ (by decide)) rfl ?_
  refine h_val (v_loadR rfl rfl row_42 sz_42 EQ_ (by decide)) rfl ?_
  refine h_evN (e_callR (bs := []) (wMul_ev (wAdd (wAdd (wMul (cut p 8 4) (cut q 8 4)) (wMul (cut p 8 4) (cut q 8 4))) (wAdd (wMul (wMul (cut p 12 4) k) (cut q 12 4)) (wMul (wMul (cut p 12 4) k) (cut q 12 4)))) (wAdd (wMul (wAdd (cut p 4 4) (cut p 0 4)) (wAdd (cut q 4 4) (cut q 0 4))) (wMul (wSub (cut p 4 4) (cut p 0 4)) (wSub (cut q 4 4) (cut q 0 4)))) HYP_ HYP_) ok_78 (by kernel_rfl) (by kernel_rfl) rfl VAL_) APP_ rfl ?_
  refine h_val (v_loadR rfl rfl row_42 sz_42 EQ_ (by decide)) rfl ?_
  refine h_val (v_loadR rfl rfl row_42 sz_42 EQ_ (by decide)) rfl ?_
  refine h_evN (e_callR (bs := []) (wMul_ev (wSub (wAdd (wMul (cut p 8 4) (cut q 8 4)) (wMul (cut p 8 4) (cut q 8 4))) (wAdd (wMul (wMul (cut p 12 4) k) (cut q 12 4)) (wMul (wMul (cut p 12 4) k) (cut q 12 4)))) (wAdd (wAdd (wMul (cut p 8 4) (cut q 8 4)) (wMul (cut p 8 4) (cut q 8 4))) (wAdd (wMul (wMul (cut p 12 4) k) (cut q 12 4)) (wMul (wMul (cut p 12 4) k) (cut q 12 4)))) HYP_ HYP_) ok_78 (by kernel_rfl) (by kernel_rfl) rfl VAL_) APP_ rfl ?_
  refine h_val (v_loadR rfl rfl row_42 sz_42 EQ_ (by decide)) rfl ?_
  refine h_val (v_loadR rfl rfl row_42 sz_42 EQ_ (by decide)) rfl ?_
  refine h_evN (e_callR (bs := []) (wMul_ev (wSub (wMul (wAdd (cut p 4 4) (cut p 0 4)) (wAdd (cut q 4 4) (cut q 0 4))) (wMul (wSub (cut p 4 4) (cut p 0 4)) (wSub (cut q 4 4) (cut q 0 4)))) (wAdd (wMul (wAdd (cut p 4 4) (cut p 0 4)) (wAdd (cut q 4 4) (cut q 0 4))) (wMul (wSub (cut p 4 4) (cut p 0 4)) (wSub (cut q 4 4) (cut q 0 4)))) HYP_ HYP_) ok_78 (by kernel_rfl) (by kernel_rfl) rfl VAL_) APP_ rfl ?_
  refine h_val (v_bld4 rfl rfl rfl rfl (bs_64 EQL_ EQL_ EQL_ EQL_)) rfl ?_
  refine h_nil ?_
  refine s_storeR rfl rfl rfl rfl sz_64 EQ_ EQ_ SET_ ?_
  refine s_nil ?_
  refine S_ ?_
  exact k_1 (r_row rfl rfl row_64 sz_64 EQ_ (by decide)) (by first | kernel_rfl | rfl)
end Go.Proofs.Ytcgncafhonlmlaa
namespace Go.Proofs.Ytcgncafhonlmlaa
open Go.RowKit
def rfPlus (p : List (BitVec 64)) (q : List (BitVec 64)) (k : List (BitVec 64)) : List (BitVec 64) := (wMul (wSub (wMul (wAdd (cut p 4 4) (cut p 0 4)) (wAdd (cut q 4 4) (cut q 0 4))) (wMul (wSub (cut p 4 4) (cut p 0 4)) (wSub (cut q 4 4) (cut q 0 4)))) (wSub (wAdd (wMul (cut p 8 4) (cut q 8 4)) (wMul (cut p 8 4) (cut q 8 4))) (wAdd (wMul (wMul (cut p 12 4) k) (cut q 12 4)) (wMul (wMul (cut p 12 4) k) (cut q 12 4))))) ++ (wMul (wAdd (wAdd (wMul (cut p 8 4) (cut q 8 4)) (wMul (cut p 8 4) (cut q 8 4))) (wAdd (wMul (wMul (cut p 12 4) k) (cut q 12 4)) (wMul (wMul (cut p 12 4) k) (cut q 12 4)))) (wAdd (wMul (wAdd (cut p 4 4) (cut p 0 4)) (wAdd (cut q 4 4) (cut q 0 4))) (wMul (wSub (cut p 4 4) (cut p 0 4)) (wSub (cut q 4 4) (cut q 0 4))))) ++ (wMul (wSub (wAdd (wMul (cut p 8 4) (cut q 8 4)) (wMul (cut p 8 4) (cut q 8 4))) (wAdd (wMul (wMul (cut p 12 4) k) (cut q 12 4)) (wMul (wMul (cut p 12 4) k) (cut q 12 4)))) (wAdd (wAdd (wMul (cut p 8 4) (cut q 8 4)) (wMul (cut p 8 4) (cut q 8 4))) (wAdd (wMul (wMul (cut p 12 4) k) (cut q 12 4)) (wMul (wMul (cut p 12 4) k) (cut q 12 4))))) ++ (wMul (wSub (wMul (wAdd (cut p 4 4) (cut p 0 4)) (wAdd (cut q 4 4) (cut q 0 4))) (wMul (wSub (cut p 4 4) (cut p 0 4)) (wSub (cut q 4 4) (cut q 0 4)))) (wAdd (wMul (wAdd (cut p 4 4) (cut p 0 4)) (wAdd (cut q 4 4) (cut q 0 4))) (wMul (wSub (cut p 4 4) (cut p 0 4)) (wSub (cut q 4 4) (cut q 0 4)))))
theorem rfPlus_ev (p : List (BitVec 64)) (q : List (BitVec 64)) (k : List (BitVec 64)) (hp : p.length = 16) (hq : q.length = 16) (hk : k.length = 4) : Ev Try.prog (.call 84 [.agg (.a64 (p)), .agg (.a64 (q)), .agg (.a64 (k))] []) (.val (.agg (.a64 (rfPlus p q k))) []) := by
  unfold rfPlus
  exact rfPlusG_ev p q k hp hq hk wMul wMul_len wMul_ev wSub wSub_len wSub_ev wAdd wAdd_len wAdd_ev
@[simp] theorem rfPlus_len (p : List (BitVec 64)) (q : List (BitVec 64)) (k : List (BitVec 64)) (hp : p.length = 16) (hq : q.length = 16) (hk : k.length = 4) : (rfPlus p q k).length = 16 := by
  unfold rfPlus
  first | (simp [*]; done) | (split <;> simp [*])
attribute [irreducible] rfPlus
end Go.Proofs.Ytcgncafhonlmlaa
namespace Go.Proofs.Ytcgncafhonlmlaa
open Go.RowKit
def rfMlt_L4_S (n : List (BitVec 64)) (p : List (BitVec 64)) (X3 : List (BitVec 64)) (j4 : Nat) : List (BitVec 64) := (if ((((nth n ((255 - j4) / 64)) >>> (BitVec.ofNat 64 ((255 - j4) % 64)).toNat) &&& 1#64) == 1#64) = true then rfPlus (rfPlus X3 X3 rfD) p rfD else rfPlus X3 X3 rfD)
def rfMlt_L4 (n : List (BitVec 64)) (p : List (BitVec 64)) : Nat → List (BitVec 64)
  | 0 => rfZero
  | j4 + 1 => rfMlt_L4_S n p (rfMlt_L4 n p j4) j4
theorem rfMlt_L4_len (n : List (BitVec 64)) (p : List (BitVec 64)) (hn : n.length = 4) (hp : p.length = 16) (j4 : Nat) : (rfMlt_L4 n p j4).length = 16 := by
  induction j4 with
  | zero => first | (simp (maxDischargeDepth := 9) [rfMlt_L4, *]; done) | (simp (maxDischargeDepth := 9) [rfMlt_L4, *]; omega)
  | succ j4 ih => rw [rfMlt_L4.eq_2, rfMlt_L4_S]; first | (simp (maxDischargeDepth := 9) [ih]; done) | (simp (maxDischargeDepth := 9) [ih]; omega) | (simp (maxDischargeDepth := 9) [*]; done) | (simp (maxDischargeDepth := 9) [*]; omega) | (split <;> first | (simp (maxDischargeDepth := 9) [ih]; done) | (simp (maxDischargeDepth := 9) [ih]; omega) | (simp (maxDischargeDepth := 9) [*]; done))
def rfMlt (n : List (BitVec 64)) (p : List (BitVec 64)) : List (BitVec 64) := (rfMlt_L4 n p 256)
set_option maxRecDepth 100000 in
set_option maxHeartbeats 2000000 in
theorem rfMlt_ev (n : List (BitVec 64)) (p : List (BitVec 64)) (hn : n.length = 4) (hp : p.length = 16) : Ev Try.prog (.call 54 [.agg (.a64 (n)), .agg (.a64 (p))] []) (.val (.agg (.a64 (rfMlt n p))) []) := by
  have hP : Hid (rfMlt n p = (rfMlt_L4 n p 256)) := ⟨rfl⟩
  refine c_call Try.func54 rfl Try.ntmps54 rfl LEN_ ?_
  refine S_ ?_
  refine c_region ?_
  refine s_memN (m_box BX_ LEN_) APP_ rfl ?_
  refine s_memN (m_box BX_ LEN_) APP_ rfl ?_
  refine s_memN (m_alloc al_64 LEN_) APP_ rfl ?_
  refine s_nil ?_
  have hQ1 : (rfD).length = 4 := LQ_
  refine S_ ?_
  refine c_region ?_
  refine s_evN (e_callR (bs := []) (rfD_ev) ok_83 (by kernel_rfl) (by kernel_rfl) rfl VAL_) APP_ rfl ?_
  refine s_memN (m_alloc al_42 LEN_) APP_ rfl ?_
  refine s_storeR rfl rfl rfl rfl sz_42 EQ_ EQ_ SET_ ?_
  refine s_nil ?_
  have hQ2 : (rfZero).length = 16 := LQ_
  refine S_ ?_
  refine c_region ?_
  refine s_evN (e_callR (bs := []) (rfZero_ev) ok_93 (by kernel_rfl) (by kernel_rfl) rfl VAL_) APP_ rfl ?_
  refine s_memN (m_alloc al_64 LEN_) APP_ rfl ?_
  refine s_storeR rfl rfl rfl rfl sz_64 EQ_ EQ_ SET_ ?_
  refine s_nil ?_
  refine S_ ?_
  refine c_region ?_
  refine s_val (v_assignC rfl) rfl ?_
  refine s_nil ?_
  refine S_ ?_
  refine c_loopC [2, 3, 4, 5, 6, 7] (fun (zz : Nat × List (BitVec 64)) => ⟨33, keepT [2, 3, 4, 5, 6, 7] [.c (.ptr 0 0), .c (.ptr 1 0), .c (.ptr 2 0), .c (.ptr 3 0), .c (.ptr 4 0), .c (.val (.int .i64 (((255 : Nat) : Int) - ((zz.1 : Nat) : Int))))], [.row true (.a64 (n)), .row true (.a64 (p)), .row true (.a64 (zer64 16)), .row true (.a64 (rfD)), .row true (.a64 (zz.2))]⟩) (fun j4 => (j4, rfMlt_L4 n p j4)) (256) (by kernel_rfl) ?_ ?_
  · intro j4 hj4
    try dsimp only
    have hX3 : (rfMlt_L4 n p j4).length = 16 := by rw [rfMlt_L4_len n p hn hp _]; try omega
    rw [rfMlt_L4.eq_2, rfMlt_L4_S]
    generalize rfMlt_L4 n p j4 = X3 at *
    rw [show ((255 : Nat) : Int) - ((j4 : Nat) : Int) = ((255 - j4 : Nat) : Int) from by omega]
    refine S_ ?_
    refine c_region ?_
    refine s_val (v_moveC rfl) rfl ?_
    refine s_val (v_geqN (b := 0) rfl rfl) rfl ?_
    refine s_nil ?_
    have hQ4 : (rfPlus X3 X3 rfD).length = 16 := LQ_
    refine S_ ?_
    refine c_region ?_
    refine s_val (v_loadR rfl rfl row_64 sz_64 EQ_ (by decide)) rfl ?_
    refine s_val (v_loadR rfl rfl row_64 sz_64 EQ_ (by decide)) rfl ?_
    refine s_val (v_loadR rfl rfl row_42 sz_42 EQ_ (by decide)) rfl ?_
    refine s_evN (e_callR (bs := []) (rfPlus_ev X3 X3 rfD HYP_ HYP_ HYP_) ok_84 (by kernel_rfl) (by kernel_rfl) rfl VAL_) APP_ rfl ?_
    refine s_storeR rfl rfl rfl rfl sz_64 EQ_ EQ_ SET_ ?_
    refine s_nil ?_
    refine S_ ?_
    refine c_region ?_
    refine s_val (v_moveC rfl) rfl ?_
    refine s_val (v_quoN (b := 64) rfl rfl (by omega) (by omega)) rfl ?_
    refine s_val (v_idxA1 rfl rfl Try.underlying42 sz_40 (by omega)) rfl ?_
    refine s_val (v_load64 rfl rfl row_40 LT_) rfl ?_
    refine s_val (v_moveC rfl) rfl ?_
    refine s_val (v_remN (b := 64) rfl rfl (by omega) (by omega)) rfl ?_
    refine s_val (v_conv rfl Try.underlying3 Try.underlying72 (wi_64 _)) rfl ?_
    refine s_val (v_shr64w rfl rfl) rfl ?_
    refine s_val (v_and64 (b := 1#64) rfl rfl) rfl ?_
    refine s_val (v_eql64 (b := 1#64) rfl rfl) rfl ?_
    refine s_nil ?_
    refine Q_ ?_
    refine c_join [2, 3, 4, 5, 6, 7] (fun (zz : List (BitVec 64)) => ⟨33, keepT [2, 3, 4, 5, 6, 7] [.c (.ptr 0 0), .c (.ptr 1 0), .c (.ptr 2 0), .c (.ptr 3 0), .c (.ptr 4 0), .c (.val (.int .i64 (((255 - j4 : Nat) : Int))))], [.row true (.a64 (n)), .row true (.a64 (p)), .row true (.a64 (zer64 16)), .row true (.a64 (rfD)), .row true (.a64 (zz))]⟩) (if ((((nth n ((255 - j4) / 64)) >>> (BitVec.ofNat 64 ((255 - j4) % 64)).toNat) &&& 1#64) == 1#64) = true then rfPlus (rfPlus X3 X3 rfD) p rfD else rfPlus X3 X3 rfD) rfl (fun hb => ?_) (fun hb => ?_) ?_
    · -- the test is True
      have hQ6 : (rfPlus (rfPlus X3 X3 rfD) p rfD).length = 16 := LQ_
      refine S_ ?_
      refine c_region ?_
      refine s_val (v_loadR rfl rfl row_64 sz_64 EQ_ (by decide)) rfl ?_
      refine s_val (v_loadR rfl rfl row_64 sz_64 EQ_ (by decide)) rfl ?_
      refine s_val (v_loadR rfl rfl row_42 sz_42 EQ_ (by decide)) rfl ?_
      refine s_evN (e_callR (bs := []) (rfPlus_ev (rfPlus X3 X3 rfD) p rfD HYP_ HYP_ HYP_) ok_84 (by kernel_rfl) (by kernel_rfl) rfl VAL_) APP_ rfl ?_
      refine s_storeR rfl rfl rfl rfl sz_64 EQ_ EQ_ SET_ ?_
      refine s_nil ?_
      refine S_ ?_
      refine ⟨(rfPlus (rfPlus X3 X3 rfD) p rfD), by kernel_rfl, ?_⟩
      rw [if_pos (hb)]
    · -- the test is False
      refine S_ ?_
      refine ⟨(rfPlus X3 X3 rfD), by kernel_rfl, ?_⟩
      rw [if_neg (by first | (rw [hb]; decide) | simp [hb])]
    have hJ5 : (if ((((nth n ((255 - j4) / 64)) >>> (BitVec.ofNat 64 ((255 - j4) % 64)).toNat) &&& 1#64) == 1#64) = true then rfPlus (rfPlus X3 X3 rfD) p rfD else rfPlus X3 X3 rfD).length = 16 := by split <;> simp [*]
    generalize (if ((((nth n ((255 - j4) / 64)) >>> (BitVec.ofNat 64 ((255 - j4) % 64)).toNat) &&& 1#64) == 1#64) = true then rfPlus (rfPlus X3 X3 rfD) p rfD else rfPlus X3 X3 rfD) = J5 at *
    refine S_ ?_
    refine c_region ?_
    refine s_val (v_moveC rfl) rfl ?_
    first
      | refine s_val (v_subN (b := 1) rfl rfl (by omega) (by omega)) rfl ?_
      | refine s_val (v_subI rfl rfl (by omega)) rfl ?_
    refine s_val (v_assignC rfl) rfl ?_
    refine s_nil ?_
    refine ⟨(j4 + 1, _), (by
      dsimp only
      rw [show ((255 : Nat) : Int) - ((j4 + 1 : Nat) : Int) = ((255 - j4 : Nat) : Int) - 1 from by omega]
      kernel_rfl), rfl⟩
  · try dsimp only
    have hY7 : (rfMlt_L4 n p 256).length = 16 := by rw [rfMlt_L4_len n p hn hp _]; try omega
    generalize rfMlt_L4 n p 256 = Y7 at *
    refine S_ ?_
    refine c_region ?_
    refine s_val (v_moveC rfl) rfl ?_
    refine s_val (v_geqI rfl rfl) rfl ?_
    refine s_nil ?_
    refine S_ ?_
    refine c_region ?_
    refine s_val (v_loadR rfl rfl row_64 sz_64 EQ_ (by decide)) rfl ?_
    refine s_storeR rfl rfl rfl rfl sz_64 EQ_ EQ_ SET_ ?_
    refine s_nil ?_
    refine S_ ?_
    rw [hP.out]
    exact k_1 (r_row rfl rfl row_64 sz_64 EQ_ (by decide)) (by first | kernel_rfl | rfl)
@[simp] theorem rfMlt_len (n : List (BitVec 64)) (p : List (BitVec 64)) (hn : n.length = 4) (hp : p.length = 16) : (rfMlt n p).length = 16 := by
  unfold rfMlt
  first | (simp (maxDischargeDepth := 9) [rfMlt_L4_len, *]; done) | (simp (maxDischargeDepth := 9) [rfMlt_L4_len, *]; omega) | (split <;> (simp (maxDischargeDepth := 9) [rfMlt_L4_len, *]; done))
attribute [irreducible] rfMlt
end Go.Proofs.Ytcgncafhonlmlaa
namespace Go.Proofs.Ytcgncafhonlmlaa
open Go.RowKit
def rfRootA0 (a : List (BitVec 64)) : List (BitVec 64) := (if (((nth (wPow (wMod a) (rfHalf (rfHalf (rfHalf (rfadd0 rfP (put (zer64 4) 0 3#64)))))) 0) &&& 1#64) == 1#64) = true then wSub (zer64 4) (wPow (wMod a) (rfHalf (rfHalf (rfHalf (rfadd0 rfP (put (zer64 4) 0 3#64)))))) else wPow (wMod a) (rfHalf (rfHalf (rfHalf (rfadd0 rfP (put (zer64 4) 0 3#64))))))
set_option maxRecDepth 100000 in
set_option maxHeartbeats 2000000 in
theorem rfRootA_ev (a : List (BitVec 64)) (ha : a.length = 4) (hx : ZW a ^ eRoot * ZW a ^ eRoot = ZW a) : Ev Try.prog (.call 79 [.agg (.a64 (a))] []) (.val (.tup [.agg (.a64 (rfRootA0 a)), .c (.val (.bool (true)))]) []) := by
  have hP_rfRootA0 : Hid (rfRootA0 a = (if (((nth (wPow (wMod a) (rfHalf (rfHalf (rfHalf (rfadd0 rfP (put (zer64 4) 0 3#64)))))) 0) &&& 1#64) == 1#64) = true then wSub (zer64 4) (wPow (wMod a) (rfHalf (rfHalf (rfHalf (rfadd0 rfP (put (zer64 4) 0 3#64)))))) else wPow (wMod a) (rfHalf (rfHalf (rfHalf (rfadd0 rfP (put (zer64 4) 0 3#64))))))) := ⟨rfl⟩
  refine c_call Try.func79 rfl Try.ntmps79 rfl LEN_ ?_
  refine S_ ?_
  refine c_region ?_
  refine s_memN (m_box BX_ LEN_) APP_ rfl ?_
  refine s_memN (m_alloc al_42 LEN_) APP_ rfl ?_
  refine s_val (v_assignC rfl) rfl ?_
  refine s_nil ?_
  have hQ1 : (wMod a).length = 4 := LQ_
  refine S_ ?_
  refine c_region ?_
  refine s_val (v_loadR rfl rfl row_42 sz_42 EQ_ (by decide)) rfl ?_
  refine s_evN (e_callR (bs := []) (wMod_ev a HYP_) ok_99 (by kernel_rfl) (by kernel_rfl) rfl VAL_) APP_ rfl ?_
  refine s_storeR rfl rfl rfl rfl sz_42 EQ_ EQ_ SET_ ?_
  refine s_nil ?_
  have hQ2 : (rfP).length = 4 := LQ_
  have hQ3 : (rfadd0 rfP (put (zer64 4) 0 3#64)).length = 4 := LQ_
  refine S_ ?_
  refine c_region ?_
  refine s_evN (e_callR (bs := []) (rfP_ev) ok_77 (by kernel_rfl) (by kernel_rfl) rfl VAL_) APP_ rfl ?_
  refine s_val (v_blf64 (l := (put (zer64 4) 0 (3#64))) za_42 Try.underlying42 sz_40 rfl rfl) rfl ?_
  refine s_evN (e_callR (bs := []) (rfadd_ev rfP (put (zer64 4) 0 3#64) HYP_ HYP_) ok_94 (by kernel_rfl) (by kernel_rfl) rfl VAL_) APP_ rfl ?_
  refine s_val (v_moveT rfl) rfl ?_
  refine s_val (v_extract rfl rfl) rfl ?_
  refine s_val (v_extract rfl rfl) rfl ?_
  refine s_memN (m_alloc al_42 LEN_) APP_ rfl ?_
  refine s_storeR rfl rfl rfl rfl sz_42 EQ_ EQ_ SET_ ?_
  refine s_val (v_assignC rfl) rfl ?_
  refine s_nil ?_
  have hQ4 : (rfHalf (rfadd0 rfP (put (zer64 4) 0 3#64))).length = 4 := LQ_
  have hQ5 : (rfHalf (rfHalf (rfadd0 rfP (put (zer64 4) 0 3#64)))).length = 4 := LQ_
  have hQ6 : (rfHalf (rfHalf (rfHalf (rfadd0 rfP (put (zer64 4) 0 3#64))))).length = 4 := LQ_
  have hQ7 : (wPow (wMod a) (rfHalf (rfHalf (rfHalf (rfadd0 rfP (put (zer64 4) 0 3#64)))))).length = 4 := LQ_
  refine S_ ?_
  refine c_draw 7 mixed (by kernel_rfl) rfl rfl rfl ?_
  refine h_val (v_loadR rfl rfl row_42 sz_42 EQ_ (by decide)) rfl ?_
  refine h_val (v_loadR rfl rfl row_42 sz_42 EQ_ (by decide)) rfl ?_
  refine h_evN (e_callR (bs := []) (rfHalf_ev (rfadd0 rfP (put (zer64 4) 0 3#64)) HYP_) ok_101 (by kernel_rfl) (by kernel_rfl) rfl VAL_) APP_ rfl ?_
  refine h_evN (e_callR (bs := []) (rfHalf_ev (rfHalf (rfadd0 rfP (put (zer64 4) 0 3#64))) HYP_) ok_101 (by kernel_rfl) (by kernel_rfl) rfl VAL_) APP_ rfl ?_
  refine h_evN (e_callR (bs := []) (rfHalf_ev (rfHalf (rfHalf (rfadd0 rfP (put (zer64 4) 0 3#64)))) HYP_) ok_101 (by kernel_rfl) (by kernel_rfl) rfl VAL_) APP_ rfl ?_
  refine h_evN (e_callR (bs := []) (wPow_ev (wMod a) (rfHalf (rfHalf (rfHalf (rfadd0 rfP (put (zer64 4) 0 3#64))))) HYP_ HYP_) ok_100 (by kernel_rfl) (by kernel_rfl) rfl VAL_) APP_ rfl ?_
  refine h_memN (m_alloc al_42 LEN_) APP_ rfl ?_
  refine h_nil ?_
  refine s_storeR rfl rfl rfl rfl sz_42 EQ_ EQ_ SET_ ?_
  refine s_nil ?_
  have hQ8 : (wMul (wPow (wMod a) (rfHalf (rfHalf (rfHalf (rfadd0 rfP (put (zer64 4) 0 3#64)))))) (wPow (wMod a) (rfHalf (rfHalf (rfHalf (rfadd0 rfP (put (zer64 4) 0 3#64))))))).length = 4 := LQ_
  refine S_ ?_
  refine c_draw 5 mixed (by kernel_rfl) rfl rfl rfl ?_
  refine h_val (v_loadR rfl rfl row_42 sz_42 EQ_ (by decide)) rfl ?_
  refine h_val (v_loadR rfl rfl row_42 sz_42 EQ_ (by decide)) rfl ?_
  refine h_evN (e_callR (bs := []) (wMul_ev (wPow (wMod a) (rfHalf (rfHalf (rfHalf (rfadd0 rfP (put (zer64 4) 0 3#64)))))) (wPow (wMod a) (rfHalf (rfHalf (rfHalf (rfadd0 rfP (put (zer64 4) 0 3#64)))))) HYP_ HYP_) ok_78 (by kernel_rfl) (by kernel_rfl) rfl VAL_) APP_ rfl ?_
  refine h_val (v_loadR rfl rfl row_42 sz_42 EQ_ (by decide)) rfl ?_
  refine h_val (v_neqR64 rfl rfl Try.underlying42 Try.underlying40 sz_40 EQ_ EQ_) rfl ?_
  refine h_nil ?_
  refine s_nil ?_
  refine Q_ ?_
  refine c_condF rfl (by rw [decide_eq_true (by have h := (sq_test a _).2 hx; rw [← R0_W] at h; unfold R0 at h; exact h)]; rfl) ?_
  have hQ9 : (wMul (wPow (wMod a) (rfHalf (rfHalf (rfHalf (rfadd0 rfP (put (zer64 4) 0 3#64)))))) (wPow (wMod a) (rfHalf (rfHalf (rfHalf (rfadd0 rfP (put (zer64 4) 0 3#64))))))).length = 4 := LQ_
  refine S_ ?_
  refine c_draw 5 mixed (by kernel_rfl) rfl rfl rfl ?_
  refine h_val (v_loadR rfl rfl row_42 sz_42 EQ_ (by decide)) rfl ?_
  refine h_val (v_loadR rfl rfl row_42 sz_42 EQ_ (by decide)) rfl ?_
  refine h_evN (e_callR (bs := []) (wMul_ev (wPow (wMod a) (rfHalf (rfHalf (rfHalf (rfadd0 rfP (put (zer64 4) 0 3#64)))))) (wPow (wMod a) (rfHalf (rfHalf (rfHalf (rfadd0 rfP (put (zer64 4) 0 3#64)))))) HYP_ HYP_) ok_78 (by kernel_rfl) (by kernel_rfl) rfl VAL_) APP_ rfl ?_
  refine h_val (v_loadR rfl rfl row_42 sz_42 EQ_ (by decide)) rfl ?_
  refine h_val (v_neqR64 rfl rfl Try.underlying42 Try.underlying40 sz_40 EQ_ EQ_) rfl ?_
  refine h_nil ?_
  refine s_nil ?_
  refine Q_ ?_
  refine c_condF rfl (by rw [decide_eq_true (by have h := (sq_test a _).2 hx; rw [← R0_W] at h; unfold R0 at h; exact h)]; rfl) ?_
  refine S_ ?_
  refine c_region ?_
  refine s_val (v_idxA1 (j := 0) rfl rfl Try.underlying42 sz_40 (by omega)) rfl ?_
  refine s_val (v_load64 rfl rfl row_40 LT_) rfl ?_
  refine s_val (v_and64 (b := 1#64) rfl rfl) rfl ?_
  refine s_val (v_eql64 (b := 1#64) rfl rfl) rfl ?_
  refine s_nil ?_
  refine Q_ ?_
  refine c_join [2, 6] (fun (zz : List (BitVec 64)) => ⟨55, keepT [2, 6] [.c (.ptr 0 0), .c (.ptr 1 0)], [.row true (.a64 (zer64 4)), .row true (.a64 (zz))]⟩) (if (((nth (wPow (wMod a) (rfHalf (rfHalf (rfHalf (rfadd0 rfP (put (zer64 4) 0 3#64)))))) 0) &&& 1#64) == 1#64) = true then wSub (zer64 4) (wPow (wMod a) (rfHalf (rfHalf (rfHalf (rfadd0 rfP (put (zer64 4) 0 3#64)))))) else wPow (wMod a) (rfHalf (rfHalf (rfHalf (rfadd0 rfP (put (zer64 4) 0 3#64)))))) rfl (fun hb => ?_) (fun hb => ?_) ?_
  · -- the test is True
    have hQ11 : (wSub (zer64 4) (wPow (wMod a) (rfHalf (rfHalf (rfHalf (rfadd0 rfP (put (zer64 4) 0 3#64))))))).length = 4 := LQ_
    refine S_ ?_
    refine c_region ?_
    refine s_val (v_blf64 (l := (zer64 4)) za_42 Try.underlying42 sz_40 rfl rfl) rfl ?_
    refine s_val (v_loadR rfl rfl row_42 sz_42 EQ_ (by decide)) rfl ?_
    refine s_evN (e_callR (bs := []) (wSub_ev (zer64 4) (wPow (wMod a) (rfHalf (rfHalf (rfHalf (rfadd0 rfP (put (zer64 4) 0 3#64)))))) HYP_ HYP_) ok_80 (by kernel_rfl) (by kernel_rfl) rfl VAL_) APP_ rfl ?_
    refine s_storeR rfl rfl rfl rfl sz_42 EQ_ EQ_ SET_ ?_
    refine s_nil ?_
    refine S_ ?_
    refine ⟨(wSub (zer64 4) (wPow (wMod a) (rfHalf (rfHalf (rfHalf (rfadd0 rfP (put (zer64 4) 0 3#64))))))), by kernel_rfl, ?_⟩
    rw [if_pos (hb)]
  · -- the test is False
    refine S_ ?_
    refine ⟨(wPow (wMod a) (rfHalf (rfHalf (rfHalf (rfadd0 rfP (put (zer64 4) 0 3#64)))))), by kernel_rfl, ?_⟩
    rw [if_neg (by first | (rw [hb]; decide) | simp [hb])]
  have hJ10 : (if (((nth (wPow (wMod a) (rfHalf (rfHalf (rfHalf (rfadd0 rfP (put (zer64 4) 0 3#64)))))) 0) &&& 1#64) == 1#64) = true then wSub (zer64 4) (wPow (wMod a) (rfHalf (rfHalf (rfHalf (rfadd0 rfP (put (zer64 4) 0 3#64)))))) else wPow (wMod a) (rfHalf (rfHalf (rfHalf (rfadd0 rfP (put (zer64 4) 0 3#64)))))).length = 4 := by split <;> simp [*]
  generalize (if (((nth (wPow (wMod a) (rfHalf (rfHalf (rfHalf (rfadd0 rfP (put (zer64 4) 0 3#64)))))) 0) &&& 1#64) == 1#64) = true then wSub (zer64 4) (wPow (wMod a) (rfHalf (rfHalf (rfHalf (rfadd0 rfP (put (zer64 4) 0 3#64)))))) else wPow (wMod a) (rfHalf (rfHalf (rfHalf (rfadd0 rfP (put (zer64 4) 0 3#64)))))) = J10 at *
  refine S_ ?_
  refine c_region ?_
  refine s_val (v_loadR rfl rfl row_42 sz_42 EQ_ (by decide)) rfl ?_
  refine s_storeR rfl rfl rfl rfl sz_42 EQ_ EQ_ SET_ ?_
  refine s_val (v_assignC rfl) rfl ?_
  refine s_nil ?_
  refine S_ ?_
  rw [hP_rfRootA0.out]
  exact k_2 (r_row rfl rfl row_42 sz_42 EQ_ (by decide)) (by first | exact r_tmpC rfl | exact r_tmpA rfl) (by first | kernel_rfl | rfl)
@[simp] theorem rfRootA0_len (a : List (BitVec 64)) (ha : a.length = 4) : (rfRootA0 a).length = 4 := by
  unfold rfRootA0
  first | (simp (maxDischargeDepth := 9) [*]; done) | (simp (maxDischargeDepth := 9) [*]; omega) | (split <;> (simp (maxDischargeDepth := 9) [*]; done))
attribute [irreducible] rfRootA0
def rfRootB0 (a : List (BitVec 64)) : List (BitVec 64) := (if (((nth (wMul (wPow (wMod a) (rfHalf (rfHalf (rfHalf (rfadd0 rfP (put (zer64 4) 0 3#64)))))) (wPow (put (zer64 4) 0 2#64) (rfHalf (rfHalf (rfsub0 rfP (put (zer64 4) 0 1#64)))))) 0) &&& 1#64) == 1#64) = true then wSub (zer64 4) (wMul (wPow (wMod a) (rfHalf (rfHalf (rfHalf (rfadd0 rfP (put (zer64 4) 0 3#64)))))) (wPow (put (zer64 4) 0 2#64) (rfHalf (rfHalf (rfsub0 rfP (put (zer64 4) 0 1#64)))))) else wMul (wPow (wMod a) (rfHalf (rfHalf (rfHalf (rfadd0 rfP (put (zer64 4) 0 3#64)))))) (wPow (put (zer64 4) 0 2#64) (rfHalf (rfHalf (rfsub0 rfP (put (zer64 4) 0 1#64))))))
set_option maxRecDepth 100000 in
set_option maxHeartbeats 2000000 in
theorem rfRootB_ev (a : List (BitVec 64)) (ha : a.length = 4) (hx : ¬ (ZW a ^ eRoot * ZW a ^ eRoot = ZW a)) (hy : ZW a ^ eRoot * iF * (ZW a ^ eRoot * iF) = ZW a) : Ev Try.prog (.call 79 [.agg (.a64 (a))] []) (.val (.tup [.agg (.a64 (rfRootB0 a)), .c (.val (.bool (true)))]) []) := by
  have hP_rfRootB0 : Hid (rfRootB0 a = (if (((nth (wMul (wPow (wMod a) (rfHalf (rfHalf (rfHalf (rfadd0 rfP (put (zer64 4) 0 3#64)))))) (wPow (put (zer64 4) 0 2#64) (rfHalf (rfHalf (rfsub0 rfP (put (zer64 4) 0 1#64)))))) 0) &&& 1#64) == 1#64) = true then wSub (zer64 4) (wMul (wPow (wMod a) (rfHalf (rfHalf (rfHalf (rfadd0 rfP (put (zer64 4) 0 3#64)))))) (wPow (put (zer64 4) 0 2#64) (rfHalf (rfHalf (rfsub0 rfP (put (zer64 4) 0 1#64)))))) else wMul (wPow (wMod a) (rfHalf (rfHalf (rfHalf (rfadd0 rfP (put (zer64 4) 0 3#64)))))) (wPow (put (zer64 4) 0 2#64) (rfHalf (rfHalf (rfsub0 rfP (put (zer64 4) 0 1#64))))))) := ⟨rfl⟩
  refine c_call Try.func79 rfl Try.ntmps79 rfl LEN_ ?_
  refine S_ ?_
  refine c_region ?_
  refine s_memN (m_box BX_ LEN_) APP_ rfl ?_
  refine s_memN (m_alloc al_42 LEN_) APP_ rfl ?_
  refine s_val (v_assignC rfl) rfl ?_
  refine s_nil ?_
  have hQ1 : (wMod a).length = 4 := LQ_
  refine S_ ?_
  refine c_region ?_
  refine s_val (v_loadR rfl rfl row_42 sz_42 EQ_ (by decide)) rfl ?_
  refine s_evN (e_callR (bs := []) (wMod_ev a HYP_) ok_99 (by kernel_rfl) (by kernel_rfl) rfl VAL_) APP_ rfl ?_
  refine s_storeR rfl rfl rfl rfl sz_42 EQ_ EQ_ SET_ ?_
  refine s_nil ?_
  have hQ2 : (rfP).length = 4 := LQ_
  have hQ3 : (rfadd0 rfP (put (zer64 4) 0 3#64)).length = 4 := LQ_
  refine S_ ?_
  refine c_region ?_
  refine s_evN (e_callR (bs := []) (rfP_ev) ok_77 (by kernel_rfl) (by kernel_rfl) rfl VAL_) APP_ rfl ?_
  refine s_val (v_blf64 (l := (put (zer64 4) 0 (3#64))) za_42 Try.underlying42 sz_40 rfl rfl) rfl ?_
  refine s_evN (e_callR (bs := []) (rfadd_ev rfP (put (zer64 4) 0 3#64) HYP_ HYP_) ok_94 (by kernel_rfl) (by kernel_rfl) rfl VAL_) APP_ rfl ?_
  refine s_val (v_moveT rfl) rfl ?_
  refine s_val (v_extract rfl rfl) rfl ?_
  refine s_val (v_extract rfl rfl) rfl ?_
  refine s_memN (m_alloc al_42 LEN_) APP_ rfl ?_
  refine s_storeR rfl rfl rfl rfl sz_42 EQ_ EQ_ SET_ ?_
  refine s_val (v_assignC rfl) rfl ?_
  refine s_nil ?_
  have hQ4 : (rfHalf (rfadd0 rfP (put (zer64 4) 0 3#64))).length = 4 := LQ_
  have hQ5 : (rfHalf (rfHalf (rfadd0 rfP (put (zer64 4) 0 3#64)))).length = 4 := LQ_
  have hQ6 : (rfHalf (rfHalf (rfHalf (rfadd0 rfP (put (zer64 4) 0 3#64))))).length = 4 := LQ_
  have hQ7 : (wPow (wMod a) (rfHalf (rfHalf (rfHalf (rfadd0 rfP (put (zer64 4) 0 3#64)))))).length = 4 := LQ_
  refine S_ ?_
  refine c_draw 7 mixed (by kernel_rfl) rfl rfl rfl ?_
  refine h_val (v_loadR rfl rfl row_42 sz_42 EQ_ (by decide)) rfl ?_
  refine h_val (v_loadR rfl rfl row_42 sz_42 EQ_ (by decide)) rfl ?_
  refine h_evN (e_callR (bs := []) (rfHalf_ev (rfadd0 rfP (put (zer64 4) 0 3#64)) HYP_) ok_101 (by kernel_rfl) (by kernel_rfl) rfl VAL_) APP_ rfl ?_
  refine h_evN (e_callR (bs := []) (rfHalf_ev (rfHalf (rfadd0 rfP (put (zer64 4) 0 3#64))) HYP_) ok_101 (by kernel_rfl) (by kernel_rfl) rfl VAL_) APP_ rfl ?_
  refine h_evN (e_callR (bs := []) (rfHalf_ev (rfHalf (rfHalf (rfadd0 rfP (put (zer64 4) 0 3#64)))) HYP_) ok_101 (by kernel_rfl) (by kernel_rfl) rfl VAL_) APP_ rfl ?_
  refine h_evN (e_callR (bs := []) (wPow_ev (wMod a) (rfHalf (rfHalf (rfHalf (rfadd0 rfP (put (zer64 4) 0 3#64))))) HYP_ HYP_) ok_100 (by kernel_rfl) (by kernel_rfl) rfl VAL_) APP_ rfl ?_
  refine h_memN (m_alloc al_42 LEN_) APP_ rfl ?_
  refine h_nil ?_
  refine s_storeR rfl rfl rfl rfl sz_42 EQ_ EQ_ SET_ ?_
  refine s_nil ?_
  have hQ8 : (wMul (wPow (wMod a) (rfHalf (rfHalf (rfHalf (rfadd0 rfP (put (zer64 4) 0 3#64)))))) (wPow (wMod a) (rfHalf (rfHalf (rfHalf (rfadd0 rfP (put (zer64 4) 0 3#64))))))).length = 4 := LQ_
  refine S_ ?_
  refine c_draw 5 mixed (by kernel_rfl) rfl rfl rfl ?_
  refine h_val (v_loadR rfl rfl row_42 sz_42 EQ_ (by decide)) rfl ?_
  refine h_val (v_loadR rfl rfl row_42 sz_42 EQ_ (by decide)) rfl ?_
  refine h_evN (e_callR (bs := []) (wMul_ev (wPow (wMod a) (rfHalf (rfHalf (rfHalf (rfadd0 rfP (put (zer64 4) 0 3#64)))))) (wPow (wMod a) (rfHalf (rfHalf (rfHalf (rfadd0 rfP (put (zer64 4) 0 3#64)))))) HYP_ HYP_) ok_78 (by kernel_rfl) (by kernel_rfl) rfl VAL_) APP_ rfl ?_
  refine h_val (v_loadR rfl rfl row_42 sz_42 EQ_ (by decide)) rfl ?_
  refine h_val (v_neqR64 rfl rfl Try.underlying42 Try.underlying40 sz_40 EQ_ EQ_) rfl ?_
  refine h_nil ?_
  refine s_nil ?_
  refine Q_ ?_
  refine c_condT rfl (by rw [decide_eq_false (fun h => hx ((sq_test a _).1 (by rw [← R0_W]; unfold R0; exact h)))]; rfl) ?_
  have hQ9 : (rfP).length = 4 := LQ_
  have hQ10 : (rfsub0 rfP (put (zer64 4) 0 1#64)).length = 4 := LQ_
  refine S_ ?_
  refine c_region ?_
  refine s_evN (e_callR (bs := []) (rfP_ev) ok_77 (by kernel_rfl) (by kernel_rfl) rfl VAL_) APP_ rfl ?_
  refine s_val (v_blf64 (l := (put (zer64 4) 0 (1#64))) za_42 Try.underlying42 sz_40 rfl rfl) rfl ?_
  refine s_evN (e_callR (bs := []) (rfsub_ev rfP (put (zer64 4) 0 1#64) HYP_ HYP_) ok_95 (by kernel_rfl) (by kernel_rfl) rfl VAL_) APP_ rfl ?_
  refine s_val (v_moveT rfl) rfl ?_
  refine s_val (v_extract rfl rfl) rfl ?_
  refine s_val (v_extract rfl rfl) rfl ?_
  refine s_memN (m_alloc al_42 LEN_) APP_ rfl ?_
  refine s_storeR rfl rfl rfl rfl sz_42 EQ_ EQ_ SET_ ?_
  refine s_val (v_assignC rfl) rfl ?_
  refine s_nil ?_
  have hQ11 : (rfHalf (rfsub0 rfP (put (zer64 4) 0 1#64))).length = 4 := LQ_
  have hQ12 : (rfHalf (rfHalf (rfsub0 rfP (put (zer64 4) 0 1#64)))).length = 4 := LQ_
  have hQ13 : (wPow (put (zer64 4) 0 2#64) (rfHalf (rfHalf (rfsub0 rfP (put (zer64 4) 0 1#64))))).length = 4 := LQ_
  have hQ14 : (wMul (wPow (wMod a) (rfHalf (rfHalf (rfHalf (rfadd0 rfP (put (zer64 4) 0 3#64)))))) (wPow (put (zer64 4) 0 2#64) (rfHalf (rfHalf (rfsub0 rfP (put (zer64 4) 0 1#64)))))).length = 4 := LQ_
  refine S_ ?_
  refine c_draw 7 mixed (by kernel_rfl) rfl rfl rfl ?_
  refine h_val (v_loadR rfl rfl row_42 sz_42 EQ_ (by decide)) rfl ?_
  refine h_val (v_blf64 (l := (put (zer64 4) 0 (2#64))) za_42 Try.underlying42 sz_40 rfl rfl) rfl ?_
  refine h_val (v_loadR rfl rfl row_42 sz_42 EQ_ (by decide)) rfl ?_
  refine h_evN (e_callR (bs := []) (rfHalf_ev (rfsub0 rfP (put (zer64 4) 0 1#64)) HYP_) ok_101 (by kernel_rfl) (by kernel_rfl) rfl VAL_) APP_ rfl ?_
  refine h_evN (e_callR (bs := []) (rfHalf_ev (rfHalf (rfsub0 rfP (put (zer64 4) 0 1#64))) HYP_) ok_101 (by kernel_rfl) (by kernel_rfl) rfl VAL_) APP_ rfl ?_
  refine h_evN (e_callR (bs := []) (wPow_ev (put (zer64 4) 0 2#64) (rfHalf (rfHalf (rfsub0 rfP (put (zer64 4) 0 1#64)))) HYP_ HYP_) ok_100 (by kernel_rfl) (by kernel_rfl) rfl VAL_) APP_ rfl ?_
  refine h_evN (e_callR (bs := []) (wMul_ev (wPow (wMod a) (rfHalf (rfHalf (rfHalf (rfadd0 rfP (put (zer64 4) 0 3#64)))))) (wPow (put (zer64 4) 0 2#64) (rfHalf (rfHalf (rfsub0 rfP (put (zer64 4) 0 1#64))))) HYP_ HYP_) ok_78 (by kernel_rfl) (by kernel_rfl) rfl VAL_) APP_ rfl ?_
  refine h_nil ?_
  refine s_storeR rfl rfl rfl rfl sz_42 EQ_ EQ_ SET_ ?_
  refine s_nil ?_
  have hQ15 : (wMul (wMul (wPow (wMod a) (rfHalf (rfHalf (rfHalf (rfadd0 rfP (put (zer64 4) 0 3#64)))))) (wPow (put (zer64 4) 0 2#64) (rfHalf (rfHalf (rfsub0 rfP (put (zer64 4) 0 1#64)))))) (wMul (wPow (wMod a) (rfHalf (rfHalf (rfHalf (rfadd0 rfP (put (zer64 4) 0 3#64)))))) (wPow (put (zer64 4) 0 2#64) (rfHalf (rfHalf (rfsub0 rfP (put (zer64 4) 0 1#64))))))).length = 4 := LQ_
  refine S_ ?_
  refine c_draw 5 mixed (by kernel_rfl) rfl rfl rfl ?_
  refine h_val (v_loadR rfl rfl row_42 sz_42 EQ_ (by decide)) rfl ?_
  refine h_val (v_loadR rfl rfl row_42 sz_42 EQ_ (by decide)) rfl ?_
  refine h_evN (e_callR (bs := []) (wMul_ev (wMul (wPow (wMod a) (rfHalf (rfHalf (rfHalf (rfadd0 rfP (put (zer64 4) 0 3#64)))))) (wPow (put (zer64 4) 0 2#64) (rfHalf (rfHalf (rfsub0 rfP (put (zer64 4) 0 1#64)))))) (wMul (wPow (wMod a) (rfHalf (rfHalf (rfHalf (rfadd0 rfP (put (zer64 4) 0 3#64)))))) (wPow (put (zer64 4) 0 2#64) (rfHalf (rfHalf (rfsub0 rfP (put (zer64 4) 0 1#64)))))) HYP_ HYP_) ok_78 (by kernel_rfl) (by kernel_rfl) rfl VAL_) APP_ rfl ?_
  refine h_val (v_loadR rfl rfl row_42 sz_42 EQ_ (by decide)) rfl ?_
  refine h_val (v_neqR64 rfl rfl Try.underlying42 Try.underlying40 sz_40 EQ_ EQ_) rfl ?_
  refine h_nil ?_
  refine s_nil ?_
  refine Q_ ?_
  refine c_condF rfl (by rw [decide_eq_true (by have h := (sq_test a _).2 hy; rw [← R1_W] at h; unfold R1 at h; exact h)]; rfl) ?_
  refine S_ ?_
  refine c_region ?_
  refine s_val (v_idxA1 (j := 0) rfl rfl Try.underlying42 sz_40 (by omega)) rfl ?_
  refine s_val (v_load64 rfl rfl row_40 LT_) rfl ?_
  refine s_val (v_and64 (b := 1#64) rfl rfl) rfl ?_
  refine s_val (v_eql64 (b := 1#64) rfl rfl) rfl ?_
  refine s_nil ?_
  refine Q_ ?_
  refine c_join [2, 6] (fun (zz : List (BitVec 64)) => ⟨55, keepT [2, 6] [.c (.ptr 0 0), .c (.ptr 1 0)], [.row true (.a64 (zer64 4)), .row true (.a64 (zz))]⟩) (if (((nth (wMul (wPow (wMod a) (rfHalf (rfHalf (rfHalf (rfadd0 rfP (put (zer64 4) 0 3#64)))))) (wPow (put (zer64 4) 0 2#64) (rfHalf (rfHalf (rfsub0 rfP (put (zer64 4) 0 1#64)))))) 0) &&& 1#64) == 1#64) = true then wSub (zer64 4) (wMul (wPow (wMod a) (rfHalf (rfHalf (rfHalf (rfadd0 rfP (put (zer64 4) 0 3#64)))))) (wPow (put (zer64 4) 0 2#64) (rfHalf (rfHalf (rfsub0 rfP (put (zer64 4) 0 1#64)))))) else wMul (wPow (wMod a) (rfHalf (rfHalf (rfHalf (rfadd0 rfP (put (zer64 4) 0 3#64)))))) (wPow (put (zer64 4) 0 2#64) (rfHalf (rfHalf (rfsub0 rfP (put (zer64 4) 0 1#64)))))) rfl (fun hb => ?_) (fun hb => ?_) ?_
  · -- the test is True
    have hQ17 : (wSub (zer64 4) (wMul (wPow (wMod a) (rfHalf (rfHalf (rfHalf (rfadd0 rfP (put (zer64 4) 0 3#64)))))) (wPow (put (zer64 4) 0 2#64) (rfHalf (rfHalf (rfsub0 rfP (put (zer64 4) 0 1#64))))))).length = 4 := LQ_
    refine S_ ?_
    refine c_region ?_
    refine s_val (v_blf64 (l := (zer64 4)) za_42 Try.underlying42 sz_40 rfl rfl) rfl ?_
    refine s_val (v_loadR rfl rfl row_42 sz_42 EQ_ (by decide)) rfl ?_
    refine s_evN (e_callR (bs := []) (wSub_ev (zer64 4) (wMul (wPow (wMod a) (rfHalf (rfHalf (rfHalf (rfadd0 rfP (put (zer64 4) 0 3#64)))))) (wPow (put (zer64 4) 0 2#64) (rfHalf (rfHalf (rfsub0 rfP (put (zer64 4) 0 1#64)))))) HYP_ HYP_) ok_80 (by kernel_rfl) (by kernel_rfl) rfl VAL_) APP_ rfl ?_
    refine s_storeR rfl rfl rfl rfl sz_42 EQ_ EQ_ SET_ ?_
    refine s_nil ?_
    refine S_ ?_
    refine ⟨(wSub (zer64 4) (wMul (wPow (wMod a) (rfHalf (rfHalf (rfHalf (rfadd0 rfP (put (zer64 4) 0 3#64)))))) (wPow (put (zer64 4) 0 2#64) (rfHalf (rfHalf (rfsub0 rfP (put (zer64 4) 0 1#64))))))), by kernel_rfl, ?_⟩
    rw [if_pos (hb)]
  · -- the test is False
    refine S_ ?_
    refine ⟨(wMul (wPow (wMod a) (rfHalf (rfHalf (rfHalf (rfadd0 rfP (put (zer64 4) 0 3#64)))))) (wPow (put (zer64 4) 0 2#64) (rfHalf (rfHalf (rfsub0 rfP (put (zer64 4) 0 1#64)))))), by kernel_rfl, ?_⟩
    rw [if_neg (by first | (rw [hb]; decide) | simp [hb])]
  have hJ16 : (if (((nth (wMul (wPow (wMod a) (rfHalf (rfHalf (rfHalf (rfadd0 rfP (put (zer64 4) 0 3#64)))))) (wPow (put (zer64 4) 0 2#64) (rfHalf (rfHalf (rfsub0 rfP (put (zer64 4) 0 1#64)))))) 0) &&& 1#64) == 1#64) = true then wSub (zer64 4) (wMul (wPow (wMod a) (rfHalf (rfHalf (rfHalf (rfadd0 rfP (put (zer64 4) 0 3#64)))))) (wPow (put (zer64 4) 0 2#64) (rfHalf (rfHalf (rfsub0 rfP (put (zer64 4) 0 1#64)))))) else wMul (wPow (wMod a) (rfHalf (rfHalf (rfHalf (rfadd0 rfP (put (zer64 4) 0 3#64)))))) (wPow (put (zer64 4) 0 2#64) (rfHalf (rfHalf (rfsub0 rfP (put (zer64 4) 0 1#64)))))).length = 4 := by split <;> simp [*]
  generalize (if (((nth (wMul (wPow (wMod a) (rfHalf (rfHalf (rfHalf (rfadd0 rfP (put (zer64 4) 0 3#64)))))) (wPow (put (zer64 4) 0 2#64) (rfHalf (rfHalf (rfsub0 rfP (put (zer64 4) 0 1#64)))))) 0) &&& 1#64) == 1#64) = true then wSub (zer64 4) (wMul (wPow (wMod a) (rfHalf (rfHalf (rfHalf (rfadd0 rfP (put (zer64 4) 0 3#64)))))) (wPow (put (zer64 4) 0 2#64) (rfHalf (rfHalf (rfsub0 rfP (put (zer64 4) 0 1#64)))))) else wMul (wPow (wMod a) (rfHalf (rfHalf (rfHalf (rfadd0 rfP (put (zer64 4) 0 3#64)))))) (wPow (put (zer64 4) 0 2#64) (rfHalf (rfHalf (rfsub0 rfP (put (zer64 4) 0 1#64)))))) = J16 at *
  refine S_ ?_
  refine c_region ?_
  refine s_val (v_loadR rfl rfl row_42 sz_42 EQ_ (by decide)) rfl ?_
  refine s_storeR rfl rfl rfl rfl sz_42 EQ_ EQ_ SET_ ?_
  refine s_val (v_assignC rfl) rfl ?_
  refine s_nil ?_
  refine S_ ?_
  rw [hP_rfRootB0.out]
  exact k_2 (r_row rfl rfl row_42 sz_42 EQ_ (by decide)) (by first | exact r_tmpC rfl | exact r_tmpA rfl) (by first | kernel_rfl | rfl)
@[simp] theorem rfRootB0_len (a : List (BitVec 64)) (ha : a.length = 4) : (rfRootB0 a).length = 4 := by
  unfold rfRootB0
  first | (simp (maxDischargeDepth := 9) [*]; done) | (simp (maxDischargeDepth := 9) [*]; omega) | (split <;> (simp (maxDischargeDepth := 9) [*]; done))
attribute [irreducible] rfRootB0
def rfRootC0  : List (BitVec 64) := zer64 4
set_option maxRecDepth 100000 in
set_option maxHeartbeats 2000000 in
theorem rfRootC_ev (a : List (BitVec 64)) (ha : a.length = 4) (hx : ¬ (ZW a ^ eRoot * ZW a ^ eRoot = ZW a)) (hy : ¬ (ZW a ^ eRoot * iF * (ZW a ^ eRoot * iF) = ZW a)) : Ev Try.prog (.call 79 [.agg (.a64 (a))] []) (.val (.tup [.agg (.a64 (rfRootC0)), .c (.val (.bool (false)))]) []) := by
  have hP_rfRootC0 : Hid (rfRootC0 = zer64 4) := ⟨rfl⟩
  refine c_call Try.func79 rfl Try.ntmps79 rfl LEN_ ?_
  refine S_ ?_
  refine c_region ?_
  refine s_memN (m_box BX_ LEN_) APP_ rfl ?_
  refine s_memN (m_alloc al_42 LEN_) APP_ rfl ?_
  refine s_val (v_assignC rfl) rfl ?_
  refine s_nil ?_
  have hQ1 : (wMod a).length = 4 := LQ_
  refine S_ ?_
  refine c_region ?_
  refine s_val (v_loadR rfl rfl row_42 sz_42 EQ_ (by decide)) rfl ?_
  refine s_evN (e_callR (bs := []) (wMod_ev a HYP_) ok_99 (by kernel_rfl) (by kernel_rfl) rfl VAL_) APP_ rfl ?_
  refine s_storeR rfl rfl rfl rfl sz_42 EQ_ EQ_ SET_ ?_
  refine s_nil ?_
  have hQ2 : (rfP).length = 4 := LQ_
  have hQ3 : (rfadd0 rfP (put (zer64 4) 0 3#64)).length = 4 := LQ_
  refine S_ ?_
  refine c_region ?_
  refine s_evN (e_callR (bs := []) (rfP_ev) ok_77 (by kernel_rfl) (by kernel_rfl) rfl VAL_) APP_ rfl ?_
  refine s_val (v_blf64 (l := (put (zer64 4) 0 (3#64))) za_42 Try.underlying42 sz_40 rfl rfl) rfl ?_
  refine s_evN (e_callR (bs := []) (rfadd_ev rfP (put (zer64 4) 0 3#64) HYP_ HYP_) ok_94 (by kernel_rfl) (by kernel_rfl) rfl VAL_) APP_ rfl ?_
  refine s_val (v_moveT rfl) rfl ?_
  refine s_val (v_extract rfl rfl) rfl ?_
  refine s_val (v_extract rfl rfl) rfl ?_
  refine s_memN (m_alloc al_42 LEN_) APP_ rfl ?_
  refine s_storeR rfl rfl rfl rfl sz_42 EQ_ EQ_ SET_ ?_
  refine s_val (v_assignC rfl) rfl ?_
  refine s_nil ?_
  have hQ4 : (rfHalf (rfadd0 rfP (put (zer64 4) 0 3#64))).length = 4 := LQ_
  have hQ5 : (rfHalf (rfHalf (rfadd0 rfP (put (zer64 4) 0 3#64)))).length = 4 := LQ_
  have hQ6 : (rfHalf (rfHalf (rfHalf (rfadd0 rfP (put (zer64 4) 0 3#64))))).length = 4 := LQ_
  have hQ7 : (wPow (wMod a) (rfHalf (rfHalf (rfHalf (rfadd0 rfP (put (zer64 4) 0 3#64)))))).length = 4 := LQ_
  refine S_ ?_
  refine c_draw 7 mixed (by kernel_rfl) rfl rfl rfl ?_
  refine h_val (v_loadR rfl rfl row_42 sz_42 EQ_ (by decide)) rfl ?_
  refine h_val (v_loadR rfl rfl row_42 sz_42 EQ_ (by decide)) rfl ?_
  refine h_evN (e_callR (bs := []) (rfHalf_ev (rfadd0 rfP (put (zer64 4) 0 3#64)) HYP_) ok_101 (by kernel_rfl) (by kernel_rfl) rfl VAL_) APP_ rfl ?_
  refine h_evN (e_callR (bs := []) (rfHalf_ev (rfHalf (rfadd0 rfP (put (zer64 4) 0 3#64))) HYP_) ok_101 (by kernel_rfl) (by kernel_rfl) rfl VAL_) APP_ rfl ?_
  refine h_evN (e_callR (bs := []) (rfHalf_ev (rfHalf (rfHalf (rfadd0 rfP (put (zer64 4) 0 3#64)))) HYP_) ok_101 (by kernel_rfl) (by kernel_rfl) rfl VAL_) APP_ rfl ?_
  refine h_evN (e_callR (bs := []) (wPow_ev (wMod a) (rfHalf (rfHalf (rfHalf (rfadd0 rfP (put (zer64 4) 0 3#64))))) HYP_ HYP_) ok_100 (by kernel_rfl) (by kernel_rfl) rfl VAL_) APP_ rfl ?_
  refine h_memN (m_alloc al_42 LEN_) APP_ rfl ?_
  refine h_nil ?_
  refine s_storeR rfl rfl rfl rfl sz_42 EQ_ EQ_ SET_ ?_
  refine s_nil ?_
  have hQ8 : (wMul (wPow (wMod a) (rfHalf (rfHalf (rfHalf (rfadd0 rfP (put (zer64 4) 0 3#64)))))) (wPow (wMod a) (rfHalf (rfHalf (rfHalf (rfadd0 rfP (put (zer64 4) 0 3#64))))))).length = 4 := LQ_
  refine S_ ?_
  refine c_draw 5 mixed (by kernel_rfl) rfl rfl rfl ?_
  refine h_val (v_loadR rfl rfl row_42 sz_42 EQ_ (by decide)) rfl ?_
  refine h_val (v_loadR rfl rfl row_42 sz_42 EQ_ (by decide)) rfl ?_
  refine h_evN (e_callR (bs := []) (wMul_ev (wPow (wMod a) (rfHalf (rfHalf (rfHalf (rfadd0 rfP (put (zer64 4) 0 3#64)))))) (wPow (wMod a) (rfHalf (rfHalf (rfHalf (rfadd0 rfP (put (zer64 4) 0 3#64)))))) HYP_ HYP_) ok_78 (by kernel_rfl) (by kernel_rfl) rfl VAL_) APP_ rfl ?_
  refine h_val (v_loadR rfl rfl row_42 sz_42 EQ_ (by decide)) rfl ?_
  refine h_val (v_neqR64 rfl rfl Try.underlying42 Try.underlying40 sz_40 EQ_ EQ_) rfl ?_
  refine h_nil ?_
  refine s_nil ?_
  refine Q_ ?_
  refine c_condT rfl (by rw [decide_eq_false (fun h => hx ((sq_test a _).1 (by rw [← R0_W]; unfold R0; exact h)))]; rfl) ?_
  have hQ9 : (rfP).length = 4 := LQ_
  have hQ10 : (rfsub0 rfP (put (zer64 4) 0 1#64)).length = 4 := LQ_
  refine S_ ?_
  refine c_region ?_
  refine s_evN (e_callR (bs := []) (rfP_ev) ok_77 (by kernel_rfl) (by kernel_rfl) rfl VAL_) APP_ rfl ?_
  refine s_val (v_blf64 (l := (put (zer64 4) 0 (1#64))) za_42 Try.underlying42 sz_40 rfl rfl) rfl ?_
  refine s_evN (e_callR (bs := []) (rfsub_ev rfP (put (zer64 4) 0 1#64) HYP_ HYP_) ok_95 (by kernel_rfl) (by kernel_rfl) rfl VAL_) APP_ rfl ?_
  refine s_val (v_moveT rfl) rfl ?_
  refine s_val (v_extract rfl rfl) rfl ?_
  refine s_val (v_extract rfl rfl) rfl ?_
  refine s_memN (m_alloc al_42 LEN_) APP_ rfl ?_
  refine s_storeR rfl rfl rfl rfl sz_42 EQ_ EQ_ SET_ ?_
  refine s_val (v_assignC rfl) rfl ?_
  refine s_nil ?_
  have hQ11 : (rfHalf (rfsub0 rfP (put (zer64 4) 0 1#64))).length = 4 := LQ_
  have hQ12 : (rfHalf (rfHalf (rfsub0 rfP (put (zer64 4) 0 1#64)))).length = 4 := LQ_
  have hQ13 : (wPow (put (zer64 4) 0 2#64) (rfHalf (rfHalf (rfsub0 rfP (put (zer64 4) 0 1#64))))).length = 4 := LQ_
  have hQ14 : (wMul (wPow (wMod a) (rfHalf (rfHalf (rfHalf (rfadd0 rfP (put (zer64 4) 0 3#64)))))) (wPow (put (zer64 4) 0 2#64) (rfHalf (rfHalf (rfsub0 rfP (put (zer64 4) 0 1#64)))))).length = 4 := LQ_
  refine S_ ?_
  refine c_draw 7 mixed (by kernel_rfl) rfl rfl rfl ?_
  refine h_val (v_loadR rfl rfl row_42 sz_42 EQ_ (by decide)) rfl ?_
  refine h_val (v_blf64 (l := (put (zer64 4) 0 (2#64))) za_42 Try.underlying42 sz_40 rfl rfl) rfl ?_
  refine h_val (v_loadR rfl rfl row_42 sz_42 EQ_ (by decide)) rfl ?_
  refine h_evN (e_callR (bs := []) (rfHalf_ev (rfsub0 rfP (put (zer64 4) 0 1#64)) HYP_) ok_101 (by kernel_rfl) (by kernel_rfl) rfl VAL_) APP_ rfl ?_
  refine h_evN (e_callR (bs := []) (rfHalf_ev (rfHalf (rfsub0 rfP (put (zer64 4) 0 1#64))) HYP_) ok_101 (by kernel_rfl) (by kernel_rfl) rfl VAL_) APP_ rfl ?_
  refine h_evN (e_callR (bs := []) (wPow_ev (put (zer64 4) 0 2#64) (rfHalf (rfHalf (rfsub0 rfP (put (zer64 4) 0 1#64)))) HYP_ HYP_) ok_100 (by kernel_rfl) (by kernel_rfl) rfl VAL_) APP_ rfl ?_
  refine h_evN (e_callR (bs := []) (wMul_ev (wPow (wMod a) (rfHalf (rfHalf (rfHalf (rfadd0 rfP (put (zer64 4) 0 3#64)))))) (wPow (put (zer64 4) 0 2#64) (rfHalf (rfHalf (rfsub0 rfP (put (zer64 4) 0 1#64))))) HYP_ HYP_) ok_78 (by kernel_rfl) (by kernel_rfl) rfl VAL_) APP_ rfl ?_
  refine h_nil ?_
  refine s_storeR rfl rfl rfl rfl sz_42 EQ_ EQ_ SET_ ?_
  refine s_nil ?_
  have hQ15 : (wMul (wMul (wPow (wMod a) (rfHalf (rfHalf (rfHalf (rfadd0 rfP (put (zer64 4) 0 3#64)))))) (wPow (put (zer64 4) 0 2#64) (rfHalf (rfHalf (rfsub0 rfP (put (zer64 4) 0 1#64)))))) (wMul (wPow (wMod a) (rfHalf (rfHalf (rfHalf (rfadd0 rfP (put (zer64 4) 0 3#64)))))) (wPow (put (zer64 4) 0 2#64) (rfHalf (rfHalf (rfsub0 rfP (put (zer64 4) 0 1#64))))))).length = 4 := LQ_
  refine S_ ?_
  refine c_draw 5 mixed (by kernel_rfl) rfl rfl rfl ?_
  refine h_val (v_loadR rfl rfl row_42 sz_42 EQ_ (by decide)) rfl ?_
  refine h_val (v_loadR rfl rfl row_42 sz_42 EQ_ (by decide)) rfl ?_
  refine h_evN (e_callR (bs := []) (wMul_ev (wMul (wPow (wMod a) (rfHalf (rfHalf (rfHalf (rfadd0 rfP (put (zer64 4) 0 3#64)))))) (wPow (put (zer64 4) 0 2#64) (rfHalf (rfHalf (rfsub0 rfP (put (zer64 4) 0 1#64)))))) (wMul (wPow (wMod a) (rfHalf (rfHalf (rfHalf (rfadd0 rfP (put (zer64 4) 0 3#64)))))) (wPow (put (zer64 4) 0 2#64) (rfHalf (rfHalf (rfsub0 rfP (put (zer64 4) 0 1#64)))))) HYP_ HYP_) ok_78 (by kernel_rfl) (by kernel_rfl) rfl VAL_) APP_ rfl ?_
  refine h_val (v_loadR rfl rfl row_42 sz_42 EQ_ (by decide)) rfl ?_
  refine h_val (v_neqR64 rfl rfl Try.underlying42 Try.underlying40 sz_40 EQ_ EQ_) rfl ?_
  refine h_nil ?_
  refine s_nil ?_
  refine Q_ ?_
  refine c_condT rfl (by rw [decide_eq_false (fun h => hy ((sq_test a _).1 (by rw [← R1_W]; unfold R1; exact h)))]; rfl) ?_
  refine S_ ?_
  refine c_region ?_
  refine s_val (v_blf64 (l := (zer64 4)) za_42 Try.underlying42 sz_40 rfl rfl) rfl ?_
  refine s_storeR rfl rfl rfl rfl sz_42 EQ_ EQ_ SET_ ?_
  refine s_val (v_assignC rfl) rfl ?_
  refine s_nil ?_
  refine S_ ?_
  rw [hP_rfRootC0.out]
  exact k_2 (r_row rfl rfl row_42 sz_42 EQ_ (by decide)) (by first | exact r_tmpC rfl | exact r_tmpA rfl) (by first | kernel_rfl | rfl)
@[simp] theorem rfRootC0_len  : (rfRootC0).length = 4 := by
  unfold rfRootC0
  first | (simp (maxDischargeDepth := 9) [*]; done) | (simp (maxDischargeDepth := 9) [*]; omega) | (split <;> (simp (maxDischargeDepth := 9) [*]; done))
attribute [irreducible] rfRootC0
theorem rfRootA_W (a : List (BitVec 64)) (hx : ZW a ^ eRoot * ZW a ^ eRoot = ZW a) : rfRootA0 a = wRoot a ∧ wRootIs a = true := by
  unfold wRoot wRootIs
  rw [rootF_of hx]
  refine ⟨?_, decide_eq_true hx⟩
  rw [if_pos hx, ← even_W, ← R0_W]
  unfold rfRootA0 R0
  rfl
theorem rfRootB_W (a : List (BitVec 64)) (hx : ¬ (ZW a ^ eRoot * ZW a ^ eRoot = ZW a)) (hy : ZW a ^ eRoot * iF * (ZW a ^ eRoot * iF) = ZW a) : rfRootB0 a = wRoot a ∧ wRootIs a = true := by
  unfold wRoot wRootIs
  rw [rootF_not hx]
  refine ⟨?_, decide_eq_true hy⟩
  rw [if_pos hy, ← even_W, ← R1_W]
  unfold rfRootB0 R1
  rfl
theorem wRoot_ev (a : List (BitVec 64)) (ha : a.length = 4) : Ev Try.prog (.call 79 [.agg (.a64 a)] []) (.val (.tup [.agg (.a64 (wRoot a)), .c (.val (.bool (wRootIs a)))]) []) := by
  by_cases hx : ZW a ^ eRoot * ZW a ^ eRoot = ZW a
  · have h := rfRootA_ev a ha hx
    rw [(rfRootA_W a hx).1] at h
    rw [(rfRootA_W a hx).2]
    exact h
  · by_cases hy : ZW a ^ eRoot * iF * (ZW a ^ eRoot * iF) = ZW a
    · have h := rfRootB_ev a ha hx hy
      rw [(rfRootB_W a hx hy).1] at h
      rw [(rfRootB_W a hx hy).2]
      exact h
    · have h := rfRootC_ev a ha hx hy
      have e : rfRootC0 = wRoot a ∧ wRootIs a = false := by
        unfold wRoot wRootIs
        rw [rootF_not hx]
        exact ⟨by rw [if_neg hy, ← zero_words]; unfold rfRootC0; rfl, decide_eq_false hy⟩
      rw [e.1] at h
      rw [e.2]
      exact h
end Go.Proofs.Ytcgncafhonlmlaa
namespace Go.Proofs.Ytcgncafhonlmlaa
open Go.RowKit
theorem ZW_mul (a b : List (BitVec 64)) : ZW (wMul a b) = ZW a * ZW b := by unfold wMul; exact ZW_WF _
theorem ZW_sub (a b : List (BitVec 64)) : ZW (wSub a b) = ZW a - ZW b := by unfold wSub; exact ZW_WF _
theorem ZW_add (a b : List (BitVec 64)) : ZW (wAdd a b) = ZW a + ZW b := by unfold wAdd; exact ZW_WF _
theorem ZW_inv (a : List (BitVec 64)) : ZW (wInv a) = invF (ZW a) := by unfold wInv; exact ZW_WF _
theorem ZW_none : ZW (zer64 4) = 0 := by rw [zero_words, ZW_WF]
theorem ZW_one (x : BitVec 64) : ZW (put (zer64 4) 0 x) = zf x.toNat := by unfold ZW; rw [one_word]
theorem ZW_1 : ZW (put (zer64 4) 0 1#64) = 1 := by rw [ZW_one, zs1]
theorem rfD_val : ZW rfD = dF := by
  unfold rfD
  rw [ZW_mul, ZW_sub, ZW_inv, ZW_none, ZW_one, ZW_one]
  exact d_quot
def RQ (p : List (BitVec 64)) : Qt := ⟨ZW (cut p 0 4), ZW (cut p 4 4), ZW (cut p 8 4), ZW (cut p 12 4)⟩
theorem cuts4w {a b c d : List (BitVec 64)} (ha : a.length = 4) (hb : b.length = 4) (hc : c.length = 4) (hd : d.length = 4) : RQ (a ++ b ++ c ++ d) = ⟨ZW a, ZW b, ZW c, ZW d⟩ := by
  obtain ⟨a0, a1, a2, a3, rfl⟩ := four ha
  obtain ⟨b0, b1, b2, b3, rfl⟩ := four hb
  obtain ⟨c0, c1, c2, c3, rfl⟩ := four hc
  obtain ⟨d0, d1, d2, d3, rfl⟩ := four hd
  rfl
theorem c_law (T d U : Fp) : T * d * U + T * d * U = (d + d) * T * U := by grobner
theorem e_law (Z W : Fp) : Z * W + Z * W = (Z + Z) * W := by grobner
theorem rfPlus_val (p q : List (BitVec 64)) : RQ (rfPlus p q rfD) = qadd (RQ p) (RQ q) := by
  unfold rfPlus
  rw [cuts4w (wMul_len _ _) (wMul_len _ _) (wMul_len _ _) (wMul_len _ _)]
  simp only [ZW_mul, ZW_sub, ZW_add, rfD_val]
  rw [c_law, e_law]
  rfl
theorem rfZero_val : RQ rfZero = qzero := by
  unfold rfZero
  rw [cuts4w (by simp) (by simp) (by simp) (by simp), ZW_none, ZW_1]
  rfl
theorem rfMlt_run (n p : List (BitVec 64)) : ∀ j, j ≤ 256 → RQ (rfMlt_L4 n p j) = qmul (RQ p) (wV n) j := by
  intro j
  induction j with
  | zero =>
    intro _
    rw [rfMlt_L4, qmul]
    exact rfZero_val
  | succ j ih =>
    intro hj
    have h2 := ih (by omega)
    rw [rfMlt_L4, rfMlt_L4_S, qmul, wexp_bit n (255 - j) (by omega)]
    by_cases hc : wV n / 2 ^ (255 - j) % 2 = 1
    · rw [if_pos (decide_eq_true hc), if_pos hc, rfPlus_val, rfPlus_val, h2]
    · rw [if_neg (by rw [decide_eq_false hc]; decide), if_neg hc, rfPlus_val, h2]
theorem rfMlt_val (n : List (BitVec 64)) {p : List (BitVec 64)} {P : OPt} (hr : Rep (RQ p) P.p) : Rep (RQ (rfMlt n p)) (omul P (wV n)).p := by
  unfold rfMlt
  rw [rfMlt_run n p 256 (Nat.le_refl _)]
  exact rep_times P.on hr _ (wV_lt n)
theorem rfAddP_val {p q : List (BitVec 64)} {P Q : OPt} (h1 : Rep (RQ p) P.p) (h2 : Rep (RQ q) Q.p) : Rep (RQ (rfPlus p q rfD)) (oadd P Q).p := by
  rw [rfPlus_val]
  exact rep_add P.on Q.on h1 h2
theorem W_odd (x : Fp) : ((nth (WF x) 0 &&& 1#64) == 1#64) = decide (x.val % 2 = 1) := by
  have e0 : nth (WF x) 0 = BitVec.ofNat 64 x.val := rfl
  have e : (nth (WF x) 0 &&& 1#64).toNat = x.val % 2 := by
    rw [BitVec.toNat_and, e0, BitVec.toNat_ofNat]
    have := Nat.and_two_pow_sub_one_eq_mod (x.val % 2 ^ 64) 1
    rw [show (1#64 : BitVec 64).toNat = 2 ^ 1 - 1 from rfl, this]
    omega
  by_cases h : x.val % 2 = 1
  · rw [decide_eq_true h, beq_iff_eq]
    apply BitVec.eq_of_toNat_eq
    rw [e, h]; rfl
  · rw [decide_eq_false h, beq_eq_false_iff_ne]
    intro hx
    apply h
    rw [← e, hx]; rfl
theorem rB_W (u : Fp) : rB (WF u) = F u := by
  unfold rB F
  rw [WF_val]
theorem rfEnc_enc {p : List (BitVec 64)} {P : OPt} (hr : Rep (RQ p) P.p) : rfEnc p = enc P := by
  obtain ⟨z, ex, ey, _⟩ := hr
  have hx : wMul (cut p 0 4) (wInv (cut p 8 4)) = WF P.p.x := by
    unfold wMul
    rw [ZW_inv]
    exact congrArg WF (quot_mul z ex)
  have hy : wMul (cut p 4 4) (wInv (cut p 8 4)) = WF P.p.y := by
    unfold wMul
    rw [ZW_inv]
    exact congrArg WF (quot_mul z ey)
  have hl : leS (F P.p.y) 32 < MM := by
    rw [leS_F]
    exact Nat.lt_trans P.p.y.isLt (by decide)
  unfold rfEnc
  rw [hx, hy, W_odd, rB_W]
  by_cases ho : P.p.x.val % 2 = 1
  · rw [if_pos (decide_eq_true ho)]
    refine (enc_of (by rw [put_length, F_len]) ?_).symm
    rw [top_or (F_len _) hl, leS_F]
    unfold encN
    rw [ho, Nat.one_mul]
  · rw [if_neg (by rw [decide_eq_false ho]; decide)]
    refine (enc_of (F_len _) ?_).symm
    rw [leS_F]
    unfold encN
    rw [show P.p.x.val % 2 = 0 by omega, Nat.zero_mul, Nat.add_zero]
def rdY (b : List (BitVec 8)) : List (BitVec 64) := rfOf (put b 31 ((nth b 31) &&& 127#8))
def rdXX (b : List (BitVec 8)) : List (BitVec 64) := wMul (wSub (wMul (rdY b) (rdY b)) (put (zer64 4) 0 1#64)) (wInv (wAdd (wMul rfD (wMul (rdY b) (rdY b))) (put (zer64 4) 0 1#64)))
def rdX (b : List (BitVec 8)) : List (BitVec 64) := if unO b = true then wSub (zer64 4) (wRoot (rdXX b)) else wRoot (rdXX b)
def rdP (b : List (BitVec 8)) : List (BitVec 64) := if unOk b = true then rdX b ++ rdY b ++ (put (zer64 4) 0 1#64) ++ (wMul (rdX b) (rdY b)) else zer64 16
theorem rdY_len {b : List (BitVec 8)} (hb : b.length = 32) : (rdY b).length = 4 := by
  unfold rdY
  exact rfOf_len _ (by rw [put_length, hb])
theorem rdX_len (b : List (BitVec 8)) : (rdX b).length = 4 := by
  unfold rdX
  split
  · exact wSub_len _ _
  · unfold wRoot; rfl
@[simp] theorem rdP_len (b : List (BitVec 8)) (hb : b.length = 32) : (rdP b).length = 16 := by
  unfold rdP
  split
  · simp [rdX_len, rdY_len hb]
  · simp
theorem rdY_val {b : List (BitVec 8)} (hb : b.length = 32) : wV (rdY b) = lowN b := by
  unfold rdY lowN
  rw [ZW_of, top_and hb]
theorem rdXX_val {b : List (BitVec 8)} (hb : b.length = 32) : ZW (rdXX b) = xxOf (zf (lowN b)) := by
  have hy : ZW (rdY b) = zf (lowN b) := by unfold ZW; rw [rdY_val hb]
  unfold rdXX
  rw [ZW_mul, ZW_sub, ZW_mul, ZW_inv, ZW_add, ZW_mul, ZW_mul, rfD_val, ZW_1, hy]
  rfl
theorem rd_less {b : List (BitVec 8)} (hb : b.length = 32) {r : Bool} (h : unC b = r) : (rfsub1 (rdY b) rfP == 1#64) = r := by
  rw [← h, unCd hb, ← rdY_val hb]
  obtain ⟨e, hc⟩ := rfsub_val (a := rdY b) (b := rfP) (rdY_len hb) (by simp)
  have l1 := wV_lt (rfsub0 (rdY b) rfP)
  have l2 := wV_lt (rdY b)
  rw [rfP_val] at e
  change _ + 57896044618658097711785492504343953926634992332820282019728792003956564819949 = _ at e
  by_cases h : wV (rdY b) < PP
  · rw [decide_eq_true h, beq_iff_eq]
    change _ < 57896044618658097711785492504343953926634992332820282019728792003956564819949 at h
    apply BitVec.eq_of_toNat_eq
    show _ = 1
    omega
  · rw [decide_eq_false h, beq_eq_false_iff_ne]
    change ¬ _ < 57896044618658097711785492504343953926634992332820282019728792003956564819949 at h
    intro h2
    have : (rfsub1 (rdY b) rfP).toNat = 1 := by rw [h2]; rfl
    omega
theorem rd_root {b : List (BitVec 8)} (hb : b.length = 32) {r : Bool} (h : unIs b = r) : wRootIs (rdXX b) = r := by
  rw [← h, unIs_eq hb]
  unfold wRootIs
  rw [rdXX_val hb]
theorem rd_even {b : List (BitVec 8)} (hb : b.length = 32) (h : unIs b = true) : wRoot (rdXX b) = WF (evenF (rootF (xxOf (zf (lowN b))))) := by
  rw [unIs_eq hb] at h
  unfold wRoot
  rw [rdXX_val hb, if_pos (of_decide_eq_true h)]
theorem rd_zero {b : List (BitVec 8)} (hb : b.length = 32) (h1 : unIs b = true) {r : Bool} (h : unZ b = r) : decide (wRoot (rdXX b) = zer64 4) = r := by
  rw [← h, unZ_eq hb, rd_even hb h1, zero_words]
  refine decide_eq_decide.2 ?_
  rw [WF_inj]
  refine ⟨fun e => ?_, fun e => ?_⟩
  · rcases evenF_or (rootF (xxOf (zf (lowN b)))) with g | g
    · rw [← g, e]
    · rw [e] at g
      exact evenZ g
  · rw [e]
    decide +kernel
theorem rfDec_ev (b : List (BitVec 8)) (hb : b.length = 32) : Ev Try.prog (.call 40 [.agg (.a8 b)] []) (.val (.tup [.agg (.a64 (rdP b)), .c (.val (.bool (unOk b)))]) []) := by
  have yl := rdY_len hb
  have ye : Ev Try.prog (.call 55 [.agg (.a8 (put b 31 ((nth b 31) &&& 127#8)))] []) (.val (.agg (.a64 (rdY b))) []) := rfOf_ev _ (by rw [put_length, hb])
  have re : Ev Try.prog (.call 79 [.agg (.a64 (rdXX b))] []) (.val (.tup [.agg (.a64 (wRoot (rdXX b))), .c (.val (.bool (wRootIs (rdXX b))))]) []) := wRoot_ev _ (by unfold rdXX; exact wMul_len _ _)
  have rl : (wRoot (rdXX b)).length = 4 := by unfold wRoot; rfl
  have dl : rfD.length = 4 := by simp
  have hXX : rdXX b = wMul (wSub (wMul (rdY b) (rdY b)) (put (zer64 4) 0 1#64)) (wInv (wAdd (wMul rfD (wMul (rdY b) (rdY b))) (put (zer64 4) 0 1#64))) := rfl
  cases hC : unC b with
  | false =>
    have e : unOk b = false := by unfold unOk; rw [hC]; rfl
    have e2 : rdP b = zer64 16 := by unfold rdP; rw [e]; rfl
    rw [e, e2]
    rw [hXX] at re
    exact rfDecA_ev b hb wMul wMul_len wMul_ev wSub wSub_len wSub_ev wAdd wAdd_len wAdd_ev wInv wInv_len wInv_ev _ yl ye rfD dl rfD_ev _ rl _ re (rd_less hb hC)
  | true =>
    cases hR : unIs b with
    | false =>
      have e : unOk b = false := by unfold unOk; rw [hC, hR]; rfl
      have e2 : rdP b = zer64 16 := by unfold rdP; rw [e]; rfl
      rw [e, e2]
      rw [hXX] at re
      exact rfDecB_ev b hb wMul wMul_len wMul_ev wSub wSub_len wSub_ev wAdd wAdd_len wAdd_ev wInv wInv_len wInv_ev _ yl ye rfD dl rfD_ev _ rl _ re (rd_less hb hC) (rd_root hb hR)
    | true =>
      cases hO : unO b with
      | false =>
        have e : unOk b = true := by unfold unOk; rw [hC, hR, hO]; rfl
        have e2 : rdP b = wRoot (rdXX b) ++ rdY b ++ (put (zer64 4) 0 1#64) ++ (wMul (wRoot (rdXX b)) (rdY b)) := by unfold rdP rdX; rw [e, hO]; rfl
        rw [e, e2]
        cases hZ : unZ b with
        | true =>
          have hz := rd_zero hb hR hZ
          rw [hXX] at re
          exact rfDecH_ev b hb wMul wMul_len wMul_ev wSub wSub_len wSub_ev wAdd wAdd_len wAdd_ev wInv wInv_len wInv_ev _ yl ye rfD dl rfD_ev _ rl _ re (rd_less hb hC) (rd_root hb hR) (eqO b hO) hz
        | false =>
          have hz := rd_zero hb hR hZ
          rw [hXX] at re
          exact rfDecE_ev b hb wMul wMul_len wMul_ev wSub wSub_len wSub_ev wAdd wAdd_len wAdd_ev wInv wInv_len wInv_ev _ yl ye rfD dl rfD_ev _ rl _ re (rd_less hb hC) (rd_root hb hR) (eqO b hO) hz
      | true =>
        cases hZ : unZ b with
        | true =>
          have hz := rd_zero hb hR hZ
          have e : unOk b = false := by unfold unOk; rw [hC, hR, hO, hZ]; rfl
          have e2 : rdP b = zer64 16 := by unfold rdP; rw [e]; rfl
          rw [e, e2]
          rw [hXX] at re
          exact rfDecD_ev b hb wMul wMul_len wMul_ev wSub wSub_len wSub_ev wAdd wAdd_len wAdd_ev wInv wInv_len wInv_ev _ yl ye rfD dl rfD_ev _ rl _ re (rd_less hb hC) (rd_root hb hR) (eqO b hO) hz
        | false =>
          have hz := rd_zero hb hR hZ
          have e : unOk b = true := by unfold unOk; rw [hC, hR, hO, hZ]; rfl
          have e2 : rdP b = wSub (zer64 4) (wRoot (rdXX b)) ++ rdY b ++ (put (zer64 4) 0 1#64) ++ (wMul (wSub (zer64 4) (wRoot (rdXX b))) (rdY b)) := by unfold rdP rdX; rw [e, hO]; rfl
          rw [e, e2]
          rw [hXX] at re
          exact rfDecF_ev b hb wMul wMul_len wMul_ev wSub wSub_len wSub_ev wAdd wAdd_len wAdd_ev wInv wInv_len wInv_ev _ yl ye rfD dl rfD_ev _ rl _ re (rd_less hb hC) (rd_root hb hR) (eqO b hO) hz
theorem rdP_rep {b : List (BitVec 8)} (hb : b.length = 32) (P : OPt) (hP : b = enc P) : Rep (RQ (rdP b)) P.p := by
  have hok : unOk b = true := by rw [hP]; exact unOk_enc P
  have hR : unIs b = true := by
    unfold unOk at hok
    simp only [Bool.and_eq_true] at hok
    exact hok.2.1
  have hy : ZW (rdY b) = P.p.y := by
    unfold ZW
    rw [rdY_val hb]
    unfold lowN
    rw [hP, leS_enc, (encN_parts P).2.1, zf_self]
  have hl : zf (lowN b) = P.p.y := by rw [← hy]; unfold ZW; rw [rdY_val hb]
  have ho : unO b = true ↔ P.p.x.val % 2 = 1 := by
    rw [unOd, decide_eq_true_eq, hP, leS_enc]
    exact (encN_parts P).2.2
  have hr := (unIs_eq hb).symm.trans hR
  have hr := of_decide_eq_true hr
  have hx : ZW (rdX b) = P.p.x := by
    unfold rdX
    rw [rd_even hb hR]
    by_cases hc : unO b = true
    · rw [if_pos hc, ZW_sub, ZW_none, ZW_WF, zero_sub_neg]
      refine sq_par ?_ ?_
      · rw [neg_sqF, evenF_sq, hr, hl, On_xx]
      · have hp := ho.1 hc
        rw [hp, neg_par, evenF_even]
        intro h0
        have h1 := evenF_sq (rootF (xxOf (zf (lowN b))))
        rw [h0, hr, hl, ← On_xx, zero_mulF] at h1
        have hx0 : P.p.x = 0 := by rcases nozero h1.symm with h | h <;> exact h
        rw [hx0] at hp
        change 0 % 2 = 1 at hp
        omega
    · rw [if_neg hc, ZW_WF]
      refine sq_par ?_ ?_
      · rw [evenF_sq, hr, hl, On_xx]
      · rw [evenF_even]
        have := mt ho.2 hc
        omega
  unfold rdP
  rw [if_pos hok, cuts4w (rdX_len b) (rdY_len hb) (by simp) (wMul_len _ _), ZW_mul, ZW_1, hx, hy]
  exact rep_one
attribute [irreducible] rdP
end Go.Proofs.Ytcgncafhonlmlaa
namespace Go.Proofs.Ytcgncafhonlmlaa
open Go.RowKit
set_option maxRecDepth 100000 in
set_option maxHeartbeats 2000000 in
theorem rfBs0G_ev   (wMul : List (BitVec 64) → List (BitVec 64) → List (BitVec 64)) (wMul_len : ∀ a b : List (BitVec 64), (wMul a b).length = 4) (wMul_ev : ∀ a b : List (BitVec 64), a.length = 4 → b.length = 4 → Ev Try.prog (.call 78 [.agg (.a64 a), .agg (.a64 b)] []) (.val (.agg (.a64 (wMul a b))) [])) (wInv : List (BitVec 64) → List (BitVec 64)) (wInv_len : ∀ a : List (BitVec 64), (wInv a).length = 4) (wInv_ev : ∀ a : List (BitVec 64), a.length = 4 → Ev Try.prog (.call 81 [.agg (.a64 a)] []) (.val (.agg (.a64 (wInv a))) [])) : Ev Try.prog (.call 56 [] []) (.val (.agg (.a64 (rdP (rB (wMul (put (zer64 4) 0 4#64) (wInv (put (zer64 4) 0 5#64))))))) []) := by
  refine c_call Try.func56 rfl Try.ntmps56 rfl LEN_ ?_
  refine S_ ?_
  refine c_region ?_
  refine s_memN (m_alloc al_64 LEN_) APP_ rfl ?_
  refine s_nil ?_
  have hQ1 : (wInv (put (zer64 4) 0 5#64)).length = 4 := LQ_
  have hQ2 : (wMul (put (zer64 4) 0 4#64) (wInv (put (zer64 4) 0 5#64))).length = 4 := LQ_
  refine S_ ?_
  refine c_region ?_
  refine s_val (v_blf64 (l := (put (zer64 4) 0 (4#64))) za_42 Try.underlying42 sz_40 rfl rfl) rfl ?_
  refine s_val (v_blf64 (l := (put (zer64 4) 0 (5#64))) za_42 Try.underlying42 sz_40 rfl rfl) rfl ?_
  refine s_evN (e_callR (bs := []) (wInv_ev (put (zer64 4) 0 5#64) HYP_) ok_81 (by kernel_rfl) (by kernel_rfl) rfl VAL_) APP_ rfl ?_
  refine s_evN (e_callR (bs := []) (wMul_ev (put (zer64 4) 0 4#64) (wInv (put (zer64 4) 0 5#64)) HYP_ HYP_) ok_78 (by kernel_rfl) (by kernel_rfl) rfl VAL_) APP_ rfl ?_
  refine s_memN (m_alloc al_42 LEN_) APP_ rfl ?_
  refine s_storeR rfl rfl rfl rfl sz_42 EQ_ EQ_ SET_ ?_
  refine s_nil ?_
  have hQ3 : (rB (wMul (put (zer64 4) 0 4#64) (wInv (put (zer64 4) 0 5#64)))).length = 32 := LQ_
  have hQ4 : (rdP (rB (wMul (put (zer64 4) 0 4#64) (wInv (put (zer64 4) 0 5#64))))).length = 16 := LQ_
  refine S_ ?_
  refine c_region ?_
  refine s_val (v_loadR rfl rfl row_42 sz_42 EQ_ (by decide)) rfl ?_
  refine s_evN (e_callR (bs := []) (rB_ev (wMul (put (zer64 4) 0 4#64) (wInv (put (zer64 4) 0 5#64))) HYP_) ok_21 (by kernel_rfl) (by kernel_rfl) rfl VAL_) APP_ rfl ?_
  refine s_evN (e_callR (bs := []) (rfDec_ev (rB (wMul (put (zer64 4) 0 4#64) (wInv (put (zer64 4) 0 5#64)))) HYP_) ok_40 (by kernel_rfl) (by kernel_rfl) rfl VAL_) APP_ rfl ?_
  refine s_val (v_moveT rfl) rfl ?_
  refine s_val (v_extract rfl rfl) rfl ?_
  refine s_val (v_extract rfl rfl) rfl ?_
  refine s_memN (m_alloc al_64 LEN_) APP_ rfl ?_
  refine s_storeR rfl rfl rfl rfl sz_64 EQ_ EQ_ SET_ ?_
  refine s_val (v_assignC rfl) rfl ?_
  refine s_nil ?_
  refine S_ ?_
  refine c_region ?_
  refine s_val (v_loadR rfl rfl row_64 sz_64 EQ_ (by decide)) rfl ?_
  refine s_storeR rfl rfl rfl rfl sz_64 EQ_ EQ_ SET_ ?_
  refine s_nil ?_
  refine S_ ?_
  exact k_1 (r_row rfl rfl row_64 sz_64 EQ_ (by decide)) (by first | kernel_rfl | rfl)
end Go.Proofs.Ytcgncafhonlmlaa
namespace Go.Proofs.Ytcgncafhonlmlaa
open Go.RowKit
def rfBs0  : List (BitVec 64) := rdP (rB (wMul (put (zer64 4) 0 4#64) (wInv (put (zer64 4) 0 5#64))))
theorem rfBs0_ev   : Ev Try.prog (.call 56 [] []) (.val (.agg (.a64 (rfBs0 ))) []) := by
  unfold rfBs0
  exact rfBs0G_ev   wMul wMul_len wMul_ev wInv wInv_len wInv_ev
@[simp] theorem rfBs0_len   : (rfBs0 ).length = 16 := by
  unfold rfBs0
  first | (simp [*]; done) | (split <;> simp [*])
attribute [irreducible] rfBs0
end Go.Proofs.Ytcgncafhonlmlaa
namespace Go.Proofs.Ytcgncafhonlmlaa
open Go.RowKit
def rfSumT0 (p : List (BitVec 8)) (q : List (BitVec 8)) : List (BitVec 8) := rfEnc (rfPlus (rdP p) (rdP q) rfD)
set_option maxRecDepth 100000 in
set_option maxHeartbeats 2000000 in
theorem rfSumT_ev (p : List (BitVec 8)) (q : List (BitVec 8)) (hp : p.length = 32) (hq : q.length = 32) (hk : unOk p = true) (hq_ : unOk q = true) : Ev Try.prog (.call 42 [.agg (.a8 (p)), .agg (.a8 (q))] []) (.val (.tup [.agg (.a8 (rfSumT0 p q)), .c (.val (.bool (true)))]) []) := by
  have hP_rfSumT0 : Hid (rfSumT0 p q = rfEnc (rfPlus (rdP p) (rdP q) rfD)) := ⟨rfl⟩
  refine c_call Try.func42 rfl Try.ntmps42 rfl LEN_ ?_
  refine S_ ?_
  refine c_region ?_
  refine s_memN (m_box BX_ LEN_) APP_ rfl ?_
  refine s_memN (m_box BX_ LEN_) APP_ rfl ?_
  refine s_memN (m_alloc al_22 LEN_) APP_ rfl ?_
  refine s_val (v_assignC rfl) rfl ?_
  refine s_nil ?_
  have hQ2 : (rdP p).length = 16 := LQ_
  have hE1 : (unOk p) = true := hk
  refine S_ ?_
  refine c_region ?_
  refine s_val (v_loadR rfl rfl row_22 sz_22 EQ_ (by decide)) rfl ?_
  refine s_evN (e_callR (bs := []) (rfDec_ev p HYP_) ok_40 (by kernel_rfl) (by kernel_rfl) rfl VAL_) APP_ rfl ?_
  refine s_val (v_moveT rfl) rfl ?_
  refine s_val (v_extract rfl rfl) rfl ?_
  refine s_val (v_bool (v_extract rfl rfl) hE1) rfl ?_
  refine s_memN (m_alloc al_64 LEN_) APP_ rfl ?_
  refine s_storeR rfl rfl rfl rfl sz_64 EQ_ EQ_ SET_ ?_
  refine s_val (v_assignC rfl) rfl ?_
  refine s_nil ?_
  have hQ4 : (rdP q).length = 16 := LQ_
  have hE3 : (unOk q) = true := hq_
  refine S_ ?_
  refine c_region ?_
  refine s_val (v_loadR rfl rfl row_22 sz_22 EQ_ (by decide)) rfl ?_
  refine s_evN (e_callR (bs := []) (rfDec_ev q HYP_) ok_40 (by kernel_rfl) (by kernel_rfl) rfl VAL_) APP_ rfl ?_
  refine s_val (v_moveT rfl) rfl ?_
  refine s_val (v_extract rfl rfl) rfl ?_
  refine s_val (v_bool (v_extract rfl rfl) hE3) rfl ?_
  refine s_memN (m_alloc al_64 LEN_) APP_ rfl ?_
  refine s_storeR rfl rfl rfl rfl sz_64 EQ_ EQ_ SET_ ?_
  refine s_val (v_assignC rfl) rfl ?_
  refine s_nil ?_
  refine S_ ?_
  refine c_region ?_
  refine s_val (v_moveC rfl) rfl ?_
  refine s_val (v_unnotB rfl) rfl ?_
  refine s_val (v_moveC rfl) rfl ?_
  refine s_go GO_ ?_
  refine s_val (v_moveC rfl) rfl ?_
  refine s_go GO_ ?_
  refine s_val (v_unnotB rfl) rfl ?_
  refine s_val (v_pickF rfl PK_ rfl) rfl ?_
  refine s_nil ?_
  have hQ5 : (rfD).length = 4 := LQ_
  have hQ6 : (rfPlus (rdP p) (rdP q) rfD).length = 16 := LQ_
  have hQ7 : (rfEnc (rfPlus (rdP p) (rdP q) rfD)).length = 32 := LQ_
  refine S_ ?_
  refine c_draw 5 mixed (by kernel_rfl) rfl rfl rfl ?_
  refine h_val (v_loadR rfl rfl row_64 sz_64 EQ_ (by decide)) rfl ?_
  refine h_val (v_loadR rfl rfl row_64 sz_64 EQ_ (by decide)) rfl ?_
  refine h_evN (e_callR (bs := []) (rfD_ev) ok_83 (by kernel_rfl) (by kernel_rfl) rfl VAL_) APP_ rfl ?_
  refine h_evN (e_callR (bs := []) (rfPlus_ev (rdP p) (rdP q) rfD HYP_ HYP_ HYP_) ok_84 (by kernel_rfl) (by kernel_rfl) rfl VAL_) APP_ rfl ?_
  refine h_evN (e_callR (bs := []) (rfEnc_ev (rfPlus (rdP p) (rdP q) rfD) HYP_) ok_53 (by kernel_rfl) (by kernel_rfl) rfl VAL_) APP_ rfl ?_
  refine h_nil ?_
  refine s_storeR rfl rfl rfl rfl sz_22 EQ_ EQ_ SET_ ?_
  refine s_val (v_assignC rfl) rfl ?_
  refine s_nil ?_
  refine S_ ?_
  rw [hP_rfSumT0.out]
  exact k_2 (r_row rfl rfl row_22 sz_22 EQ_ (by decide)) (by first | exact r_tmpC rfl | exact r_tmpA rfl) (by first | kernel_rfl | rfl)
@[simp] theorem rfSumT0_len (p : List (BitVec 8)) (q : List (BitVec 8)) (hp : p.length = 32) (hq : q.length = 32) : (rfSumT0 p q).length = 32 := by
  unfold rfSumT0
  first | (simp (maxDischargeDepth := 9) [*]; done) | (simp (maxDischargeDepth := 9) [*]; omega) | (split <;> (simp (maxDischargeDepth := 9) [*]; done))
attribute [irreducible] rfSumT0
def rfSumF0  : List (BitVec 8) := zer8 32
@[simp] theorem rfSumF0_len  : (rfSumF0).length = 32 := by
  unfold rfSumF0
  first | (simp (maxDischargeDepth := 9) [*]; done) | (simp (maxDischargeDepth := 9) [*]; omega) | (split <;> (simp (maxDischargeDepth := 9) [*]; done))
attribute [irreducible] rfSumF0
def rfSumN0  : List (BitVec 8) := zer8 32
@[simp] theorem rfSumN0_len  : (rfSumN0).length = 32 := by
  unfold rfSumN0
  first | (simp (maxDischargeDepth := 9) [*]; done) | (simp (maxDischargeDepth := 9) [*]; omega) | (split <;> (simp (maxDischargeDepth := 9) [*]; done))
attribute [irreducible] rfSumN0
def rfTmsT0 (n : List (BitVec 8)) (p : List (BitVec 8)) : List (BitVec 8) := rfEnc (rfMlt (rfOf n) (rdP p))
set_option maxRecDepth 100000 in
set_option maxHeartbeats 2000000 in
theorem rfTmsT_ev (n : List (BitVec 8)) (p : List (BitVec 8)) (hn : n.length = 32) (hp : p.length = 32) (hk : unOk p = true) : Ev Try.prog (.call 41 [.agg (.a8 (n)), .agg (.a8 (p))] []) (.val (.tup [.agg (.a8 (rfTmsT0 n p)), .c (.val (.bool (true)))]) []) := by
  have hP_rfTmsT0 : Hid (rfTmsT0 n p = rfEnc (rfMlt (rfOf n) (rdP p))) := ⟨rfl⟩
  refine c_call Try.func41 rfl Try.ntmps41 rfl LEN_ ?_
  refine S_ ?_
  refine c_region ?_
  refine s_memN (m_box BX_ LEN_) APP_ rfl ?_
  refine s_memN (m_box BX_ LEN_) APP_ rfl ?_
  refine s_memN (m_alloc al_22 LEN_) APP_ rfl ?_
  refine s_val (v_assignC rfl) rfl ?_
  refine s_nil ?_
  have hQ2 : (rdP p).length = 16 := LQ_
  have hE1 : (unOk p) = true := hk
  refine S_ ?_
  refine c_region ?_
  refine s_val (v_loadR rfl rfl row_22 sz_22 EQ_ (by decide)) rfl ?_
  refine s_evN (e_callR (bs := []) (rfDec_ev p HYP_) ok_40 (by kernel_rfl) (by kernel_rfl) rfl VAL_) APP_ rfl ?_
  refine s_val (v_moveT rfl) rfl ?_
  refine s_val (v_extract rfl rfl) rfl ?_
  refine s_val (v_bool (v_extract rfl rfl) hE1) rfl ?_
  refine s_memN (m_alloc al_64 LEN_) APP_ rfl ?_
  refine s_storeR rfl rfl rfl rfl sz_64 EQ_ EQ_ SET_ ?_
  refine s_val (v_assignC rfl) rfl ?_
  refine s_nil ?_
  refine S_ ?_
  refine c_region ?_
  refine s_val (v_moveC rfl) rfl ?_
  refine s_val (v_unnotB rfl) rfl ?_
  refine s_nil ?_
  have hQ3 : (rfOf n).length = 4 := LQ_
  have hQ4 : (rfMlt (rfOf n) (rdP p)).length = 16 := LQ_
  have hQ5 : (rfEnc (rfMlt (rfOf n) (rdP p))).length = 32 := LQ_
  refine S_ ?_
  refine c_draw 5 mixed (by kernel_rfl) rfl rfl rfl ?_
  refine h_val (v_loadR rfl rfl row_22 sz_22 EQ_ (by decide)) rfl ?_
  refine h_evN (e_callR (bs := []) (rfOf_ev n HYP_) ok_55 (by kernel_rfl) (by kernel_rfl) rfl VAL_) APP_ rfl ?_
  refine h_val (v_loadR rfl rfl row_64 sz_64 EQ_ (by decide)) rfl ?_
  refine h_evN (e_callR (bs := []) (rfMlt_ev (rfOf n) (rdP p) HYP_ HYP_) ok_54 (by kernel_rfl) (by kernel_rfl) rfl VAL_) APP_ rfl ?_
  refine h_evN (e_callR (bs := []) (rfEnc_ev (rfMlt (rfOf n) (rdP p)) HYP_) ok_53 (by kernel_rfl) (by kernel_rfl) rfl VAL_) APP_ rfl ?_
  refine h_nil ?_
  refine s_storeR rfl rfl rfl rfl sz_22 EQ_ EQ_ SET_ ?_
  refine s_val (v_assignC rfl) rfl ?_
  refine s_nil ?_
  refine S_ ?_
  rw [hP_rfTmsT0.out]
  exact k_2 (r_row rfl rfl row_22 sz_22 EQ_ (by decide)) (by first | exact r_tmpC rfl | exact r_tmpA rfl) (by first | kernel_rfl | rfl)
@[simp] theorem rfTmsT0_len (n : List (BitVec 8)) (p : List (BitVec 8)) (hn : n.length = 32) (hp : p.length = 32) : (rfTmsT0 n p).length = 32 := by
  unfold rfTmsT0
  first | (simp (maxDischargeDepth := 9) [*]; done) | (simp (maxDischargeDepth := 9) [*]; omega) | (split <;> (simp (maxDischargeDepth := 9) [*]; done))
attribute [irreducible] rfTmsT0
def rfTmsF0  : List (BitVec 8) := zer8 32
set_option maxRecDepth 100000 in
set_option maxHeartbeats 2000000 in
theorem rfTmsF_ev (n : List (BitVec 8)) (p : List (BitVec 8)) (hn : n.length = 32) (hp : p.length = 32) (hk : unOk p = false) : Ev Try.prog (.call 41 [.agg (.a8 (n)), .agg (.a8 (p))] []) (.val (.tup [.agg (.a8 (rfTmsF0)), .c (.val (.bool (false)))]) []) := by
  have hP_rfTmsF0 : Hid (rfTmsF0 = zer8 32) := ⟨rfl⟩
  refine c_call Try.func41 rfl Try.ntmps41 rfl LEN_ ?_
  refine S_ ?_
  refine c_region ?_
  refine s_memN (m_box BX_ LEN_) APP_ rfl ?_
  refine s_memN (m_box BX_ LEN_) APP_ rfl ?_
  refine s_memN (m_alloc al_22 LEN_) APP_ rfl ?_
  refine s_val (v_assignC rfl) rfl ?_
  refine s_nil ?_
  have hQ2 : (rdP p).length = 16 := LQ_
  have hE1 : (unOk p) = false := hk
  refine S_ ?_
  refine c_region ?_
  refine s_val (v_loadR rfl rfl row_22 sz_22 EQ_ (by decide)) rfl ?_
  refine s_evN (e_callR (bs := []) (rfDec_ev p HYP_) ok_40 (by kernel_rfl) (by kernel_rfl) rfl VAL_) APP_ rfl ?_
  refine s_val (v_moveT rfl) rfl ?_
  refine s_val (v_extract rfl rfl) rfl ?_
  refine s_val (v_bool (v_extract rfl rfl) hE1) rfl ?_
  refine s_memN (m_alloc al_64 LEN_) APP_ rfl ?_
  refine s_storeR rfl rfl rfl rfl sz_64 EQ_ EQ_ SET_ ?_
  refine s_val (v_assignC rfl) rfl ?_
  refine s_nil ?_
  refine S_ ?_
  refine c_region ?_
  refine s_val (v_moveC rfl) rfl ?_
  refine s_val (v_unnotB rfl) rfl ?_
  refine s_nil ?_
  refine S_ ?_
  refine c_region ?_
  refine s_val (v_blf8 (l := (zer8 32)) za_22 Try.underlying22 sz_5 rfl rfl) rfl ?_
  refine s_storeR rfl rfl rfl rfl sz_22 EQ_ EQ_ SET_ ?_
  refine s_val (v_assignC rfl) rfl ?_
  refine s_nil ?_
  refine S_ ?_
  rw [hP_rfTmsF0.out]
  exact k_2 (r_row rfl rfl row_22 sz_22 EQ_ (by decide)) (by first | exact r_tmpC rfl | exact r_tmpA rfl) (by first | kernel_rfl | rfl)
@[simp] theorem rfTmsF0_len  : (rfTmsF0).length = 32 := by
  unfold rfTmsF0
  first | (simp (maxDischargeDepth := 9) [*]; done) | (simp (maxDischargeDepth := 9) [*]; omega) | (split <;> (simp (maxDischargeDepth := 9) [*]; done))
attribute [irreducible] rfTmsF0
def rfBs (n : List (BitVec 8)) : List (BitVec 8) := rfEnc (rfMlt (rfOf n) rfBs0)
set_option maxRecDepth 100000 in
set_option maxHeartbeats 2000000 in
theorem rfBs_ev (n : List (BitVec 8)) (hn : n.length = 32) : Ev Try.prog (.call 27 [.agg (.a8 (n))] []) (.val (.agg (.a8 (rfBs n))) []) := by
  have hP : Hid (rfBs n = rfEnc (rfMlt (rfOf n) rfBs0)) := ⟨rfl⟩
  refine c_call Try.func27 rfl Try.ntmps27 rfl LEN_ ?_
  refine S_ ?_
  refine c_region ?_
  refine s_memN (m_box BX_ LEN_) APP_ rfl ?_
  refine s_memN (m_alloc al_22 LEN_) APP_ rfl ?_
  refine s_nil ?_
  have hQ1 : (rfOf n).length = 4 := LQ_
  have hQ2 : (rfBs0).length = 16 := LQ_
  have hQ3 : (rfMlt (rfOf n) rfBs0).length = 16 := LQ_
  have hQ4 : (rfEnc (rfMlt (rfOf n) rfBs0)).length = 32 := LQ_
  refine S_ ?_
  refine c_region ?_
  refine s_val (v_loadR rfl rfl row_22 sz_22 EQ_ (by decide)) rfl ?_
  refine s_evN (e_callR (bs := []) (rfOf_ev n HYP_) ok_55 (by kernel_rfl) (by kernel_rfl) rfl VAL_) APP_ rfl ?_
  refine s_evN (e_callR (bs := []) (rfBs0_ev) ok_56 (by kernel_rfl) (by kernel_rfl) rfl VAL_) APP_ rfl ?_
  refine s_evN (e_callR (bs := []) (rfMlt_ev (rfOf n) rfBs0 HYP_ HYP_) ok_54 (by kernel_rfl) (by kernel_rfl) rfl VAL_) APP_ rfl ?_
  refine s_evN (e_callR (bs := []) (rfEnc_ev (rfMlt (rfOf n) rfBs0) HYP_) ok_53 (by kernel_rfl) (by kernel_rfl) rfl VAL_) APP_ rfl ?_
  refine s_storeR rfl rfl rfl rfl sz_22 EQ_ EQ_ SET_ ?_
  refine s_nil ?_
  refine S_ ?_
  rw [hP.out]
  exact k_1 (r_row rfl rfl row_22 sz_22 EQ_ (by decide)) (by first | kernel_rfl | rfl)
@[simp] theorem rfBs_len (n : List (BitVec 8)) (hn : n.length = 32) : (rfBs n).length = 32 := by
  unfold rfBs
  first | (simp (maxDischargeDepth := 9) [*]; done) | (simp (maxDischargeDepth := 9) [*]; omega) | (split <;> (simp (maxDischargeDepth := 9) [*]; done))
attribute [irreducible] rfBs
end Go.Proofs.Ytcgncafhonlmlaa
namespace Go.Proofs.Ytcgncafhonlmlaa
open Go.RowKit
theorem rs_sum {p q : List (BitVec 8)} (hp : p.length = 32) (hq : q.length = 32) (hk : unOk p = true) (hq_ : unOk q = true) : rfSumT0 p q = cvAddT0 p q := by
  obtain ⟨P, e1, _⟩ := unP_rep hp hk
  obtain ⟨Q, e2, _⟩ := unP_rep hq hq_
  have h1 := rdP_rep hp P e1
  have h2 := rdP_rep hq Q e2
  unfold rfSumT0
  rw [rfEnc_enc (rfAddP_val h1 h2), e1, e2, add_enc]
theorem rs_tms (n : List (BitVec 8)) {p : List (BitVec 8)} (hp : p.length = 32) (hk : unOk p = true) : rfTmsT0 n p = cvTmsT0 n p := by
  obtain ⟨P, e1, _⟩ := unP_rep hp hk
  have h1 := rdP_rep hp P e1
  unfold rfTmsT0
  rw [rfEnc_enc (rfMlt_val _ h1), e1, tms_enc, ZW_of]
theorem base_y : rB (wMul (put (zer64 4) 0 4#64) (wInv (put (zer64 4) 0 5#64))) = enc obase := by
  have h4 : zf (4#64 : BitVec 64).toNat * invF (zf (5#64 : BitVec 64).toNat) = bY := quot_mul (by decide +kernel) (by decide +kernel)
  unfold wMul
  rw [rB_W, ZW_inv, ZW_one, ZW_one, h4]
  unfold F enc encN
  decide +kernel
theorem rs_base (n : List (BitVec 8)) : rfBs n = enc (oB n) := by
  unfold rfBs rfBs0
  rw [base_y, rfEnc_enc (rfMlt_val _ (rdP_rep (enc_len obase) obase rfl)), ZW_of]
  unfold oB
  rfl
theorem rsT_ev (p q : List (BitVec 8)) (hp : p.length = 32) (hq : q.length = 32) (hk : unOk p = true) (hq_ : unOk q = true) : Ev Try.prog (.call 42 [.agg (.a8 p), .agg (.a8 q)] []) (.val (.tup [.agg (.a8 (cvAddT0 p q)), .c (.val (.bool true))]) []) := by
  rw [← rs_sum hp hq hk hq_]; exact rfSumT_ev p q hp hq hk hq_
theorem rtT_ev (n p : List (BitVec 8)) (hn : n.length = 32) (hp : p.length = 32) (hk : unOk p = true) : Ev Try.prog (.call 41 [.agg (.a8 n), .agg (.a8 p)] []) (.val (.tup [.agg (.a8 (cvTmsT0 n p)), .c (.val (.bool true))]) []) := by
  rw [← rs_tms n hp hk]; exact rfTmsT_ev n p hn hp hk
theorem rbs_ev (n : List (BitVec 8)) (hn : n.length = 32) : Ev Try.prog (.call 27 [.agg (.a8 n)] []) (.val (.agg (.a8 (enc (oB n)))) []) := by
  rw [← rs_base]; exact rfBs_ev n hn
end Go.Proofs.Ytcgncafhonlmlaa
namespace Go.Proofs.Ytcgncafhonlmlaa
open Go.RowKit
theorem rB_of {c : List (BitVec 8)} (hc : c.length = 32) : rB (rfOf c) = c := by
  unfold rB
  rw [ZW_of, toB_leS hc]
theorem rkSeed0_same (seed : List (BitVec 8)) (hs : seed.length = 32) : rkSeed0 seed = sgHalf0 seed := by
  have h1 : (sha512 seed).length = 64 := by simp
  have h2 : (cut (sha512 seed) 0 32).length = 32 := by rw [cut_length, h1]; rfl
  unfold rkSeed0 sgHalf0 rkKey dhNum
  exact rB_of (by rw [put_length, put_length, h2])
theorem rkChal_same (r pub text : List (BitVec 8)) : rkChal r pub text = sgAns3 r pub text := by
  unfold rkChal sgAns3
  rfl
theorem rBelowV_ev (n : List (BitVec 8)) (v : Bool) (hn : n.length = 32) (h : sBelow n = v) : Ev Try.prog (.call 39 [.agg (.a8 n)] []) (.val (.c (.val (.bool v))) []) := by
  rw [← h]; exact rBelow_ev n hn
theorem rDecV_ev (b : List (BitVec 8)) (v : Bool) (hb : b.length = 32) (h : unOk b = v) : Ev Try.prog (.call 40 [.agg (.a8 b)] []) (.val (.tup [.agg (.a64 (rdP b)), .c (.val (.bool v))]) []) := by
  rw [← h]; exact rfDec_ev b hb
theorem rkSeedA_ev (seed : List (BitVec 8)) (hseed : seed.length = 32)  : Ev Try.prog (.call 26 [.agg (.a8 (seed))] []) (.val (.tup [.agg (.a8 (sgHalf0 seed)), .c (.sl 0 0 32 32 1)]) [.row true (.a8 (rkSeed1 seed))])  := by
  have h_ := rkSeed_ev seed hseed
  rw [rkSeed0_same seed hseed] at h_
  exact h_
theorem rkChalA_ev (r : List (BitVec 8)) (pub : List (BitVec 8)) (text : List (BitVec 8)) (tn : Nat) (tcap : Nat) (hr : r.length = 32) (hpub : pub.length = 32) (htext : text.length = tn) (htn : tn ≤ 1099511627)  : Ev Try.prog (.call 32 [.agg (.a8 (r)), .agg (.a8 (pub)), .c (.sl 0 0 tn tcap 1)] [.row false (.a8 (text))]) (.val (.agg (.a8 (sgAns3 r pub text))) [.row false (.a8 (text))])  := by
  have h_ := rkChal_ev r pub text tn tcap hr hpub htext htn
  rw [rkChal_same] at h_
  exact h_
end Go.Proofs.Ytcgncafhonlmlaa
namespace Go.Proofs.Ytcgncafhonlmlaa
open Go.RowKit
def rkPub (seed : List (BitVec 8)) : List (BitVec 8) := enc (oB (sgHalf0 seed))
set_option maxRecDepth 100000 in
set_option maxHeartbeats 2000000 in
theorem rkPub_ev (seed : List (BitVec 8)) (hseed : seed.length = 32) : Ev Try.prog (.call 12 [.agg (.a8 (seed))] []) (.val (.agg (.a8 (rkPub seed))) []) := by
  have hP : Hid (rkPub seed = enc (oB (sgHalf0 seed))) := ⟨rfl⟩
  refine c_call Try.func12 rfl Try.ntmps12 rfl LEN_ ?_
  refine S_ ?_
  refine c_region ?_
  refine s_memN (m_box BX_ LEN_) APP_ rfl ?_
  refine s_memN (m_alloc al_22 LEN_) APP_ rfl ?_
  refine s_nil ?_
  have hQ1 : (rkSeed1 seed).length = 32 := LQ_
  have hQ2 : (sgHalf0 seed).length = 32 := LQ_
  refine S_ ?_
  refine c_region ?_
  refine s_val (v_loadR rfl rfl row_22 sz_22 EQ_ (by decide)) rfl ?_
  refine s_evN (e_callR (bs := []) (rkSeedA_ev seed HYP_) ok_26 (by kernel_rfl) (by kernel_rfl) rfl VAL_) APP_ rfl ?_
  refine s_val (v_moveT rfl) rfl ?_
  refine s_val (v_extract rfl rfl) rfl ?_
  refine s_val (v_extract rfl rfl) rfl ?_
  refine s_memN (m_alloc al_22 LEN_) APP_ rfl ?_
  refine s_storeR rfl rfl rfl rfl sz_22 EQ_ EQ_ SET_ ?_
  refine s_val (v_assignC rfl) rfl ?_
  refine s_nil ?_
  have hQ3 : (enc (oB (sgHalf0 seed))).length = 32 := LQ_
  refine S_ ?_
  refine c_region ?_
  refine s_val (v_loadR rfl rfl row_22 sz_22 EQ_ (by decide)) rfl ?_
  refine s_evN (e_callR (bs := []) (rbs_ev (sgHalf0 seed) HYP_) ok_27 (by kernel_rfl) (by kernel_rfl) rfl VAL_) APP_ rfl ?_
  refine s_storeR rfl rfl rfl rfl sz_22 EQ_ EQ_ SET_ ?_
  refine s_nil ?_
  refine S_ ?_
  rw [hP.out]
  exact k_1 (r_row rfl rfl row_22 sz_22 EQ_ (by decide)) (by first | kernel_rfl | rfl)
@[simp] theorem rkPub_len (seed : List (BitVec 8)) (hseed : seed.length = 32) : (rkPub seed).length = 32 := by
  unfold rkPub
  first | (simp [*]; done) | (simp [*]; omega)
attribute [irreducible] rkPub
def rkSign (seed : List (BitVec 8)) (text : List (BitVec 8)) : List (BitVec 8) := over (over (zer8 64) 0 (enc (oB (sMod (sha512 ((rkSeed1 seed) ++ text)))))) 32 (sMA (sgAns3 (enc (oB (sMod (sha512 ((rkSeed1 seed) ++ text))))) (enc (oB (sgHalf0 seed))) text) (sgHalf0 seed) (sMod (sha512 ((rkSeed1 seed) ++ text))))
set_option maxRecDepth 100000 in
set_option maxHeartbeats 2000000 in
theorem rkSign_ev (seed : List (BitVec 8)) (text : List (BitVec 8)) (tn : Nat) (tcap : Nat) (hseed : seed.length = 32) (htext : text.length = tn) (htn : tn ≤ 65536) : Ev Try.prog (.call 13 [.agg (.a8 (seed)), .c (.sl 0 0 tn tcap 1)] [.row false (.a8 (text))]) (.val (.agg (.a8 (rkSign seed text))) [.row false (.a8 (text))]) := by
  have hP : Hid (rkSign seed text = over (over (zer8 64) 0 (enc (oB (sMod (sha512 ((rkSeed1 seed) ++ text)))))) 32 (sMA (sgAns3 (enc (oB (sMod (sha512 ((rkSeed1 seed) ++ text))))) (enc (oB (sgHalf0 seed))) text) (sgHalf0 seed) (sMod (sha512 ((rkSeed1 seed) ++ text))))) := ⟨rfl⟩
  subst htext
  refine c_call Try.func13 rfl Try.ntmps13 rfl LEN_ ?_
  refine S_ ?_
  refine c_region ?_
  refine s_memN (m_box BX_ LEN_) APP_ rfl ?_
  refine s_memN (m_alloc al_25 LEN_) APP_ rfl ?_
  refine s_nil ?_
  have hQ1 : (rkSeed1 seed).length = 32 := LQ_
  have hQ2 : (sgHalf0 seed).length = 32 := LQ_
  refine S_ ?_
  refine c_region ?_
  refine s_val (v_loadR rfl rfl row_22 sz_22 EQ_ (by decide)) rfl ?_
  refine s_evN (e_callR (bs := []) (rkSeedA_ev seed HYP_) ok_26 (by kernel_rfl) (by kernel_rfl) rfl VAL_) APP_ rfl ?_
  refine s_val (v_moveT rfl) rfl ?_
  refine s_val (v_extract rfl rfl) rfl ?_
  refine s_val (v_extract rfl rfl) rfl ?_
  refine s_memN (m_alloc al_22 LEN_) APP_ rfl ?_
  refine s_storeR rfl rfl rfl rfl sz_22 EQ_ EQ_ SET_ ?_
  refine s_val (v_assignC rfl) rfl ?_
  refine s_nil ?_
  have hQ3 : (enc (oB (sgHalf0 seed))).length = 32 := LQ_
  refine S_ ?_
  refine c_region ?_
  refine s_val (v_loadR rfl rfl row_22 sz_22 EQ_ (by decide)) rfl ?_
  refine s_evN (e_callR (bs := []) (rbs_ev (sgHalf0 seed) HYP_) ok_27 (by kernel_rfl) (by kernel_rfl) rfl VAL_) APP_ rfl ?_
  refine s_memN (m_alloc al_22 LEN_) APP_ rfl ?_
  refine s_storeR rfl rfl rfl rfl sz_22 EQ_ EQ_ SET_ ?_
  refine s_nil ?_
  have hQ4 : ((rkSeed1 seed) ++ text).length = 32 + text.length := LQ_
  have hQ5 : (sha512 ((rkSeed1 seed) ++ text)).length = 64 := LQ_
  refine S_ ?_
  refine c_region ?_
  refine s_val (v_moveC rfl) rfl ?_
  refine s_val (v_moveC rfl) rfl ?_
  refine s_memN (m_bsc Try.underlying75 el_23 (rep_23 _) rfl CS_ (by decide) (by decide) LEN_) APP_ rfl ?_
  refine s_evN (e_callR (bs := [6,3,0]) (rjJoin2_ev (rkSeed1 seed) 32 32 text text.length tcap HYP_ HYP_ HYP_ HYP_) ok_29 (by kernel_rfl) (by kernel_rfl) rfl VAL_) APP_ rfl ?_
  refine s_evN (e_callR (bs := [7]) (rf512_evAS ((rkSeed1 seed) ++ text) (32 + text.length) (32 + text.length) HYP_ HYP_) ok_28 (by kernel_rfl) (by kernel_rfl) rfl VAL_) APP_ rfl ?_
  refine s_memN (m_alloc al_25 LEN_) APP_ rfl ?_
  refine s_storeR rfl rfl rfl rfl sz_25 EQ_ EQ_ SET_ ?_
  refine s_nil ?_
  have hQ6 : (sMod (sha512 ((rkSeed1 seed) ++ text))).length = 32 := LQ_
  refine S_ ?_
  refine c_region ?_
  refine s_val (v_slA1 (l := 0) (h := 64) (len := 64) (cp := 64) rfl Try.underlying25 sz_5 rfl rfl rfl (by omega) (by omega) FIT_ rfl rfl) rfl ?_
  refine s_evN (e_callR (bs := [8]) (rMod_ev (sha512 ((rkSeed1 seed) ++ text)) 64 64 HYP_ HYP_) ok_30 (by kernel_rfl) (by kernel_rfl) rfl VAL_) APP_ rfl ?_
  refine s_memN (m_alloc al_22 LEN_) APP_ rfl ?_
  refine s_storeR rfl rfl rfl rfl sz_22 EQ_ EQ_ SET_ ?_
  refine s_nil ?_
  have hQ7 : (enc (oB (sMod (sha512 ((rkSeed1 seed) ++ text))))).length = 32 := LQ_
  refine S_ ?_
  refine c_region ?_
  refine s_val (v_loadR rfl rfl row_22 sz_22 EQ_ (by decide)) rfl ?_
  refine s_evN (e_callR (bs := []) (rbs_ev (sMod (sha512 ((rkSeed1 seed) ++ text))) HYP_) ok_27 (by kernel_rfl) (by kernel_rfl) rfl VAL_) APP_ rfl ?_
  refine s_memN (m_alloc al_22 LEN_) APP_ rfl ?_
  refine s_storeR rfl rfl rfl rfl sz_22 EQ_ EQ_ SET_ ?_
  refine s_nil ?_
  have hQ8 : (sgAns3 (enc (oB (sMod (sha512 ((rkSeed1 seed) ++ text))))) (enc (oB (sgHalf0 seed))) text).length = 32 := LQ_
  have hQ9 : (sMA (sgAns3 (enc (oB (sMod (sha512 ((rkSeed1 seed) ++ text))))) (enc (oB (sgHalf0 seed))) text) (sgHalf0 seed) (sMod (sha512 ((rkSeed1 seed) ++ text)))).length = 32 := LQ_
  refine S_ ?_
  refine c_draw 8 mixed (by kernel_rfl) rfl rfl rfl ?_
  refine h_val (v_loadR rfl rfl row_22 sz_22 EQ_ (by decide)) rfl ?_
  refine h_val (v_loadR rfl rfl row_22 sz_22 EQ_ (by decide)) rfl ?_
  refine h_val (v_moveC rfl) rfl ?_
  refine h_evN (e_callR (bs := [0]) (rkChalA_ev (enc (oB (sMod (sha512 ((rkSeed1 seed) ++ text))))) (enc (oB (sgHalf0 seed))) text text.length tcap HYP_ HYP_ HYP_ HYP_) ok_32 (by kernel_rfl) (by kernel_rfl) rfl VAL_) APP_ rfl ?_
  refine h_val (v_loadR rfl rfl row_22 sz_22 EQ_ (by decide)) rfl ?_
  refine h_val (v_loadR rfl rfl row_22 sz_22 EQ_ (by decide)) rfl ?_
  refine h_evN (e_callR (bs := []) (rMA_ev (sgAns3 (enc (oB (sMod (sha512 ((rkSeed1 seed) ++ text))))) (enc (oB (sgHalf0 seed))) text) (sgHalf0 seed) (sMod (sha512 ((rkSeed1 seed) ++ text))) HYP_ HYP_ HYP_) ok_31 (by kernel_rfl) (by kernel_rfl) rfl VAL_) APP_ rfl ?_
  refine h_memN (m_alloc al_22 LEN_) APP_ rfl ?_
  refine h_nil ?_
  refine s_storeR rfl rfl rfl rfl sz_22 EQ_ EQ_ SET_ ?_
  refine s_nil ?_
  refine S_ ?_
  refine c_region ?_
  refine s_memN (m_alloc al_25 LEN_) APP_ rfl ?_
  refine s_nil ?_
  have hQ10 : (over (zer8 64) 0 (enc (oB (sMod (sha512 ((rkSeed1 seed) ++ text)))))).length = 64 := LQ_
  refine S_ ?_
  refine c_draw 2 mixed (by kernel_rfl) rfl rfl rfl ?_
  refine h_val (v_slA1 (l := 0) (h := 32) (len := 32) (cp := 64) rfl Try.underlying25 sz_5 rfl rfl rfl (by omega) (by omega) FIT_ rfl rfl) rfl ?_
  refine h_val (v_slA1 (l := 0) (h := 32) (len := 32) (cp := 32) rfl Try.underlying22 sz_5 rfl rfl rfl (by omega) (by omega) FIT_ rfl rfl) rfl ?_
  refine h_nil ?_
  refine s_copy8a rfl rfl rfl rfl Try.underlying23 sz_5 LE_ EQL_ MN_ rfl SET_ rfl ?_
  refine s_nil ?_
  have hQ11 : (over (over (zer8 64) 0 (enc (oB (sMod (sha512 ((rkSeed1 seed) ++ text)))))) 32 (sMA (sgAns3 (enc (oB (sMod (sha512 ((rkSeed1 seed) ++ text))))) (enc (oB (sgHalf0 seed))) text) (sgHalf0 seed) (sMod (sha512 ((rkSeed1 seed) ++ text))))).length = 64 := LQ_
  refine S_ ?_
  refine c_draw 2 mixed (by kernel_rfl) rfl rfl rfl ?_
  refine h_val (v_slA1 (l := 32) (h := 64) (len := 32) (cp := 32) rfl Try.underlying25 sz_5 rfl rfl rfl (by omega) (by omega) FIT_ rfl rfl) rfl ?_
  refine h_val (v_slA1 (l := 0) (h := 32) (len := 32) (cp := 32) rfl Try.underlying22 sz_5 rfl rfl rfl (by omega) (by omega) FIT_ rfl rfl) rfl ?_
  refine h_nil ?_
  refine s_copy8a rfl rfl rfl rfl Try.underlying23 sz_5 LE_ EQL_ MN_ rfl SET_ rfl ?_
  refine s_nil ?_
  refine S_ ?_
  refine c_region ?_
  refine s_val (v_loadR rfl rfl row_25 sz_25 EQ_ (by decide)) rfl ?_
  refine s_storeR rfl rfl rfl rfl sz_25 EQ_ EQ_ SET_ ?_
  refine s_nil ?_
  refine S_ ?_
  rw [hP.out]
  exact k_1 (r_row rfl rfl row_25 sz_25 EQ_ (by decide)) (by first | kernel_rfl | rfl)
@[simp] theorem rkSign_len (seed : List (BitVec 8)) (text : List (BitVec 8)) (hseed : seed.length = 32) : (rkSign seed text).length = 64 := by
  unfold rkSign
  first | (simp [*]; done) | (simp [*]; omega)
attribute [irreducible] rkSign
end Go.Proofs.Ytcgncafhonlmlaa
namespace Go.Proofs.Ytcgncafhonlmlaa
open Go.RowKit
set_option maxRecDepth 100000 in
set_option maxHeartbeats 2000000 in
theorem rkVfyA_ev (pub : List (BitVec 8)) (text : List (BitVec 8)) (tn : Nat) (tcap : Nat) (sig : List (BitVec 8)) (hpub : pub.length = 32) (htext : text.length = tn) (htn : tn ≤ 65536) (hsig : sig.length = 64) (hB : sBelow (cut sig 32 32) = false) : Ev Try.prog (.call 19 [.agg (.a8 (pub)), .c (.sl 0 0 tn tcap 1), .agg (.a8 (sig))] [.row false (.a8 (text))]) (.val (.c (.val (.bool (false)))) [.row false (.a8 (text))]) := by
  subst htext
  refine c_call Try.func19 rfl Try.ntmps19 rfl LEN_ ?_
  refine S_ ?_
  refine c_region ?_
  refine s_memN (m_box BX_ LEN_) APP_ rfl ?_
  refine s_memN (m_box BX_ LEN_) APP_ rfl ?_
  refine s_val (v_assignC rfl) rfl ?_
  refine s_nil ?_
  refine S_ ?_
  refine c_region ?_
  refine s_memN (m_alloc al_22 LEN_) APP_ rfl ?_
  refine s_memN (m_alloc al_22 LEN_) APP_ rfl ?_
  refine s_nil ?_
  have hQ1 : (cut sig 0 32).length = 32 := LQ_
  refine S_ ?_
  refine c_draw 2 mixed (by kernel_rfl) rfl rfl rfl ?_
  refine h_val (v_slA1 (l := 0) (h := 32) (len := 32) (cp := 32) rfl Try.underlying22 sz_5 rfl rfl rfl (by omega) (by omega) FIT_ rfl rfl) rfl ?_
  refine h_val (v_slA1 (l := 0) (h := 32) (len := 32) (cp := 64) rfl Try.underlying25 sz_5 rfl rfl rfl (by omega) (by omega) FIT_ rfl rfl) rfl ?_
  refine h_nil ?_
  refine s_copy8w rfl rfl rfl rfl Try.underlying23 sz_5 EQL_ LE_ MN_ rfl SET_ rfl ?_
  refine s_nil ?_
  have hQ2 : (cut sig 32 32).length = 32 := LQ_
  refine S_ ?_
  refine c_draw 2 mixed (by kernel_rfl) rfl rfl rfl ?_
  refine h_val (v_slA1 (l := 0) (h := 32) (len := 32) (cp := 32) rfl Try.underlying22 sz_5 rfl rfl rfl (by omega) (by omega) FIT_ rfl rfl) rfl ?_
  refine h_val (v_slA1 (l := 32) (h := 64) (len := 32) (cp := 32) rfl Try.underlying25 sz_5 rfl rfl rfl (by omega) (by omega) FIT_ rfl rfl) rfl ?_
  refine h_nil ?_
  refine s_copy8w rfl rfl rfl rfl Try.underlying23 sz_5 EQL_ LE_ MN_ rfl SET_ rfl ?_
  refine s_nil ?_
  refine S_ ?_
  refine c_region ?_
  refine s_val (v_loadR rfl rfl row_22 sz_22 EQ_ (by decide)) rfl ?_
  refine s_evN (e_callR (bs := []) (rBelowV_ev (cut sig 32 32) false HYP_ hB) ok_39 (by kernel_rfl) (by kernel_rfl) rfl VAL_) APP_ rfl ?_
  refine s_val (v_unnotB rfl) rfl ?_
  refine s_nil ?_
  refine S_ ?_
  refine c_region ?_
  refine s_val (v_assignC rfl) rfl ?_
  refine s_nil ?_
  refine S_ ?_
  exact k_1 (by first | exact r_tmpC rfl | exact r_tmpA rfl) (by first | kernel_rfl | rfl)
end Go.Proofs.Ytcgncafhonlmlaa
namespace Go.Proofs.Ytcgncafhonlmlaa
open Go.RowKit
set_option maxRecDepth 100000 in
set_option maxHeartbeats 2000000 in
theorem rkVfyB_ev (pub : List (BitVec 8)) (text : List (BitVec 8)) (tn : Nat) (tcap : Nat) (sig : List (BitVec 8)) (hpub : pub.length = 32) (htext : text.length = tn) (htn : tn ≤ 65536) (hsig : sig.length = 64) (hB : sBelow (cut sig 32 32) = true) (hr : unOk (cut sig 0 32) = true) (hp : unOk pub = false) : Ev Try.prog (.call 19 [.agg (.a8 (pub)), .c (.sl 0 0 tn tcap 1), .agg (.a8 (sig))] [.row false (.a8 (text))]) (.val (.c (.val (.bool (false)))) [.row false (.a8 (text))]) := by
  subst htext
  refine c_call Try.func19 rfl Try.ntmps19 rfl LEN_ ?_
  refine S_ ?_
  refine c_region ?_
  refine s_memN (m_box BX_ LEN_) APP_ rfl ?_
  refine s_memN (m_box BX_ LEN_) APP_ rfl ?_
  refine s_val (v_assignC rfl) rfl ?_
  refine s_nil ?_
  refine S_ ?_
  refine c_region ?_
  refine s_memN (m_alloc al_22 LEN_) APP_ rfl ?_
  refine s_memN (m_alloc al_22 LEN_) APP_ rfl ?_
  refine s_nil ?_
  have hQ1 : (cut sig 0 32).length = 32 := LQ_
  refine S_ ?_
  refine c_draw 2 mixed (by kernel_rfl) rfl rfl rfl ?_
  refine h_val (v_slA1 (l := 0) (h := 32) (len := 32) (cp := 32) rfl Try.underlying22 sz_5 rfl rfl rfl (by omega) (by omega) FIT_ rfl rfl) rfl ?_
  refine h_val (v_slA1 (l := 0) (h := 32) (len := 32) (cp := 64) rfl Try.underlying25 sz_5 rfl rfl rfl (by omega) (by omega) FIT_ rfl rfl) rfl ?_
  refine h_nil ?_
  refine s_copy8w rfl rfl rfl rfl Try.underlying23 sz_5 EQL_ LE_ MN_ rfl SET_ rfl ?_
  refine s_nil ?_
  have hQ2 : (cut sig 32 32).length = 32 := LQ_
  refine S_ ?_
  refine c_draw 2 mixed (by kernel_rfl) rfl rfl rfl ?_
  refine h_val (v_slA1 (l := 0) (h := 32) (len := 32) (cp := 32) rfl Try.underlying22 sz_5 rfl rfl rfl (by omega) (by omega) FIT_ rfl rfl) rfl ?_
  refine h_val (v_slA1 (l := 32) (h := 64) (len := 32) (cp := 32) rfl Try.underlying25 sz_5 rfl rfl rfl (by omega) (by omega) FIT_ rfl rfl) rfl ?_
  refine h_nil ?_
  refine s_copy8w rfl rfl rfl rfl Try.underlying23 sz_5 EQL_ LE_ MN_ rfl SET_ rfl ?_
  refine s_nil ?_
  refine S_ ?_
  refine c_region ?_
  refine s_val (v_loadR rfl rfl row_22 sz_22 EQ_ (by decide)) rfl ?_
  refine s_evN (e_callR (bs := []) (rBelowV_ev (cut sig 32 32) true HYP_ hB) ok_39 (by kernel_rfl) (by kernel_rfl) rfl VAL_) APP_ rfl ?_
  refine s_val (v_unnotB rfl) rfl ?_
  refine s_nil ?_
  have hQ3 : (rdP (cut sig 0 32)).length = 16 := LQ_
  refine S_ ?_
  refine c_region ?_
  refine s_val (v_loadR rfl rfl row_22 sz_22 EQ_ (by decide)) rfl ?_
  refine s_evN (e_callR (bs := []) (rDecV_ev (cut sig 0 32) true HYP_ hr) ok_40 (by kernel_rfl) (by kernel_rfl) rfl VAL_) APP_ rfl ?_
  refine s_val (v_moveT rfl) rfl ?_
  refine s_val (v_extract rfl rfl) rfl ?_
  refine s_val (v_extract rfl rfl) rfl ?_
  refine s_memN (m_alloc al_64 LEN_) APP_ rfl ?_
  refine s_storeR rfl rfl rfl rfl sz_64 EQ_ EQ_ SET_ ?_
  refine s_val (v_assignC rfl) rfl ?_
  refine s_nil ?_
  refine S_ ?_
  refine c_region ?_
  refine s_val (v_moveC rfl) rfl ?_
  refine s_val (v_unnotB rfl) rfl ?_
  refine s_nil ?_
  have hQ4 : (sgAns3 (cut sig 0 32) pub text).length = 32 := LQ_
  have hQ5 : (rfTmsF0).length = 32 := LQ_
  refine S_ ?_
  refine c_late 10 8 mixed (by kernel_rfl) (by kernel_rfl) rfl rfl rfl ?_
  refine h_val (v_loadR rfl rfl row_22 sz_22 EQ_ (by decide)) rfl ?_
  refine h_val (v_loadR rfl rfl row_22 sz_22 EQ_ (by decide)) rfl ?_
  refine h_val (v_moveC rfl) rfl ?_
  refine h_evN (e_callR (bs := [0]) (rkChalA_ev (cut sig 0 32) pub text text.length tcap HYP_ HYP_ HYP_ HYP_) ok_32 (by kernel_rfl) (by kernel_rfl) rfl VAL_) APP_ rfl ?_
  refine h_val (v_loadR rfl rfl row_22 sz_22 EQ_ (by decide)) rfl ?_
  refine h_evN (e_callR (bs := []) (rfTmsF_ev (sgAns3 (cut sig 0 32) pub text) pub HYP_ HYP_ hp) ok_41 (by kernel_rfl) (by kernel_rfl) rfl VAL_) APP_ rfl ?_
  refine h_val (v_moveT rfl) rfl ?_
  refine h_val (v_extract rfl rfl) rfl ?_
  refine h_val (v_extract rfl rfl) rfl ?_
  refine h_memN (m_alloc al_22 LEN_) APP_ rfl ?_
  refine h_nil ?_
  refine s_storeR rfl rfl rfl rfl sz_22 EQ_ EQ_ SET_ ?_
  refine s_val (v_assignC rfl) rfl ?_
  refine s_nil ?_
  refine S_ ?_
  refine c_region ?_
  refine s_val (v_moveC rfl) rfl ?_
  refine s_val (v_unnotB rfl) rfl ?_
  refine s_nil ?_
  refine S_ ?_
  refine c_region ?_
  refine s_val (v_assignC rfl) rfl ?_
  refine s_nil ?_
  refine S_ ?_
  exact k_1 (by first | exact r_tmpC rfl | exact r_tmpA rfl) (by first | kernel_rfl | rfl)
end Go.Proofs.Ytcgncafhonlmlaa
namespace Go.Proofs.Ytcgncafhonlmlaa
open Go.RowKit
set_option maxRecDepth 100000 in
set_option maxHeartbeats 2000000 in
theorem rkVfyC_ev (pub : List (BitVec 8)) (text : List (BitVec 8)) (tn : Nat) (tcap : Nat) (sig : List (BitVec 8)) (hpub : pub.length = 32) (htext : text.length = tn) (htn : tn ≤ 65536) (hsig : sig.length = 64) (hB : sBelow (cut sig 32 32) = true) (hr : unOk (cut sig 0 32) = false) : Ev Try.prog (.call 19 [.agg (.a8 (pub)), .c (.sl 0 0 tn tcap 1), .agg (.a8 (sig))] [.row false (.a8 (text))]) (.val (.c (.val (.bool (false)))) [.row false (.a8 (text))]) := by
  subst htext
  refine c_call Try.func19 rfl Try.ntmps19 rfl LEN_ ?_
  refine S_ ?_
  refine c_region ?_
  refine s_memN (m_box BX_ LEN_) APP_ rfl ?_
  refine s_memN (m_box BX_ LEN_) APP_ rfl ?_
  refine s_val (v_assignC rfl) rfl ?_
  refine s_nil ?_
  refine S_ ?_
  refine c_region ?_
  refine s_memN (m_alloc al_22 LEN_) APP_ rfl ?_
  refine s_memN (m_alloc al_22 LEN_) APP_ rfl ?_
  refine s_nil ?_
  have hQ1 : (cut sig 0 32).length = 32 := LQ_
  refine S_ ?_
  refine c_draw 2 mixed (by kernel_rfl) rfl rfl rfl ?_
  refine h_val (v_slA1 (l := 0) (h := 32) (len := 32) (cp := 32) rfl Try.underlying22 sz_5 rfl rfl rfl (by omega) (by omega) FIT_ rfl rfl) rfl ?_
  refine h_val (v_slA1 (l := 0) (h := 32) (len := 32) (cp := 64) rfl Try.underlying25 sz_5 rfl rfl rfl (by omega) (by omega) FIT_ rfl rfl) rfl ?_
  refine h_nil ?_
  refine s_copy8w rfl rfl rfl rfl Try.underlying23 sz_5 EQL_ LE_ MN_ rfl SET_ rfl ?_
  refine s_nil ?_
  have hQ2 : (cut sig 32 32).length = 32 := LQ_
  refine S_ ?_
  refine c_draw 2 mixed (by kernel_rfl) rfl rfl rfl ?_
  refine h_val (v_slA1 (l := 0) (h := 32) (len := 32) (cp := 32) rfl Try.underlying22 sz_5 rfl rfl rfl (by omega) (by omega) FIT_ rfl rfl) rfl ?_
  refine h_val (v_slA1 (l := 32) (h := 64) (len := 32) (cp := 32) rfl Try.underlying25 sz_5 rfl rfl rfl (by omega) (by omega) FIT_ rfl rfl) rfl ?_
  refine h_nil ?_
  refine s_copy8w rfl rfl rfl rfl Try.underlying23 sz_5 EQL_ LE_ MN_ rfl SET_ rfl ?_
  refine s_nil ?_
  refine S_ ?_
  refine c_region ?_
  refine s_val (v_loadR rfl rfl row_22 sz_22 EQ_ (by decide)) rfl ?_
  refine s_evN (e_callR (bs := []) (rBelowV_ev (cut sig 32 32) true HYP_ hB) ok_39 (by kernel_rfl) (by kernel_rfl) rfl VAL_) APP_ rfl ?_
  refine s_val (v_unnotB rfl) rfl ?_
  refine s_nil ?_
  have hQ3 : (rdP (cut sig 0 32)).length = 16 := LQ_
  refine S_ ?_
  refine c_region ?_
  refine s_val (v_loadR rfl rfl row_22 sz_22 EQ_ (by decide)) rfl ?_
  refine s_evN (e_callR (bs := []) (rDecV_ev (cut sig 0 32) false HYP_ hr) ok_40 (by kernel_rfl) (by kernel_rfl) rfl VAL_) APP_ rfl ?_
  refine s_val (v_moveT rfl) rfl ?_
  refine s_val (v_extract rfl rfl) rfl ?_
  refine s_val (v_extract rfl rfl) rfl ?_
  refine s_memN (m_alloc al_64 LEN_) APP_ rfl ?_
  refine s_storeR rfl rfl rfl rfl sz_64 EQ_ EQ_ SET_ ?_
  refine s_val (v_assignC rfl) rfl ?_
  refine s_nil ?_
  refine S_ ?_
  refine c_region ?_
  refine s_val (v_moveC rfl) rfl ?_
  refine s_val (v_unnotB rfl) rfl ?_
  refine s_nil ?_
  refine S_ ?_
  refine c_region ?_
  refine s_val (v_assignC rfl) rfl ?_
  refine s_nil ?_
  refine S_ ?_
  exact k_1 (by first | exact r_tmpC rfl | exact r_tmpA rfl) (by first | kernel_rfl | rfl)
end Go.Proofs.Ytcgncafhonlmlaa
namespace Go.Proofs.Ytcgncafhonlmlaa
open Go.RowKit
set_option maxRecDepth 100000 in
set_option maxHeartbeats 2000000 in
theorem rkVfyD_ev (pub : List (BitVec 8)) (text : List (BitVec 8)) (tn : Nat) (tcap : Nat) (sig : List (BitVec 8)) (hpub : pub.length = 32) (htext : text.length = tn) (htn : tn ≤ 65536) (hsig : sig.length = 64) (hB : sBelow (cut sig 32 32) = true) (hr : unOk (cut sig 0 32) = true) (hp : unOk pub = true) : Ev Try.prog (.call 19 [.agg (.a8 (pub)), .c (.sl 0 0 tn tcap 1), .agg (.a8 (sig))] [.row false (.a8 (text))]) (.val (.c (.val (.bool (decide (cvAddT0 (cut sig 0 32) (cvTmsT0 (sgAns3 (cut sig 0 32) pub text) pub) = enc (oB (cut sig 32 32))))))) [.row false (.a8 (text))]) := by
  subst htext
  refine c_call Try.func19 rfl Try.ntmps19 rfl LEN_ ?_
  refine S_ ?_
  refine c_region ?_
  refine s_memN (m_box BX_ LEN_) APP_ rfl ?_
  refine s_memN (m_box BX_ LEN_) APP_ rfl ?_
  refine s_val (v_assignC rfl) rfl ?_
  refine s_nil ?_
  refine S_ ?_
  refine c_region ?_
  refine s_memN (m_alloc al_22 LEN_) APP_ rfl ?_
  refine s_memN (m_alloc al_22 LEN_) APP_ rfl ?_
  refine s_nil ?_
  have hQ1 : (cut sig 0 32).length = 32 := LQ_
  refine S_ ?_
  refine c_draw 2 mixed (by kernel_rfl) rfl rfl rfl ?_
  refine h_val (v_slA1 (l := 0) (h := 32) (len := 32) (cp := 32) rfl Try.underlying22 sz_5 rfl rfl rfl (by omega) (by omega) FIT_ rfl rfl) rfl ?_
  refine h_val (v_slA1 (l := 0) (h := 32) (len := 32) (cp := 64) rfl Try.underlying25 sz_5 rfl rfl rfl (by omega) (by omega) FIT_ rfl rfl) rfl ?_
  refine h_nil ?_
  refine s_copy8w rfl rfl rfl rfl Try.underlying23 sz_5 EQL_ LE_ MN_ rfl SET_ rfl ?_
  refine s_nil ?_
  have hQ2 : (cut sig 32 32).length = 32 := LQ_
  refine S_ ?_
  refine c_draw 2 mixed (by kernel_rfl) rfl rfl rfl ?_
  refine h_val (v_slA1 (l := 0) (h := 32) (len := 32) (cp := 32) rfl Try.underlying22 sz_5 rfl rfl rfl (by omega) (by omega) FIT_ rfl rfl) rfl ?_
  refine h_val (v_slA1 (l := 32) (h := 64) (len := 32) (cp := 32) rfl Try.underlying25 sz_5 rfl rfl rfl (by omega) (by omega) FIT_ rfl rfl) rfl ?_
  refine h_nil ?_
  refine s_copy8w rfl rfl rfl rfl Try.underlying23 sz_5 EQL_ LE_ MN_ rfl SET_ rfl ?_
  refine s_nil ?_
  refine S_ ?_
  refine c_region ?_
  refine s_val (v_loadR rfl rfl row_22 sz_22 EQ_ (by decide)) rfl ?_
  refine s_evN (e_callR (bs := []) (rBelowV_ev (cut sig 32 32) true HYP_ hB) ok_39 (by kernel_rfl) (by kernel_rfl) rfl VAL_) APP_ rfl ?_
  refine s_val (v_unnotB rfl) rfl ?_
  refine s_nil ?_
  have hQ3 : (rdP (cut sig 0 32)).length = 16 := LQ_
  refine S_ ?_
  refine c_region ?_
  refine s_val (v_loadR rfl rfl row_22 sz_22 EQ_ (by decide)) rfl ?_
  refine s_evN (e_callR (bs := []) (rDecV_ev (cut sig 0 32) true HYP_ hr) ok_40 (by kernel_rfl) (by kernel_rfl) rfl VAL_) APP_ rfl ?_
  refine s_val (v_moveT rfl) rfl ?_
  refine s_val (v_extract rfl rfl) rfl ?_
  refine s_val (v_extract rfl rfl) rfl ?_
  refine s_memN (m_alloc al_64 LEN_) APP_ rfl ?_
  refine s_storeR rfl rfl rfl rfl sz_64 EQ_ EQ_ SET_ ?_
  refine s_val (v_assignC rfl) rfl ?_
  refine s_nil ?_
  refine S_ ?_
  refine c_region ?_
  refine s_val (v_moveC rfl) rfl ?_
  refine s_val (v_unnotB rfl) rfl ?_
  refine s_nil ?_
  have hQ4 : (sgAns3 (cut sig 0 32) pub text).length = 32 := LQ_
  have hQ5 : (cvTmsT0 (sgAns3 (cut sig 0 32) pub text) pub).length = 32 := LQ_
  refine S_ ?_
  refine c_late 10 8 mixed (by kernel_rfl) (by kernel_rfl) rfl rfl rfl ?_
  refine h_val (v_loadR rfl rfl row_22 sz_22 EQ_ (by decide)) rfl ?_
  refine h_val (v_loadR rfl rfl row_22 sz_22 EQ_ (by decide)) rfl ?_
  refine h_val (v_moveC rfl) rfl ?_
  refine h_evN (e_callR (bs := [0]) (rkChalA_ev (cut sig 0 32) pub text text.length tcap HYP_ HYP_ HYP_ HYP_) ok_32 (by kernel_rfl) (by kernel_rfl) rfl VAL_) APP_ rfl ?_
  refine h_val (v_loadR rfl rfl row_22 sz_22 EQ_ (by decide)) rfl ?_
  refine h_evN (e_callR (bs := []) (rtT_ev (sgAns3 (cut sig 0 32) pub text) pub HYP_ HYP_ hp) ok_41 (by kernel_rfl) (by kernel_rfl) rfl VAL_) APP_ rfl ?_
  refine h_val (v_moveT rfl) rfl ?_
  refine h_val (v_extract rfl rfl) rfl ?_
  refine h_val (v_extract rfl rfl) rfl ?_
  refine h_memN (m_alloc al_22 LEN_) APP_ rfl ?_
  refine h_nil ?_
  refine s_storeR rfl rfl rfl rfl sz_22 EQ_ EQ_ SET_ ?_
  refine s_val (v_assignC rfl) rfl ?_
  refine s_nil ?_
  refine S_ ?_
  refine c_region ?_
  refine s_val (v_moveC rfl) rfl ?_
  refine s_val (v_unnotB rfl) rfl ?_
  refine s_nil ?_
  have hQ6 : (cvAddT0 (cut sig 0 32) (cvTmsT0 (sgAns3 (cut sig 0 32) pub text) pub)).length = 32 := LQ_
  refine S_ ?_
  refine c_region ?_
  refine s_val (v_loadR rfl rfl row_22 sz_22 EQ_ (by decide)) rfl ?_
  refine s_val (v_loadR rfl rfl row_22 sz_22 EQ_ (by decide)) rfl ?_
  refine s_evN (e_callR (bs := []) (rsT_ev (cut sig 0 32) (cvTmsT0 (sgAns3 (cut sig 0 32) pub text) pub) HYP_ HYP_ hr (unOk_tms _ _ hpub hp)) ok_42 (by kernel_rfl) (by kernel_rfl) rfl VAL_) APP_ rfl ?_
  refine s_val (v_moveT rfl) rfl ?_
  refine s_val (v_extract rfl rfl) rfl ?_
  refine s_val (v_extract rfl rfl) rfl ?_
  refine s_storeR rfl rfl rfl rfl sz_22 EQ_ EQ_ SET_ ?_
  refine s_nil ?_
  have hQ7 : (enc (oB (cut sig 32 32))).length = 32 := LQ_
  refine S_ ?_
  refine c_draw 5 mixed (by kernel_rfl) rfl rfl rfl ?_
  refine h_val (v_loadR rfl rfl row_22 sz_22 EQ_ (by decide)) rfl ?_
  refine h_val (v_loadR rfl rfl row_22 sz_22 EQ_ (by decide)) rfl ?_
  refine h_evN (e_callR (bs := []) (rbs_ev (cut sig 32 32) HYP_) ok_27 (by kernel_rfl) (by kernel_rfl) rfl VAL_) APP_ rfl ?_
  refine h_val (v_eqlR8 rfl rfl Try.underlying22 Try.underlying5 sz_5 EQ_ EQ_) rfl ?_
  refine h_val (v_assignC rfl) rfl ?_
  refine h_nil ?_
  refine s_nil ?_
  refine S_ ?_
  exact k_1 (by first | exact r_tmpC rfl | exact r_tmpA rfl) (by first | kernel_rfl | rfl)
end Go.Proofs.Ytcgncafhonlmlaa
namespace Go.Proofs.Ytcgncafhonlmlaa
open Go.RowKit
theorem over2 (a b : List (BitVec 8)) (ha : a.length = 32) (hb : b.length = 32) : over (over (zer8 64) 0 a) 32 b = a ++ b := by
  have hz : (zer8 64).length = 64 := by simp
  apply List.ext_getElem?
  intro i
  unfold over
  simp only [List.take_zero, List.nil_append, Nat.zero_add, ha, hb]
  have h1 : (a ++ List.drop 32 (zer8 64)).take 32 = a := by rw [List.take_append_of_le_length (by omega), List.take_of_length_le (by omega)]
  have h2 : (a ++ List.drop 32 (zer8 64)).drop (32 + 32) = [] := by rw [List.drop_eq_nil_iff]; simp [ha]
  rw [h1, h2, List.append_nil]
theorem rkPub_same (seed : List (BitVec 8)) : rkPub seed = sgPub seed := by
  unfold rkPub sgPub
  rfl
theorem rkSign_same (seed text : List (BitVec 8)) : rkSign seed text = sgSign0 seed text := by
  unfold rkSign sgSign0 sgAns2 rkSeed1 sgHalf1
  exact over2 _ _ (by simp) (by simp)
theorem rPub_ev (seed : List (BitVec 8)) (hs : seed.length = 32) : Ev Try.prog (.call 12 [.agg (.a8 seed)] []) (.val (.agg (.a8 (sgPub seed))) []) := by
  rw [← rkPub_same]; exact rkPub_ev seed hs
theorem rSign_ev (seed text : List (BitVec 8)) (tn tcap : Nat) (hs : seed.length = 32) (ht : text.length = tn) (hn : tn ≤ 65536) : Ev Try.prog (.call 13 [.agg (.a8 seed), .c (.sl 0 0 tn tcap 1)] [.row false (.a8 text)]) (.val (.agg (.a8 (sgSign0 seed text))) [.row false (.a8 text)]) := by
  rw [← rkSign_same]; exact rkSign_ev seed text tn tcap hs ht hn
theorem rVfy_ev (pub text : List (BitVec 8)) (tn tcap : Nat) (sig : List (BitVec 8)) (hpub : pub.length = 32) (htext : text.length = tn) (hsig : sig.length = 64) (hn : tn ≤ 65536) : Ev Try.prog (.call 19 [.agg (.a8 pub), .c (.sl 0 0 tn tcap 1), .agg (.a8 sig)] [.row false (.a8 text)]) (.val (.c (.val (.bool (vfy pub text sig)))) [.row false (.a8 text)]) := by
  cases hB : sBelow (cut sig 32 32) with
  | false =>
    rw [show vfy pub text sig = false by unfold vfy; rw [hB, Bool.false_and]]
    exact rkVfyA_ev pub text tn tcap sig hpub htext hn hsig hB
  | true =>
    cases hr : unOk (cut sig 0 32) with
    | false =>
      rw [show vfy pub text sig = false by unfold vfy; rw [hB, hr, Bool.false_and, Bool.and_false, Bool.and_false]]
      exact rkVfyC_ev pub text tn tcap sig hpub htext hn hsig hB hr
    | true =>
      cases hp : unOk pub with
      | false =>
        rw [show vfy pub text sig = false by unfold vfy; rw [hB, hp, Bool.false_and, Bool.and_false]]
        exact rkVfyB_ev pub text tn tcap sig hpub htext hn hsig hB hr hp
      | true =>
        rw [show vfy pub text sig = decide (cvAddT0 (cut sig 0 32) (cvTmsT0 (sgAns3 (cut sig 0 32) pub text) pub) = enc (oB (cut sig 32 32))) by unfold vfy; rw [hB, hp, hr, Bool.true_and, Bool.true_and, Bool.true_and]]
        exact rkVfyD_ev pub text tn tcap sig hpub htext hn hsig hB hr hp
end Go.Proofs.Ytcgncafhonlmlaa
namespace Go.Proofs.Ytcgncafhonlmlaa
open Go.RowKit
theorem quot_num {X Z p : Fp} {x : Nat} (hZ : Z ≠ 0) (h1 : X = p * Z) (h2 : zf x * Z = X) : p = zf x := by
  have e := inv_mulF hZ
  have h3 : zf x * Z = p * Z := by rw [h2, h1]
  generalize zf x = u at *
  generalize invF Z = i at *
  clear h1 h2
  grobner
theorem enc_num (n x y : Nat) (hn : n < 2 ^ 256) (hx : x < PP) (hy : y < PP) (h1 : x * (nmul nB n 256).2.2.1 % PP = (nmul nB n 256).1) (h2 : y * (nmul nB n 256).2.2.1 % PP = (nmul nB n 256).2.1) {b : List (BitVec 8)} (hb : b.length = 32) (hv : y + x % 2 * MM = leS b 32) : enc (omul obase n) = b := by
  have h := rep_times On_base nB_rep n hn
  have e := (nmul_Q nB_ok n 256).1
  rw [← e] at h
  obtain ⟨hZ, hX, hY, _⟩ := h
  unfold nQ at hZ hX hY
  simp only at hZ hX hY
  have ex := quot_num (x := x) hZ hX (by rw [← zf_mul, ← zf_mod (x * _), h1])
  have ey := quot_num (x := y) hZ hY (by rw [← zf_mul, ← zf_mod (y * _), h2])
  refine enc_of hb ?_
  rw [← hv]
  unfold encN omul obase
  show (pmul pB_ n).y.val + (pmul pB_ n).x.val % 2 * MM = _
  rw [ex, ey, zf_val, zf_val, Nat.mod_eq_of_lt hx, Nat.mod_eq_of_lt hy]
def wkP : List (BitVec 8) := [215#8, 90#8, 152#8, 1#8, 130#8, 177#8, 10#8, 183#8, 213#8, 75#8, 254#8, 211#8, 201#8, 100#8, 7#8, 58#8, 14#8, 225#8, 114#8, 243#8, 218#8, 166#8, 35#8, 37#8, 175#8, 2#8, 26#8, 104#8, 247#8, 7#8, 81#8, 26#8]
def wkS : List (BitVec 8) := [229#8, 86#8, 67#8, 0#8, 195#8, 96#8, 172#8, 114#8, 144#8, 134#8, 226#8, 204#8, 128#8, 110#8, 130#8, 138#8, 132#8, 135#8, 127#8, 30#8, 184#8, 229#8, 217#8, 116#8, 216#8, 115#8, 224#8, 101#8, 34#8, 73#8, 1#8, 85#8, 95#8, 184#8, 130#8, 21#8, 144#8, 163#8, 59#8, 172#8, 198#8, 30#8, 57#8, 112#8, 28#8, 249#8, 180#8, 107#8, 210#8, 91#8, 245#8, 240#8, 89#8, 91#8, 190#8, 36#8, 101#8, 81#8, 65#8, 67#8, 142#8, 122#8, 16#8, 11#8]
theorem wk_half : leS (sgHalf0 [157#8, 97#8, 177#8, 157#8, 239#8, 253#8, 90#8, 96#8, 186#8, 132#8, 74#8, 244#8, 146#8, 236#8, 44#8, 196#8, 68#8, 73#8, 197#8, 105#8, 123#8, 50#8, 105#8, 25#8, 112#8, 59#8, 172#8, 3#8, 28#8, 174#8, 127#8, 96#8]) 32 = 36144925721603087658594284515452164870581325872720374094707712194495455132720 := by decide +kernel
theorem wk_pub : enc (omul obase 36144925721603087658594284515452164870581325872720374094707712194495455132720) = wkP := enc_num 36144925721603087658594284515452164870581325872720374094707712194495455132720 38815646466658113194383306759739515082307681141926459231621296960732224964046 11903303657706407974989296177215005343713679411332034699907763981919547054807 (by decide +kernel) (by decide +kernel) (by decide +kernel) (by decide +kernel) (by decide +kernel) rfl (by decide +kernel)
theorem wkP_eq : sgPub [157#8, 97#8, 177#8, 157#8, 239#8, 253#8, 90#8, 96#8, 186#8, 132#8, 74#8, 244#8, 146#8, 236#8, 44#8, 196#8, 68#8, 73#8, 197#8, 105#8, 123#8, 50#8, 105#8, 25#8, 112#8, 59#8, 172#8, 3#8, 28#8, 174#8, 127#8, 96#8] = wkP := by
  unfold sgPub oB
  rw [wk_half]
  exact wk_pub
theorem wk_r : leS (sgAns2 (cut (sgHalf1 [157#8, 97#8, 177#8, 157#8, 239#8, 253#8, 90#8, 96#8, 186#8, 132#8, 74#8, 244#8, 146#8, 236#8, 44#8, 196#8, 68#8, 73#8, 197#8, 105#8, 123#8, 50#8, 105#8, 25#8, 112#8, 59#8, 172#8, 3#8, 28#8, 174#8, 127#8, 96#8]) 32 32) []) 32 = 2015312323900227545039973048451112962192803170366412514267238242679089760755 := by decide +kernel
theorem wk_first : enc (omul obase 2015312323900227545039973048451112962192803170366412514267238242679089760755) = cut wkS 0 32 := enc_num 2015312323900227545039973048451112962192803170366412514267238242679089760755 44370630452101398467924320556439323233869374150616132215183787387252341590058 38448863731492799660668882834560725606410712239157980760146247592118262650597 (by decide +kernel) (by decide +kernel) (by decide +kernel) (by decide +kernel) (by decide +kernel) rfl (by decide +kernel)
theorem wk_k : leS (sgAns3 (cut wkS 0 32) wkP []) 32 = 1958233733501237659471134851339390337284068724042047466985993338226439154310 := by decide +kernel
theorem wkS_eq : sgSign0 [157#8, 97#8, 177#8, 157#8, 239#8, 253#8, 90#8, 96#8, 186#8, 132#8, 74#8, 244#8, 146#8, 236#8, 44#8, 196#8, 68#8, 73#8, 197#8, 105#8, 123#8, 50#8, 105#8, 25#8, 112#8, 59#8, 172#8, 3#8, 28#8, 174#8, 127#8, 96#8] [] = wkS := by
  have h1 : enc (oB (sgAns2 (cut (sgHalf1 [157#8, 97#8, 177#8, 157#8, 239#8, 253#8, 90#8, 96#8, 186#8, 132#8, 74#8, 244#8, 146#8, 236#8, 44#8, 196#8, 68#8, 73#8, 197#8, 105#8, 123#8, 50#8, 105#8, 25#8, 112#8, 59#8, 172#8, 3#8, 28#8, 174#8, 127#8, 96#8]) 32 32) [])) = cut wkS 0 32 := by
    unfold oB
    rw [wk_r]
    exact wk_first
  have h2 : enc (oB (sgHalf0 [157#8, 97#8, 177#8, 157#8, 239#8, 253#8, 90#8, 96#8, 186#8, 132#8, 74#8, 244#8, 146#8, 236#8, 44#8, 196#8, 68#8, 73#8, 197#8, 105#8, 123#8, 50#8, 105#8, 25#8, 112#8, 59#8, 172#8, 3#8, 28#8, 174#8, 127#8, 96#8])) = wkP := by
    unfold oB
    rw [wk_half]
    exact wk_pub
  unfold sgSign0
  rw [h1, h2]
  unfold sMA
  rw [wk_k, wk_half, wk_r]
  decide +kernel
theorem sgSign_evN (seed : List (BitVec 8)) (hseed : seed.length = 32) : Ev Try.prog (.call 10 [.agg (.a8 (seed)), .c .nsl] []) (.val (.tup [.agg (.a8 (sgSign0 seed [])), .c (.val (.int .i64 ((0 : Nat) : Int)))]) []) :=
  Ev.parts (m := []) (m' := [.row false (.a8 ([]))]) (N := []) (N' := []) [none] (.no .nil) (.agg rfl (.c .nil .nil)) (sgSign_ev seed [] 0 0 hseed rfl (by decide) (by decide)) rfl rfl
theorem wkP_ev : Ev Try.prog (.call 11 [.agg (.a8 [157#8, 97#8, 177#8, 157#8, 239#8, 253#8, 90#8, 96#8, 186#8, 132#8, 74#8, 244#8, 146#8, 236#8, 44#8, 196#8, 68#8, 73#8, 197#8, 105#8, 123#8, 50#8, 105#8, 25#8, 112#8, 59#8, 172#8, 3#8, 28#8, 174#8, 127#8, 96#8])] []) (.val (.agg (.a8 wkP)) []) := by
  rw [← wkP_eq]; exact sgPub_ev [157#8, 97#8, 177#8, 157#8, 239#8, 253#8, 90#8, 96#8, 186#8, 132#8, 74#8, 244#8, 146#8, 236#8, 44#8, 196#8, 68#8, 73#8, 197#8, 105#8, 123#8, 50#8, 105#8, 25#8, 112#8, 59#8, 172#8, 3#8, 28#8, 174#8, 127#8, 96#8] rfl
theorem wkS_ev : Ev Try.prog (.call 10 [.agg (.a8 [157#8, 97#8, 177#8, 157#8, 239#8, 253#8, 90#8, 96#8, 186#8, 132#8, 74#8, 244#8, 146#8, 236#8, 44#8, 196#8, 68#8, 73#8, 197#8, 105#8, 123#8, 50#8, 105#8, 25#8, 112#8, 59#8, 172#8, 3#8, 28#8, 174#8, 127#8, 96#8]), .c .nsl] []) (.val (.tup [.agg (.a8 wkS), .c (.val (.int .i64 ((0 : Nat) : Int)))]) []) := by
  rw [← wkS_eq]; exact sgSign_evN [157#8, 97#8, 177#8, 157#8, 239#8, 253#8, 90#8, 96#8, 186#8, 132#8, 74#8, 244#8, 146#8, 236#8, 44#8, 196#8, 68#8, 73#8, 197#8, 105#8, 123#8, 50#8, 105#8, 25#8, 112#8, 59#8, 172#8, 3#8, 28#8, 174#8, 127#8, 96#8] rfl
end Go.Proofs.Ytcgncafhonlmlaa
namespace Go.Proofs.Ytcgncafhonlmlaa
open Go.RowKit
set_option maxRecDepth 100000 in
set_option maxHeartbeats 2000000 in
theorem wakes_ev   : Ev Try.prog (.call 15 [] []) (.val (.c (.val (.bool (true)))) []) := by
  refine c_call Try.func15 rfl Try.ntmps15 rfl LEN_ ?_
  refine S_ ?_
  refine c_region ?_
  refine s_val (v_assignC rfl) rfl ?_
  refine s_nil ?_
  refine S_ ?_
  refine c_region ?_
  refine s_val (v_bld8 (l := [157#8, 97#8, 177#8, 157#8, 239#8, 253#8, 90#8, 96#8, 186#8, 132#8, 74#8, 244#8, 146#8, 236#8, 44#8, 196#8, 68#8, 73#8, 197#8, 105#8, 123#8, 50#8, 105#8, 25#8, 112#8, 59#8, 172#8, 3#8, 28#8, 174#8, 127#8, 96#8]) zc_22 Try.underlying22 sz_5 rfl rfl (by decide)) rfl ?_
  refine s_memN (m_alloc al_22 LEN_) APP_ rfl ?_
  refine s_storeR rfl rfl rfl rfl sz_22 EQ_ EQ_ SET_ ?_
  refine s_nil ?_
  have hQ1 : (wkP).length = 32 := LQ_
  refine S_ ?_
  refine c_region ?_
  refine s_val (v_loadR rfl rfl row_22 sz_22 EQ_ (by decide)) rfl ?_
  refine s_evN (e_callR (wkP_ev) ok_11 rfl rfl rfl VAL_) APP_ rfl ?_
  refine s_memN (m_alloc al_22 LEN_) APP_ rfl ?_
  refine s_storeR rfl rfl rfl rfl sz_22 EQ_ EQ_ SET_ ?_
  refine s_nil ?_
  have hQ2 : (wkS).length = 64 := LQ_
  refine S_ ?_
  refine c_region ?_
  refine s_val (v_loadR rfl rfl row_22 sz_22 EQ_ (by decide)) rfl ?_
  refine s_evN (e_callR (bs := []) (wkS_ev) ok_10 (by kernel_rfl) (by kernel_rfl) rfl VAL_) APP_ rfl ?_
  refine s_val (v_moveT rfl) rfl ?_
  refine s_val (v_extract rfl rfl) rfl ?_
  refine s_val (v_extract rfl rfl) rfl ?_
  refine s_memN (m_alloc al_25 LEN_) APP_ rfl ?_
  refine s_storeR rfl rfl rfl rfl sz_25 EQ_ EQ_ SET_ ?_
  refine s_val (v_assignC rfl) rfl ?_
  refine s_nil ?_
  refine S_ ?_
  refine c_region ?_
  refine s_val (v_moveC rfl) rfl ?_
  refine s_val (v_eqlN (a := 0) (b := 0) rfl rfl) rfl ?_
  refine s_val (v_moveC rfl) rfl ?_
  refine s_go GO_ ?_
  refine s_val (v_idxA1 (j := 0) rfl rfl Try.underlying22 sz_5 (by omega)) rfl ?_
  refine s_go GO_ ?_
  refine s_val (v_load8 rfl rfl row_5 LT_) rfl ?_
  refine s_go GO_ ?_
  refine s_val (v_eql8 (b := 215#8) rfl rfl) rfl ?_
  refine s_val (v_pickT rfl PK_ rfl) rfl ?_
  refine s_val (v_moveC rfl) rfl ?_
  refine s_go GO_ ?_
  refine s_val (v_idxA1 (j := 1) rfl rfl Try.underlying22 sz_5 (by omega)) rfl ?_
  refine s_go GO_ ?_
  refine s_val (v_load8 rfl rfl row_5 LT_) rfl ?_
  refine s_go GO_ ?_
  refine s_val (v_eql8 (b := 90#8) rfl rfl) rfl ?_
  refine s_val (v_pickT rfl PK_ rfl) rfl ?_
  refine s_val (v_moveC rfl) rfl ?_
  refine s_go GO_ ?_
  refine s_val (v_idxA1 (j := 31) rfl rfl Try.underlying22 sz_5 (by omega)) rfl ?_
  refine s_go GO_ ?_
  refine s_val (v_load8 rfl rfl row_5 LT_) rfl ?_
  refine s_go GO_ ?_
  refine s_val (v_eql8 (b := 26#8) rfl rfl) rfl ?_
  refine s_val (v_pickT rfl PK_ rfl) rfl ?_
  refine s_val (v_moveC rfl) rfl ?_
  refine s_go GO_ ?_
  refine s_val (v_idxA1 (j := 0) rfl rfl Try.underlying25 sz_5 (by omega)) rfl ?_
  refine s_go GO_ ?_
  refine s_val (v_load8 rfl rfl row_5 LT_) rfl ?_
  refine s_go GO_ ?_
  refine s_val (v_eql8 (b := 229#8) rfl rfl) rfl ?_
  refine s_val (v_pickT rfl PK_ rfl) rfl ?_
  refine s_val (v_moveC rfl) rfl ?_
  refine s_go GO_ ?_
  refine s_val (v_idxA1 (j := 1) rfl rfl Try.underlying25 sz_5 (by omega)) rfl ?_
  refine s_go GO_ ?_
  refine s_val (v_load8 rfl rfl row_5 LT_) rfl ?_
  refine s_go GO_ ?_
  refine s_val (v_eql8 (b := 86#8) rfl rfl) rfl ?_
  refine s_val (v_pickT rfl PK_ rfl) rfl ?_
  refine s_val (v_moveC rfl) rfl ?_
  refine s_go GO_ ?_
  refine s_val (v_idxA1 (j := 63) rfl rfl Try.underlying25 sz_5 (by omega)) rfl ?_
  refine s_go GO_ ?_
  refine s_val (v_load8 rfl rfl row_5 LT_) rfl ?_
  refine s_go GO_ ?_
  refine s_val (v_eql8 (b := 11#8) rfl rfl) rfl ?_
  refine s_val (v_pickT rfl PK_ rfl) rfl ?_
  refine s_val (v_assignC rfl) rfl ?_
  refine s_nil ?_
  refine S_ ?_
  exact k_1 (by first | exact r_tmpC rfl | exact r_tmpA rfl) (by first | kernel_rfl | rfl)
end Go.Proofs.Ytcgncafhonlmlaa
namespace Go.Proofs.Ytcgncafhonlmlaa
open Go.RowKit
set_option maxRecDepth 100000 in
set_option maxHeartbeats 1000000 in
theorem bytes_ev (r s : List (BitVec 8)) (o p n c d : Nat) (hr : o + n ≤ r.length) (hs : p + n ≤ s.length) (hn : n ≤ 1099511627776) (he : ∀ i, i < n → nth r (o + i) = nth s (p + i)) :
    Ev Try.prog (.call 14 [.c (.sl 0 o n c 1), .c (.sl 1 p n d 1)] [.row false (.a8 r), .row false (.a8 s)]) (.val (.c (.val (.bool true))) [.row false (.a8 r), .row false (.a8 s)]) := by
  refine c_call Try.func14 rfl Try.ntmps14 rfl LEN_ ?_
  refine S_ ?_
  refine c_region ?_
  refine s_val (v_assignC rfl) rfl ?_
  refine s_nil ?_
  refine S_ ?_
  refine c_region ?_
  first
    | refine s_val (v_moveC rfl) rfl ?_
    | refine s_val (v_moveA rfl) rfl ?_
    | refine s_val (v_moveT rfl) rfl ?_
  first
    | refine s_val (v_lenS rfl Try.underlying23) rfl ?_
    | refine s_val (v_lenN rfl Try.underlying23) rfl ?_
    | refine s_val (v_lenE rfl Try.underlying23) rfl ?_
  first
    | refine s_val (v_moveC rfl) rfl ?_
    | refine s_val (v_moveA rfl) rfl ?_
    | refine s_val (v_moveT rfl) rfl ?_
  first
    | refine s_val (v_lenS rfl Try.underlying23) rfl ?_
    | refine s_val (v_lenN rfl Try.underlying23) rfl ?_
    | refine s_val (v_lenE rfl Try.underlying23) rfl ?_
  first
    | refine s_val (v_neqN rfl rfl) rfl ?_
    | refine s_val (v_neqI rfl rfl) rfl ?_
  refine s_nil ?_
  refine Q_ ?_
  refine c_condF rfl (by simp) ?_
  refine S_ ?_
  refine c_region ?_
  refine s_val (v_assignC rfl) rfl ?_
  refine s_nil ?_
  refine S_ ?_
  refine c_loopC [0, 1, 5] (fun (x : Nat) => ⟨26, keepT [0, 1, 5] [.c (.sl 0 o n c 1), .c (.sl 1 p n d 1), .c (.val (.int .i64 (x)))], [.row false (.a8 (r)), .row false (.a8 (s))]⟩) (fun j => j) (n) (by kernel_rfl) ?_ ?_
  · intro j hj
    refine S_ ?_
    refine c_region ?_
    first
      | refine s_val (v_moveC rfl) rfl ?_
      | refine s_val (v_moveA rfl) rfl ?_
      | refine s_val (v_moveT rfl) rfl ?_
    first
      | refine s_val (v_moveC rfl) rfl ?_
      | refine s_val (v_moveA rfl) rfl ?_
      | refine s_val (v_moveT rfl) rfl ?_
    first
      | refine s_val (v_lenS rfl Try.underlying23) rfl ?_
      | refine s_val (v_lenN rfl Try.underlying23) rfl ?_
      | refine s_val (v_lenE rfl Try.underlying23) rfl ?_
    first
      | refine s_val (v_lssN rfl rfl) rfl ?_
      | refine s_val (v_lssI rfl rfl) rfl ?_
    refine s_nil ?_
    refine S_ ?_
    refine c_draw 9 mixed (by kernel_rfl) rfl rfl rfl ?_
    first
      | refine h_val (v_moveC rfl) rfl ?_
      | refine h_val (v_moveA rfl) rfl ?_
      | refine h_val (v_moveT rfl) rfl ?_
    first
      | refine h_val (v_moveC rfl) rfl ?_
      | refine h_val (v_moveA rfl) rfl ?_
      | refine h_val (v_moveT rfl) rfl ?_
    first
      | refine h_val (v_idxS1 rfl rfl Try.underlying23 sz_5 (by omega)) rfl ?_
      | refine h_val (v_idxSo rfl rfl Try.underlying23 sz_5 (by omega)) rfl ?_
      | refine h_val (v_idxS rfl rfl Try.underlying23 sz_5 (by omega)) rfl ?_
    refine h_val (v_load8 rfl rfl row_5 LT_) rfl ?_
    first
      | refine h_val (v_moveC rfl) rfl ?_
      | refine h_val (v_moveA rfl) rfl ?_
      | refine h_val (v_moveT rfl) rfl ?_
    first
      | refine h_val (v_moveC rfl) rfl ?_
      | refine h_val (v_moveA rfl) rfl ?_
      | refine h_val (v_moveT rfl) rfl ?_
    first
      | refine h_val (v_idxS1 rfl rfl Try.underlying23 sz_5 (by omega)) rfl ?_
      | refine h_val (v_idxSo rfl rfl Try.underlying23 sz_5 (by omega)) rfl ?_
      | refine h_val (v_idxS rfl rfl Try.underlying23 sz_5 (by omega)) rfl ?_
    refine h_val (v_load8 rfl rfl row_5 LT_) rfl ?_
    refine h_val (v_neq8 rfl rfl) rfl ?_
    refine h_nil ?_
    refine s_nil ?_
    refine Q_ ?_
    refine c_condF rfl (by simp [he j hj]) ?_
    refine S_ ?_
    refine c_region ?_
    first
      | refine s_val (v_moveC rfl) rfl ?_
      | refine s_val (v_moveA rfl) rfl ?_
      | refine s_val (v_moveT rfl) rfl ?_
    first
      | refine s_val (v_addN (b := 1) rfl rfl (by omega)) rfl ?_
      | refine s_val (v_addI rfl rfl (by omega)) rfl ?_
    first
      | refine s_val (v_assignC rfl) rfl ?_
      | refine s_val (v_assignA rfl) rfl ?_
      | refine s_val (v_assignT rfl) rfl ?_
    refine s_nil ?_
    exact ⟨_, by kernel_rfl, rfl⟩
  · refine S_ ?_
    refine c_region ?_
    first
      | refine s_val (v_moveC rfl) rfl ?_
      | refine s_val (v_moveA rfl) rfl ?_
      | refine s_val (v_moveT rfl) rfl ?_
    first
      | refine s_val (v_moveC rfl) rfl ?_
      | refine s_val (v_moveA rfl) rfl ?_
      | refine s_val (v_moveT rfl) rfl ?_
    first
      | refine s_val (v_lenS rfl Try.underlying23) rfl ?_
      | refine s_val (v_lenN rfl Try.underlying23) rfl ?_
      | refine s_val (v_lenE rfl Try.underlying23) rfl ?_
    first
      | refine s_val (v_lssN rfl rfl) rfl ?_
      | refine s_val (v_lssI rfl rfl) rfl ?_
    refine s_nil ?_
    refine S_ ?_
    refine c_region ?_
    refine s_val (v_assignC rfl) rfl ?_
    refine s_nil ?_
    refine S_ ?_
    exact k_1 (by first | exact r_tmpC rfl | exact r_tmpA rfl) (by first | kernel_rfl | rfl)
set_option maxRecDepth 100000 in
theorem twin_ev (r : List (BitVec 8)) (n c : Nat) (hr : r.length = n) (hn : n ≤ 1099511627776) :
    Ev Try.prog (.call 9 [.c (.sl 0 0 n c 1)] [.row false (.a8 r)]) (.val (.c (.sl 1 0 n n 1)) [.row false (.a8 r), .row true (.a8 r)]) := by
  refine c_call Try.func9 rfl Try.ntmps9 rfl LEN_ ?_
  refine S_ ?_
  refine c_region ?_
  refine s_val (v_assignC rfl) rfl ?_
  refine s_nil ?_
  refine S_ ?_
  refine c_region ?_
  refine s_val (v_assignC rfl) rfl ?_
  refine s_nil ?_
  refine S_ ?_
  refine c_region ?_
  first
    | refine s_val (v_moveC rfl) rfl ?_
    | refine s_val (v_moveA rfl) rfl ?_
    | refine s_val (v_moveT rfl) rfl ?_
  first
    | refine s_val (v_moveC rfl) rfl ?_
    | refine s_val (v_moveA rfl) rfl ?_
    | refine s_val (v_moveT rfl) rfl ?_
  first
    | refine s_memN (m_appE8 rfl rfl rfl Try.underlying23 Try.underlying23 el_5 EQL_ (by omega) LEN_) APP_ rfl ?_
    | refine s_memN (m_appN8 rfl rfl rfl Try.underlying23 Try.underlying23 el_5 EQL_ (by omega) LEN_) APP_ rfl ?_
    | refine s_app8 rfl rfl rfl rfl Try.underlying23 Try.underlying23 el_5 EQL_ EQL_ (by omega) LEN_ KILL_ rfl ?_
    | refine s_memN (m_appE8c rfl rfl rfl Try.underlying23 Try.underlying23 el_5 LE_ (by omega) LEN_) APP_ rfl ?_
    | refine s_memN (m_appN8c rfl rfl rfl Try.underlying23 Try.underlying23 el_5 LE_ (by omega) LEN_) APP_ rfl ?_
    | refine s_app8c rfl rfl rfl rfl Try.underlying23 Try.underlying23 el_5 EQL_ LE_ (by omega) LEN_ KILL_ rfl ?_
    | refine s_memN (m_appZ rfl rfl Try.underlying23 Try.underlying23 el_5 rfl) APP_ rfl ?_
    | refine s_memN (m_appZe rfl rfl Try.underlying23 Try.underlying23 el_5 rfl) APP_ rfl ?_
  first
    | refine s_val (v_assignC rfl) rfl ?_
    | refine s_val (v_assignA rfl) rfl ?_
    | refine s_val (v_assignT rfl) rfl ?_
  refine s_nil ?_
  refine S_ ?_
  exact k_1 (by first | exact r_tmpC rfl | exact r_tmpA rfl) (by first | kernel_rfl | rfl)
end Go.Proofs.Ytcgncafhonlmlaa
namespace Go.Proofs.Ytcgncafhonlmlaa
open Go.RowKit
set_option maxRecDepth 100000 in
set_option maxHeartbeats 2000000 in
theorem signExact_ev (seed : List (BitVec 8)) (text : List (BitVec 8)) (cap : Nat) (hseed : seed.length = 32) (hT : text.length ≤ 500) : Ev Try.prog (.call 3 [.agg (.a8 (seed)), .c (.sl 0 0 text.length cap 1)] [.row false (.a8 (text))]) (.val (.c (.val (.bool (true)))) [.row false (.a8 (text))]) := by
  refine c_call Try.func3 rfl Try.ntmps3 rfl LEN_ ?_
  refine S_ ?_
  refine c_region ?_
  refine s_memN (m_box BX_ LEN_) APP_ rfl ?_
  refine s_val (v_assignC rfl) rfl ?_
  refine s_nil ?_
  refine S_ ?_
  refine c_region ?_
  refine s_val (v_moveC rfl) rfl ?_
  refine s_val (v_lenS rfl Try.underlying23) rfl ?_
  refine s_val (v_gtrN (b := 500) rfl rfl) rfl ?_
  refine s_nil ?_
  refine S_ ?_
  refine c_region ?_
  refine s_val (v_moveC rfl) rfl ?_
  refine s_evN (e_callR (bs := [0]) (twin_ev text text.length cap HYP_ HYP_) ok_9 (by kernel_rfl) (by kernel_rfl) rfl VAL_) APP_ rfl ?_
  refine s_val (v_assignC rfl) rfl ?_
  refine s_nil ?_
  have hQ1 : (sgSign0 seed text).length = 64 := LQ_
  refine S_ ?_
  refine c_region ?_
  refine s_val (v_loadR rfl rfl row_22 sz_22 EQ_ (by decide)) rfl ?_
  refine s_val (v_moveC rfl) rfl ?_
  refine s_evN (e_callR (bs := [2]) (sgSign_ev seed text text.length text.length HYP_ HYP_ HYP_ HYP_) ok_10 (by kernel_rfl) (by kernel_rfl) rfl VAL_) APP_ rfl ?_
  refine s_val (v_moveT rfl) rfl ?_
  refine s_val (v_extract rfl rfl) rfl ?_
  refine s_val (v_extract rfl rfl) rfl ?_
  refine s_memN (m_alloc al_25 LEN_) APP_ rfl ?_
  refine s_storeR rfl rfl rfl rfl sz_25 EQ_ EQ_ SET_ ?_
  refine s_val (v_assignC rfl) rfl ?_
  refine s_nil ?_
  have hQ4 : (sgPub seed).length = 32 := LQ_
  have hQ5 : (sgSign0 seed text).length = 64 := LQ_
  have hE2 : (decide (sgPub seed = sgPub seed)) = true := decide_eq_true rfl
  have hE3 : (decide (sgSign0 seed text = sgSign0 seed text)) = true := decide_eq_true rfl
  refine S_ ?_
  refine c_draw 25 mixed (by kernel_rfl) rfl rfl rfl ?_
  refine h_val (v_loadR rfl rfl row_22 sz_22 EQ_ (by decide)) rfl ?_
  refine h_evN (e_callR (bs := []) (sgPub_ev seed HYP_) ok_11 (by kernel_rfl) (by kernel_rfl) rfl VAL_) APP_ rfl ?_
  refine h_val (v_loadR rfl rfl row_22 sz_22 EQ_ (by decide)) rfl ?_
  refine h_evN (e_callR (bs := []) (rPub_ev seed HYP_) ok_12 (by kernel_rfl) (by kernel_rfl) rfl VAL_) APP_ rfl ?_
  refine h_val (v_bool (v_eqlR8 rfl rfl Try.underlying22 Try.underlying5 sz_5 EQ_ EQ_) hE2) rfl ?_
  refine h_val (v_moveC rfl) rfl ?_
  refine h_go GO_ ?_
  refine h_val (v_moveC rfl) rfl ?_
  refine h_go GO_ ?_
  refine h_val (v_eqlN (a := 0) (b := 0) rfl rfl) rfl ?_
  refine h_val (v_pickT rfl PK_ rfl) rfl ?_
  refine h_val (v_moveC rfl) rfl ?_
  refine h_go GO_ ?_
  refine h_val (v_loadR rfl rfl row_25 sz_25 EQ_ (by decide)) rfl ?_
  refine h_go GO_ ?_
  refine h_val (v_loadR rfl rfl row_22 sz_22 EQ_ (by decide)) rfl ?_
  refine h_go GO_ ?_
  refine h_val (v_moveC rfl) rfl ?_
  refine h_go GO_ ?_
  refine h_evN (e_callR (bs := [0]) (rSign_ev seed text text.length cap HYP_ HYP_ HYP_) ok_13 (by kernel_rfl) (by kernel_rfl) rfl VAL_) APP_ rfl ?_
  refine h_go GO_ ?_
  refine h_val (v_bool (v_eqlR8 rfl rfl Try.underlying25 Try.underlying5 sz_5 EQ_ EQ_) hE3) rfl ?_
  refine h_val (v_pickT rfl PK_ rfl) rfl ?_
  refine h_val (v_moveC rfl) rfl ?_
  refine h_go GO_ ?_
  refine h_val (v_moveC rfl) rfl ?_
  refine h_go GO_ ?_
  refine h_val (v_moveC rfl) rfl ?_
  refine h_go GO_ ?_
  refine h_evN (e_callR (bs := [2,0]) (bytes_ev text text 0 0 text.length text.length cap HYP_ HYP_ HYP_ (fun _ _ => rfl)) ok_14 (by kernel_rfl) (by kernel_rfl) rfl VAL_) APP_ rfl ?_
  refine h_val (v_pickT rfl PK_ rfl) rfl ?_
  refine h_val (v_moveC rfl) rfl ?_
  refine h_go GO_ ?_
  refine h_evN (e_callR (wakes_ev) ok_15 rfl rfl rfl VAL_) APP_ rfl ?_
  refine h_val (v_pickT rfl PK_ rfl) rfl ?_
  refine h_val (v_assignC rfl) rfl ?_
  refine h_nil ?_
  refine s_nil ?_
  refine S_ ?_
  exact k_1 (by first | exact r_tmpC rfl | exact r_tmpA rfl) (by first | kernel_rfl | rfl)
set_option maxRecDepth 100000 in
set_option maxHeartbeats 2000000 in
theorem signExactB_ev (seed : List (BitVec 8)) (text : List (BitVec 8)) (cap : Nat) (hseed : seed.length = 32) (hT : 500 < text.length) : Ev Try.prog (.call 3 [.agg (.a8 (seed)), .c (.sl 0 0 text.length cap 1)] [.row false (.a8 (text))]) (.val (.c (.val (.bool (true)))) [.row false (.a8 (text))]) := by
  refine c_call Try.func3 rfl Try.ntmps3 rfl LEN_ ?_
  refine S_ ?_
  refine c_region ?_
  refine s_memN (m_box BX_ LEN_) APP_ rfl ?_
  refine s_val (v_assignC rfl) rfl ?_
  refine s_nil ?_
  refine S_ ?_
  refine c_region ?_
  refine s_val (v_moveC rfl) rfl ?_
  refine s_val (v_lenS rfl Try.underlying23) rfl ?_
  refine s_val (v_gtrN (b := 500) rfl rfl) rfl ?_
  refine s_nil ?_
  refine S_ ?_
  refine c_region ?_
  refine s_val (v_assignC rfl) rfl ?_
  refine s_nil ?_
  refine S_ ?_
  exact k_1 (by first | exact r_tmpC rfl | exact r_tmpA rfl) (by first | kernel_rfl | rfl)
end Go.Proofs.Ytcgncafhonlmlaa
namespace Go.Proofs.Ytcgncafhonlmlaa
open Go.RowKit
set_option maxRecDepth 100000 in
set_option maxHeartbeats 2000000 in
theorem signLooks_ev (pub : List (BitVec 8)) (text : List (BitVec 8)) (cap : Nat) (sig : List (BitVec 8)) (hpub : pub.length = 32) (hsig : sig.length = 64) (hT : text.length ≤ 500) : Ev Try.prog (.call 5 [.agg (.a8 (pub)), .c (.sl 0 0 text.length cap 1), .agg (.a8 (sig))] [.row false (.a8 (text))]) (.val (.c (.val (.bool (true)))) [.row false (.a8 (text))]) := by
  refine c_call Try.func5 rfl Try.ntmps5 rfl LEN_ ?_
  refine S_ ?_
  refine c_region ?_
  refine s_memN (m_box BX_ LEN_) APP_ rfl ?_
  refine s_memN (m_box BX_ LEN_) APP_ rfl ?_
  refine s_val (v_assignC rfl) rfl ?_
  refine s_nil ?_
  refine S_ ?_
  refine c_region ?_
  refine s_val (v_moveC rfl) rfl ?_
  refine s_val (v_lenS rfl Try.underlying23) rfl ?_
  refine s_val (v_gtrN (b := 500) rfl rfl) rfl ?_
  refine s_nil ?_
  refine S_ ?_
  refine c_region ?_
  refine s_val (v_moveC rfl) rfl ?_
  refine s_evN (e_callR (bs := [0]) (twin_ev text text.length cap HYP_ HYP_) ok_9 (by kernel_rfl) (by kernel_rfl) rfl VAL_) APP_ rfl ?_
  refine s_val (v_assignC rfl) rfl ?_
  refine s_nil ?_
  have hE1 : (((vfy pub text sig) == (vfy pub text sig))) = true := beq_self_eq_true _
  refine S_ ?_
  refine c_draw 18 mixed (by kernel_rfl) rfl rfl rfl ?_
  refine h_val (v_loadR rfl rfl row_22 sz_22 EQ_ (by decide)) rfl ?_
  refine h_val (v_moveC rfl) rfl ?_
  refine h_val (v_loadR rfl rfl row_25 sz_25 EQ_ (by decide)) rfl ?_
  refine h_evN (e_callR (bs := [3]) (vfyE_ev pub text text.length text.length sig HYP_ HYP_ HYP_ HYP_) ok_18 (by kernel_rfl) (by kernel_rfl) rfl VAL_) APP_ rfl ?_
  refine h_val (v_loadR rfl rfl row_22 sz_22 EQ_ (by decide)) rfl ?_
  refine h_val (v_moveC rfl) rfl ?_
  refine h_val (v_loadR rfl rfl row_25 sz_25 EQ_ (by decide)) rfl ?_
  refine h_evN (e_callR (bs := [0]) (rVfy_ev pub text text.length cap sig HYP_ HYP_ HYP_ HYP_) ok_19 (by kernel_rfl) (by kernel_rfl) rfl VAL_) APP_ rfl ?_
  refine h_val (v_bool (v_eqlB rfl rfl Try.underlying4) hE1) rfl ?_
  refine h_val (v_moveC rfl) rfl ?_
  refine h_go GO_ ?_
  refine h_val (v_moveC rfl) rfl ?_
  refine h_go GO_ ?_
  refine h_val (v_moveC rfl) rfl ?_
  refine h_go GO_ ?_
  refine h_evN (e_callR (bs := [3,0]) (bytes_ev text text 0 0 text.length text.length cap HYP_ HYP_ HYP_ (fun _ _ => rfl)) ok_14 (by kernel_rfl) (by kernel_rfl) rfl VAL_) APP_ rfl ?_
  refine h_val (v_pickT rfl PK_ rfl) rfl ?_
  refine h_val (v_moveC rfl) rfl ?_
  refine h_go GO_ ?_
  refine h_evN (e_callR (wakes_ev) ok_15 rfl rfl rfl VAL_) APP_ rfl ?_
  refine h_val (v_pickT rfl PK_ rfl) rfl ?_
  refine h_val (v_assignC rfl) rfl ?_
  refine h_nil ?_
  refine s_nil ?_
  refine S_ ?_
  exact k_1 (by first | exact r_tmpC rfl | exact r_tmpA rfl) (by first | kernel_rfl | rfl)
set_option maxRecDepth 100000 in
set_option maxHeartbeats 2000000 in
theorem signLooksB_ev (pub : List (BitVec 8)) (text : List (BitVec 8)) (cap : Nat) (sig : List (BitVec 8)) (hpub : pub.length = 32) (hsig : sig.length = 64) (hT : 500 < text.length) : Ev Try.prog (.call 5 [.agg (.a8 (pub)), .c (.sl 0 0 text.length cap 1), .agg (.a8 (sig))] [.row false (.a8 (text))]) (.val (.c (.val (.bool (true)))) [.row false (.a8 (text))]) := by
  refine c_call Try.func5 rfl Try.ntmps5 rfl LEN_ ?_
  refine S_ ?_
  refine c_region ?_
  refine s_memN (m_box BX_ LEN_) APP_ rfl ?_
  refine s_memN (m_box BX_ LEN_) APP_ rfl ?_
  refine s_val (v_assignC rfl) rfl ?_
  refine s_nil ?_
  refine S_ ?_
  refine c_region ?_
  refine s_val (v_moveC rfl) rfl ?_
  refine s_val (v_lenS rfl Try.underlying23) rfl ?_
  refine s_val (v_gtrN (b := 500) rfl rfl) rfl ?_
  refine s_nil ?_
  refine S_ ?_
  refine c_region ?_
  refine s_val (v_assignC rfl) rfl ?_
  refine s_nil ?_
  refine S_ ?_
  exact k_1 (by first | exact r_tmpC rfl | exact r_tmpA rfl) (by first | kernel_rfl | rfl)
end Go.Proofs.Ytcgncafhonlmlaa
namespace Go.Proofs.Ytcgncafhonlmlaa
open Go.RowKit
end Go.Proofs.Ytcgncafhonlmlaa
namespace Go.Proofs.Ytcgncafhonlmlaa
open Go.RowKit
end Go.Proofs.Ytcgncafhonlmlaa
namespace Go.Proofs.Ytcgncafhonlmlaa
open Go.RowKit
def signBack_L11_S (seed : List (BitVec 8)) (text : List (BitVec 8)) (X5 : Nat) (X6 : List (BitVec 8)) (j11 : Nat) : Nat × List (BitVec 8) := (((X5 + ((nth (sgSign0 seed text) (32 + j11)).toNat)) + ((nth (rB rfL) j11).toNat)) / 256, put X6 (32 + j11) (BitVec.ofNat 8 ((X5 + ((nth (sgSign0 seed text) (32 + j11)).toNat)) + ((nth (rB rfL) j11).toNat))))
def signBack_L11 (seed : List (BitVec 8)) (text : List (BitVec 8)) : Nat → Nat × List (BitVec 8)
  | 0 => (0, sgSign0 seed text)
  | j11 + 1 => signBack_L11_S seed text (signBack_L11 seed text j11).1 (signBack_L11 seed text j11).2 j11
def signBack_L18_S (X11 : List (BitVec 8)) (j18 : Nat) : List (BitVec 8) := put X11 j18 255#8
def signBack_L18 (seed : List (BitVec 8)) (text : List (BitVec 8)) : Nat → List (BitVec 8)
  | 0 => sgSign0 seed text
  | j18 + 1 => signBack_L18_S (signBack_L18 seed text j18) j18
end Go.Proofs.Ytcgncafhonlmlaa
namespace Go.Proofs.Ytcgncafhonlmlaa
open Go.RowKit
def ntS (n : List (BitVec 8)) : List (BitVec 8) := sMA n (fSmall 1#64) (zer8 32)
def ntM (n : List (BitVec 8)) : List (BitVec 8) := sMA (ntS n) (fSmall 1#64) (fSmall 1#64)
@[simp] theorem ntS_len (n : List (BitVec 8)) : (ntS n).length = 32 := sMA_len _ _ _
@[simp] theorem ntM_len (n : List (BitVec 8)) : (ntM n).length = 32 := sMA_len _ _ _
attribute [irreducible] ntS ntM
end Go.Proofs.Ytcgncafhonlmlaa
namespace Go.Proofs.Ytcgncafhonlmlaa
open Go.RowKit
end Go.Proofs.Ytcgncafhonlmlaa
namespace Go.Proofs.Ytcgncafhonlmlaa
open Go.RowKit
theorem signExactU_ev (seed : List (BitVec 8)) (text : List (BitVec 8)) (cap : Nat) (hseed : seed.length = 32) : Ev Try.prog (.call 3 [.agg (.a8 (seed)), .c (.sl 0 0 text.length cap 1)] [.row false (.a8 (text))]) (.val (.c (.val (.bool (true)))) [.row false (.a8 (text))]) := by
  rcases Nat.lt_or_ge 500 text.length with h | h
  · exact signExactB_ev seed text cap hseed h
  · exact signExact_ev seed text cap hseed h
theorem signLooksU_ev (pub : List (BitVec 8)) (text : List (BitVec 8)) (cap : Nat) (sig : List (BitVec 8)) (hpub : pub.length = 32) (hsig : sig.length = 64) : Ev Try.prog (.call 5 [.agg (.a8 (pub)), .c (.sl 0 0 text.length cap 1), .agg (.a8 (sig))] [.row false (.a8 (text))]) (.val (.c (.val (.bool (true)))) [.row false (.a8 (text))]) := by
  rcases Nat.lt_or_ge 500 text.length with h | h
  · exact signLooksB_ev pub text cap sig hpub hsig h
  · exact signLooks_ev pub text cap sig hpub hsig h
end Go.Proofs.Ytcgncafhonlmlaa
namespace Go.Proofs.Ytcgncafhonlmlaa
open Go.RowKit
def Sl (w : World) (v : Value) (l : List (BitVec 8)) : Prop :=
  ∃ a cap, v = .slice a l.length cap ∧ l.length ≤ cap ∧ cap ≤ maxLen ∧ (a = none → cap = 0) ∧ ∀ i, i < l.length → ∃ b off, a = some ⟨b, off, none⟩ ∧ w.cell? ⟨b, off + i, none⟩ = some (U8 (nth l i))
def Own (B : Nat) (w : World) (v : Value) (l : List (BitVec 8)) : Prop := w.ownsRow B 5 1 v l.length (l.map U8)
theorem Sl.nil (w : World) : Sl w (.slice none 0 0) [] := ⟨none, 0, rfl, Nat.le_refl _, by unfold maxLen; omega, fun _ => rfl, fun i h => absurd h (by simp)⟩
theorem addr_mid (b o j : Nat) : (⟨b, o, none⟩ : Addr).add j = ⟨b, o + j, none⟩ := Addr.add_mid b o j
theorem Own.sl {B : Nat} {w : World} {v : Value} {l : List (BitVec 8)} (h : Own B w v l) : Sl w v l := by
  obtain ⟨h1, h2⟩ := h
  rcases h2 with ⟨rfl, hn⟩ | ⟨g, cap, cur, rfl, hg, hh, hc, hm, hs, ht⟩
  · obtain rfl : l = [] := List.length_eq_zero_iff.1 hn
    exact Sl.nil w
  · refine ⟨some ⟨g, 0, none⟩, cap, rfl, hc, hm, (fun h => by cases h), fun i hi => ⟨g, 0, rfl, ?_⟩⟩
    rw [cell_of_row w g (0 + i) cur _ _ hh]
    have := congrArg (fun x => x[i]?) ht
    simp only [List.getElem?_take, Nat.mul_one, hi, if_true, List.getElem?_map] at this
    rw [Nat.zero_add, ← Array.getElem?_toList, this]
    simp [nth, hi]
theorem Own.nil (B : Nat) (w : World) : Own B w (.slice none 0 0) [] := World.ownsRow_nil w B _ 1
theorem Sl.shape {w : World} {v : Value} {l : List (BitVec 8)} (h : Sl w v l) (hl : l ≠ []) : ∃ b off cap, v = .slice (some ⟨b, off, none⟩) l.length cap ∧ l.length ≤ cap ∧ cap ≤ maxLen ∧ ∀ i, i < l.length → w.cell? ⟨b, off + i, none⟩ = some (U8 (nth l i)) := by
  obtain ⟨a, cap, rfl, hc, hm, _, hi⟩ := h
  have hp : 0 < l.length := List.length_pos_iff.2 hl
  obtain ⟨b, off, rfl, _⟩ := hi 0 hp
  refine ⟨b, off, cap, rfl, hc, hm, fun i h => ?_⟩
  obtain ⟨b', off', e, hcell⟩ := hi i h
  simp only [Option.some.injEq, Addr.mk.injEq] at e
  obtain ⟨rfl, rfl, _⟩ := e
  exact hcell
theorem Sl.len {w : World} {v : Value} {l : List (BitVec 8)} (h : Sl w v l) : ∃ a cap, v = .slice a l.length cap := by obtain ⟨a, cap, h, _⟩ := h; exact ⟨a, cap, h⟩
theorem Sl.mk {w : World} {b off len cap : Nat} {l : List (BitVec 8)} (hl : l.length = len) (hc : len ≤ cap) (hm : cap ≤ maxLen) (h : ∀ i, i < len → w.cell? ⟨b, off + i, none⟩ = some (U8 (nth l i))) : Sl w (.slice (some ⟨b, off, none⟩) len cap) l := by
  subst hl
  exact ⟨_, cap, rfl, hc, hm, fun h => (by cases h), fun i hi => ⟨b, off, rfl, h i hi⟩⟩
theorem Sl.below {w w' : World} {v : Value} {l : List (BitVec 8)} (h : Sl w v l) (hb : Below w.heap.size w w') : Sl w' v l := by
  obtain ⟨a, cap, rfl, hc, hm, hn, hi⟩ := h
  refine ⟨a, cap, rfl, hc, hm, hn, fun i h => ?_⟩
  obtain ⟨b, off, e, hcell⟩ := hi i h
  refine ⟨b, off, e, ?_⟩
  rw [hb.cell (World.block_lt_of_cell? w _ hcell)]; exact hcell
theorem Sl.same {w w' : World} {v : Value} {l : List (BitVec 8)} (h : Sl w v l) (hb : ∀ k, (l ≠ [] → v.ownBlock = some k) → w'.heap[k]? = w.heap[k]?) : Sl w' v l := by
  obtain ⟨a, cap, rfl, hc, hm, hn, hi⟩ := h
  refine ⟨a, cap, rfl, hc, hm, hn, fun i h => ?_⟩
  obtain ⟨b, off, rfl, hcell⟩ := hi i h
  refine ⟨b, off, rfl, ?_⟩
  rw [World.cell?_of_block (w := w) (w' := w') (hb b fun _ => rfl)]; exact hcell
theorem Sl.upto {w : World} {v : Value} {l : List (BitVec 8)} (h : Sl w v l) (hl : l ≠ []) : ∃ k, v.ownBlock = some k ∧ k < w.heap.size := by
  obtain ⟨b, off, cap, rfl, _, _, hi⟩ := h.shape hl
  exact ⟨b, rfl, World.block_lt_of_cell? w _ (hi 0 (List.length_pos_iff.2 hl))⟩
theorem Own.below {B : Nat} {w w' : World} {v : Value} {l : List (BitVec 8)} (h : Own B w v l) (hb : Below w.heap.size w w') : Own B w' v l := by
  obtain ⟨h1, h2⟩ := h
  refine ⟨h1, ?_⟩
  rcases h2 with h2 | ⟨g, cap, cur, rfl, hg, hh, r⟩
  · exact Or.inl h2
  · exact Or.inr ⟨g, cap, cur, rfl, hg, by rw [hb.block g (Array.getElem?_eq_some_iff.1 hh).1]; exact hh, r⟩
theorem Own.mono {B B' : Nat} {w : World} {v : Value} {l : List (BitVec 8)} (h : Own B w v l) (hB : B' ≤ B) : Own B' w v l := by
  obtain ⟨h1, h2⟩ := h
  refine ⟨h1, ?_⟩
  rcases h2 with h2 | ⟨g, cap, cur, rfl, hg, hh, r⟩
  · exact Or.inl h2
  · exact Or.inr ⟨g, cap, cur, rfl, Nat.le_trans hB hg, hh, r⟩
theorem Has.grown {w w' : World} {b : Nat} {cs : Array Value} {t : TypeId} {row : Option Nat} (h : Has w b cs t) (hg : w.grownBy w' row) (hb : some b ≠ row) : Has w' b cs t := by
  have := h.lt; unfold Has at *; rw [hg.block b this hb]; exact h
theorem Sl.grown {w w' : World} {v : Value} {l : List (BitVec 8)} {row : Option Nat} (h : Sl w v l) (hg : w.grownBy w' row) (hb : l ≠ [] → v.ownBlock ≠ row) : Sl w' v l := by
  by_cases hl : l = []
  · subst hl
    obtain ⟨a, cap, rfl, hc, hm, hn, hi⟩ := h
    exact ⟨a, cap, rfl, hc, hm, hn, fun i h => absurd h (by simp)⟩
  · obtain ⟨k, hk, hk2⟩ := h.upto hl
    refine h.same fun j hj => ?_
    have : j = k := by have := hj hl; rw [hk] at this; simpa using this.symm
    subst this
    exact hg.block j hk2 (by rw [← hk]; exact hb hl)
theorem Own.apart {B : Nat} {w : World} {v : Value} {l : List (BitVec 8)} (h : Own B w v l) {b : Nat} {cs : Array Value} {t : TypeId} (hb : Has w b cs t) (ht : t ≠ 5) : some b ≠ v.ownBlock := by
  obtain ⟨_, h2⟩ := h
  rcases h2 with ⟨rfl, _⟩ | ⟨g, cap, cur, rfl, hg, hh, _⟩
  · simp [Value.ownBlock]
  · intro e
    simp only [Value.ownBlock, Option.some.injEq] at e
    subst e
    unfold Has at hb
    rw [hb] at hh
    simp only [Option.some.injEq, Obj.cells.injEq] at hh
    exact ht hh.2.1
theorem Own.from {B : Nat} {w : World} {v : Value} {l : List (BitVec 8)} (h : Own B w v l) : ∀ k, v.ownBlock = some k → B ≤ k := fun k hk => (World.ownsRow.lt h k hk).1
theorem Has.own {B : Nat} {w w' : World} {v : Value} {l : List (BitVec 8)} (h : Own B w v l) (hg : w.grownBy w' v.ownBlock) {b : Nat} {cs : Array Value} {t : TypeId} (hb : Has w b cs t) (ht : t ≠ 5) : Has w' b cs t := hb.grown hg (h.apart hb ht)
theorem Sl.one {w : World} {g : Nat} {x : BitVec 8} {t : TypeId} (h : Has w g #[U8 x] t) : Sl w (.slice (some ⟨g, 0, none⟩) 1 1) [x] :=
  Sl.mk (l := [x]) rfl (Nat.le_refl _) (by unfold maxLen; omega) fun i hi => by
    obtain rfl : i = 0 := by omega
    rw [h.cell]; rfl
def cellsT (l : List (BitVec 8)) (T : List Value) : Array Value := (l.map U8 ++ T).toArray
@[go_sem] theorem cellsT_get (l : List (BitVec 8)) (T : List Value) (i : Nat) (h : i < l.length) : (cellsT l T)[i]? = some (U8 (nth l i)) := by
  simp only [cellsT, List.getElem?_toArray]
  rw [List.getElem?_append_left (by simpa using h)]
  simp [nth, h]
@[go_sem] theorem cellsT_set (l : List (BitVec 8)) (T : List Value) (i : Nat) (v : BitVec 8) (h : i < l.length) : (cellsT l T).setIfInBounds i (U8 v) = cellsT (put l i v) T := by
  simp [cellsT, put, List.map_set, h]
theorem Own.shape {B : Nat} {w : World} {v : Value} {l : List (BitVec 8)} (h : Own B w v l) (hl : l ≠ []) : ∃ g cap T, v = .slice (some ⟨g, 0, none⟩) l.length cap ∧ B ≤ g ∧ Has w g (cellsT l T) 5 ∧ l.length ≤ cap ∧ cap ≤ maxLen ∧ l.length + T.length = cap := by
  obtain ⟨h1, h2⟩ := h
  rcases h2 with ⟨rfl, hn⟩ | ⟨g, cap, cur, rfl, hg, hh, hc, hm, hs, ht⟩
  · exact absurd (List.length_eq_zero_iff.1 hn) hl
  · refine ⟨g, cap, cur.toList.drop l.length, rfl, hg, ?_, hc, hm, ?_⟩
    · have e : cellsT l (cur.toList.drop l.length) = cur := by
        unfold cellsT
        rw [Nat.mul_one] at ht
        rw [← ht, List.take_append_drop]
      unfold Has; rw [e]; exact hh
    · have : cur.toList.length = cap := by simpa using hs
      rw [List.length_drop, this]; omega
theorem Own.mk {B : Nat} {w : World} {g cap : Nat} {l : List (BitVec 8)} {T : List Value} (hg : B ≤ g) (h : Has w g (cellsT l T) 5) (hm : cap ≤ maxLen) (hc : l.length + T.length = cap) : Own B w (.slice (some ⟨g, 0, none⟩) l.length cap) l := by
  refine ⟨by simp, .inr ⟨g, cap, cellsT l T, rfl, hg, h, by omega, hm, by simp [cellsT]; omega, ?_⟩⟩
  simp [cellsT]
end Go.Proofs.Ytcgncafhonlmlaa
namespace Go.Proofs.Ytcgncafhonlmlaa
open Go.ChangeShapes Go.WideShapes Go.ChangeAt Go.RowKit
theorem int_u8 {n : Int} (h : (Lit.int .u8 n).wf = true) : (.int .u8 n : Value) = U8 (BitVec.ofInt 8 n) := by
  simp only [Lit.wf, Bool.and_eq_true, decide_eq_true_eq] at h
  have h1 : (0 : Int) ≤ n := h.1
  have h2 : n ≤ 255 := h.2
  show Value.int .u8 n = Value.int .u8 (tn (BitVec.ofInt 8 n))
  congr 1
  unfold tn
  rw [BitVec.toNat_ofInt]
  omega
def byteOf : Value → BitVec 8
  | .int _ n => BitVec.ofInt 8 n
  | _ => 0
section
variable {H : Type} {enc : TypeId × Value → H} {P : Program} {w : World} {base : Nat} {spare : Nat → Bool} {held : Bool}
theorem okWide_array {r : Reach} {b0 : Nat} {t e : TypeId} {n : Nat} {v : Value} (ht : P.underlying t = some (.array n e)) (h : Value.okWide P w r b0 t v) : ∃ cs, v = .agg cs ∧ cs.size = P.cellsOf t := by
  simp only [Value.okWide, ht] at h
  obtain ⟨cs, h1, h2, _⟩ := h
  exact ⟨cs, h1, h2⟩
theorem open_bytes {r : Reach} {b0 : Nat} {t e : TypeId} {n : Nat} {v : Value} {d : DataW H} {ps : List MemPlace} (ht : P.underlying t = some (.array n e)) (he : P.underlying e = some (.int .u8)) (hc : P.cellsOf e = 1) (hct : P.cellsOf t = n)
    (hval : Value.okWide P w r b0 t v) (hd : DataW.Trod enc P w base spare held t v d ps) : ∃ l : List (BitVec 8), v = .agg (cells U8 l) ∧ l.length = n := by
  obtain ⟨cs, rfl, hs⟩ := okWide_array ht hval
  obtain ⟨fuel, hf⟩ := hd
  obtain ⟨xs, m, _, _, _, hx, hi⟩ := DataW.trod_array ht hf
  refine ⟨cs.toList.map byteOf, ?_, by simp [hs, hct]⟩
  congr 1
  apply Array.ext
  · simp [cells]
  · intro i h1 h2
    have hin : i < n := by omega
    have h := hi i hin
    rw [List.getElem?_eq_getElem (by omega)] at h
    obtain ⟨z, hz, _, hw⟩ := DataW.trod_int he h
    have hv : cs[i] = .int .u8 z := by
      rw [hc, Nat.mul_one] at hz
      have : ((cs.toList.drop i).take 1)[0]? = some (.int .u8 z) := by
        have hz' : ((cs.toList.drop i).take 1) = [.int .u8 z] := hz
        rw [hz']; rfl
      simp [List.getElem?_drop] at this
      have h3 := Array.getElem?_eq_some_iff.1 this
      exact h3.2
    simp only [cells, List.getElem_toArray, List.getElem_map, Array.getElem_toList]
    rw [hv]
    exact int_u8 hw
end
end Go.Proofs.Ytcgncafhonlmlaa
