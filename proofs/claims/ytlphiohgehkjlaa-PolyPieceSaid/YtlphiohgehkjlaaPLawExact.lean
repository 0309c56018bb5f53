/- The walk of trystlaw04.PolyExact. -/
import Derived.Test.YtlphiohgehkjlaaPRefTag
import Derived.Test.YtlphiohgehkjlaaPKeep
import Derived.Test.YtlphiohgehkjlaaPWakes
namespace Go.Proofs.Ytlphiohgehkjlaa
open Go.RowKit
attribute [local irreducible] polyTag
theorem polyTag_length (key t : List (BitVec 8)) : (polyTag key t).length = 16 := by with_unfolding_all exact tagEnd_length _ _
set_option maxRecDepth 100000 in
set_option maxHeartbeats 1000000 in
theorem polyExact_ev (key t : List (BitVec 8)) (n cap : Nat) (hk : key.length = 32) (ht : t.length = n) (hlaw : polyTag key t = refTag key t) :
    Ev Try.prog (.call 3 [.agg (.a8 key), .c (.sl 0 0 n cap 1)] [.row false (.a8 t)]) (.val (.c (.val (.bool true))) [.row false (.a8 t)]) := by
  have hl1 := polyTag_length key t
  have hl2 := refTag_length key t
  refine c_call Try.func3 rfl Try.ntmps3 rfl LEN_ ?_
  refine S_ ?_
  refine c_region ?_
  refine s_memN (m_box BX_ LEN_) APP_ rfl ?_
  refine s_val (v_assignC rfl) rfl ?_
  refine s_nil ?_
  refine S_ ?_
  refine c_region ?_
  first
    | refine s_val (v_moveC rfl) rfl ?_
    | refine s_val (v_moveA rfl) rfl ?_
    | refine s_val (v_moveT rfl) rfl ?_
  first
    | refine s_val (v_lenS rfl Try.underlying23) rfl ?_
    | refine s_val (v_lenN rfl Try.underlying23) rfl ?_
    | refine s_val (v_lenE rfl Try.underlying23) rfl ?_
  first
    | refine s_val (v_gtrN (b := 1000) rfl rfl) rfl ?_
    | refine s_val (v_gtrI rfl rfl) rfl ?_
  refine s_nil ?_
  refine Q_ ?_
  by_cases hbig : 1000 < n
  · refine c_condT rfl (decide_eq_true hbig) ?_
    refine S_ ?_
    refine c_region ?_
    refine s_val (v_assignC rfl) rfl ?_
    refine s_nil ?_
    refine S_ ?_
    exact k_1 (by first | exact r_tmpC rfl | exact r_tmpA rfl) (by first | kernel_rfl | rfl)
  · refine c_condF rfl (decide_eq_false hbig) ?_
    refine S_ ?_
    refine c_region ?_
    first
      | refine s_val (v_moveC rfl) rfl ?_
      | refine s_val (v_moveA rfl) rfl ?_
      | refine s_val (v_moveT rfl) rfl ?_
    refine s_evN (e_callR (v' := .c (.sl 2 0 n n 1)) (news := [.row true (.a8 t)]) (twin_ev t n cap ht (by omega)) ok_7 rfl rfl rfl rfl) (rfl : _ = [_, _, _]) rfl ?_
    first
      | refine s_val (v_assignC rfl) rfl ?_
      | refine s_val (v_assignA rfl) rfl ?_
      | refine s_val (v_assignT rfl) rfl ?_
    refine s_nil ?_
    refine S_ ?_
    refine c_draw 8 mixed (by kernel_rfl) rfl rfl rfl ?_
    refine h_val (v_loadR rfl rfl row_22 sz_22 EQ_ (by decide)) rfl ?_
    first
      | refine h_val (v_moveC rfl) rfl ?_
      | refine h_val (v_moveA rfl) rfl ?_
      | refine h_val (v_moveT rfl) rfl ?_
    refine h_evN (e_callR (polyTag_ev key t n n hk ht (by omega)) ok_8 rfl rfl rfl VAL_) APP_ rfl ?_
    refine h_val (v_loadR rfl rfl row_22 sz_22 EQ_ (by decide)) rfl ?_
    first
      | refine h_val (v_moveC rfl) rfl ?_
      | refine h_val (v_moveA rfl) rfl ?_
      | refine h_val (v_moveT rfl) rfl ?_
    refine h_evN (e_callR (refTag_ev key t n cap hk ht (by omega)) ok_9 rfl rfl rfl VAL_) APP_ rfl ?_
    refine h_memN (m_alloc al_25 LEN_) APP_ rfl ?_
    refine h_memN (m_alloc al_25 LEN_) APP_ rfl ?_
    refine h_nil ?_
    refine s_storeR rfl rfl rfl rfl sz_25 EQ_ EQ_ SET_ ?_
    refine s_storeR rfl rfl rfl rfl sz_25 EQ_ EQ_ SET_ ?_
    refine s_nil ?_
    rw [hlaw] at *
    refine S_ ?_
    refine c_draw 12 mixed (by kernel_rfl) rfl rfl rfl ?_
    first
      | refine h_val (v_slA1 (l := 0) (h := 16) (len := 16) (cp := 16) rfl Try.underlying25 sz_5 rfl rfl rfl (by omega) (by omega) FIT_ rfl rfl) rfl ?_
      | refine h_val (v_slA (l := 0) (h := 16) rfl Try.underlying25 sz_5 rfl rfl rfl (by omega) (by omega) FIT_) rfl ?_
    first
      | refine h_val (v_slA1 (l := 0) (h := 16) (len := 16) (cp := 16) rfl Try.underlying25 sz_5 rfl rfl rfl (by omega) (by omega) FIT_ rfl rfl) rfl ?_
      | refine h_val (v_slA (l := 0) (h := 16) rfl Try.underlying25 sz_5 rfl rfl rfl (by omega) (by omega) FIT_) rfl ?_
    refine h_evN (e_callR (bytes_ev _ _ 0 0 16 16 16 (by omega) (by omega) (by omega) (fun _ _ => rfl)) ok_10 rfl rfl rfl VAL_) APP_ rfl ?_
    first
      | refine h_val (v_moveC rfl) rfl ?_
      | refine h_val (v_moveA rfl) rfl ?_
      | refine h_val (v_moveT rfl) rfl ?_
    refine h_go rfl ?_
    first
      | refine h_val (v_moveC rfl) rfl ?_
      | refine h_val (v_moveA rfl) rfl ?_
      | refine h_val (v_moveT rfl) rfl ?_
    refine h_go rfl ?_
    first
      | refine h_val (v_moveC rfl) rfl ?_
      | refine h_val (v_moveA rfl) rfl ?_
      | refine h_val (v_moveT rfl) rfl ?_
    refine h_go rfl ?_
    refine h_evN (e_callR (bytes_ev t t 0 0 n n cap (by omega) (by omega) (by omega) (fun _ _ => rfl)) ok_10 rfl rfl rfl VAL_) APP_ rfl ?_
    first
      | refine h_val (v_pickT rfl PK_ rfl) rfl ?_
      | refine h_val (v_pickF rfl PK_ rfl) rfl ?_
      | refine h_val (v_pickOr rfl rfl rfl) rfl ?_
      | refine h_val (v_pickAnd rfl rfl rfl) rfl ?_
    first
      | refine h_val (v_moveC rfl) rfl ?_
      | refine h_val (v_moveA rfl) rfl ?_
      | refine h_val (v_moveT rfl) rfl ?_
    refine h_go rfl ?_
    refine h_evN (e_callR (wakes_ev) ok_11 rfl rfl rfl VAL_) APP_ rfl ?_
    first
      | refine h_val (v_pickT rfl PK_ rfl) rfl ?_
      | refine h_val (v_pickF rfl PK_ rfl) rfl ?_
      | refine h_val (v_pickOr rfl rfl rfl) rfl ?_
      | refine h_val (v_pickAnd rfl rfl rfl) rfl ?_
    first
      | refine h_val (v_assignC rfl) rfl ?_
      | refine h_val (v_assignA rfl) rfl ?_
      | refine h_val (v_assignT rfl) rfl ?_
    refine h_nil ?_
    refine s_nil ?_
    refine S_ ?_
    exact k_1 (by first | exact r_tmpC rfl | exact r_tmpA rfl) (by first | kernel_rfl | rfl)
end Go.Proofs.Ytlphiohgehkjlaa
