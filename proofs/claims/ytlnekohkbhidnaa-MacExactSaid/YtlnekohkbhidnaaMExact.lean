/- trystlaw02.MacExact, trystlaw02.MacExact, trystlaw02.MacExact, trystlaw02.MacExact (Drawn up by a program.) -/
import Derived.Test.YtlnekohkbhidnaaMWakes
import Derived.Test.YtlnekohkbhidnaaPKeep
namespace Go.Proofs.Ytlnekohkbhidnaa
open Go.RowKit

set_option maxRecDepth 100000 in
set_option maxHeartbeats 2000000 in
theorem macExactJ_ev (key : List (BitVec 8)) (cap : Nat) (t : List (BitVec 8)) (cap2 : Nat) (z : Int) (hz : z < 0) : Ev Try.prog (.call 6 [.c (.sl 0 0 key.length cap 1), .c (.sl 1 0 t.length cap2 1), .c (.val (.int .i64 z))] [.row false (.a8 (key)), .row false (.a8 (t))]) (.val (.c (.val (.bool (true)))) [.row false (.a8 (key)), .row false (.a8 (t))]) := by
  refine c_call Try.func6 rfl Try.ntmps6 rfl LEN_ ?_
  refine S_ ?_
  refine c_region ?_
  refine s_val (v_assignC rfl) rfl ?_
  refine s_nil ?_
  by_cases hc1 : 1000 < key.length
  · -- it is so
    refine S_ ?_
    refine c_region ?_
    refine s_val (v_moveC rfl) rfl ?_
    refine s_val (v_lenS rfl Try.underlying22) rfl ?_
    refine s_val (v_gtrN (b := 1000) rfl rfl) rfl ?_
    refine s_val (v_moveC rfl) rfl ?_
    refine s_no GO_ rfl ?_
    refine s_no GO_ rfl ?_
    refine s_no GO_ rfl ?_
    refine s_val (v_pickT rfl PK_ rfl) rfl ?_
    refine s_nil ?_
    refine S_ ?_
    refine c_region ?_
    refine s_val (v_assignC rfl) rfl ?_
    refine s_nil ?_
    refine S_ ?_
    exact k_1 (by first | exact r_tmpC rfl | exact r_tmpA rfl) (by first | kernel_rfl | rfl)
  · -- it is not so
    refine S_ ?_
    refine c_region ?_
    refine s_val (v_moveC rfl) rfl ?_
    refine s_val (v_lenS rfl Try.underlying22) rfl ?_
    refine s_val (v_gtrN (b := 1000) rfl rfl) rfl ?_
    refine s_val (v_moveC rfl) rfl ?_
    refine s_go GO_ ?_
    refine s_val (v_moveC rfl) rfl ?_
    refine s_go GO_ ?_
    refine s_val (v_lenS rfl Try.underlying22) rfl ?_
    refine s_go GO_ ?_
    refine s_val (v_gtrN (b := 1000) rfl rfl) rfl ?_
    refine s_val (v_pickF rfl PK_ rfl) rfl ?_
    refine s_nil ?_
    refine Q_ ?_
    by_cases hc2 : 1000 < t.length
    · try simp only [if_pos hc2] at *
      refine c_condT rfl (decide_eq_true hc2) ?_
      refine S_ ?_
      refine c_region ?_
      refine s_val (v_assignC rfl) rfl ?_
      refine s_nil ?_
      refine S_ ?_
      exact k_1 (by first | exact r_tmpC rfl | exact r_tmpA rfl) (by first | kernel_rfl | rfl)
    · try simp only [if_neg hc2] at *
      refine c_condF rfl (decide_eq_false hc2) ?_
      refine S_ ?_
      refine c_region ?_
      refine s_val (v_moveC rfl) rfl ?_
      refine s_evN (e_callR (bs := [0]) (twin_ev key key.length cap HYP_ HYP_) ok_13 (by kernel_rfl) (by kernel_rfl) rfl VAL_) APP_ rfl ?_
      refine s_val (v_moveC rfl) rfl ?_
      refine s_evN (e_callR (bs := [1]) (twin_ev t t.length cap2 HYP_ HYP_) ok_13 (by kernel_rfl) (by kernel_rfl) rfl VAL_) APP_ rfl ?_
      refine s_val (v_assignC rfl) rfl ?_
      refine s_val (v_assignC rfl) rfl ?_
      refine s_nil ?_
      refine S_ ?_
      refine c_region ?_
      refine s_val (v_moveC rfl) rfl ?_
      refine s_val (v_moveC rfl) rfl ?_
      refine s_evN (e_callR (bs := [2,3]) (macSum_ev key key.length key.length t t.length t.length HYP_ HYP_ HYP_ HYP_) ok_8 (by kernel_rfl) (by kernel_rfl) rfl VAL_) APP_ rfl ?_
      refine s_val (v_moveC rfl) rfl ?_
      refine s_val (v_moveC rfl) rfl ?_
      refine s_evN (e_callR (bs := [0,1]) (rfMac_evA key key.length cap t t.length cap2 HYP_ HYP_ HYP_ HYP_) ok_14 (by kernel_rfl) (by kernel_rfl) rfl VAL_) APP_ rfl ?_
      refine s_memN (m_alloc al_23 LEN_) APP_ rfl ?_
      refine s_memN (m_alloc al_23 LEN_) APP_ rfl ?_
      refine s_storeR rfl rfl rfl rfl sz_23 EQ_ EQ_ SET_ ?_
      refine s_storeR rfl rfl rfl rfl sz_23 EQ_ EQ_ SET_ ?_
      refine s_nil ?_
      have hQ3 : (macSum key t).length = 32 := LQ_
      refine S_ ?_
      refine c_region ?_
      refine s_val (v_moveC rfl) rfl ?_
      refine s_val (v_moveC rfl) rfl ?_
      refine s_evN (e_callR (bs := [2,3]) (macExt_ev key key.length key.length t t.length t.length HYP_ HYP_ HYP_ HYP_) ok_15 (by kernel_rfl) (by kernel_rfl) rfl VAL_) APP_ rfl ?_
      refine s_memN (m_alloc al_23 LEN_) APP_ rfl ?_
      refine s_storeR rfl rfl rfl rfl sz_23 EQ_ EQ_ SET_ ?_
      refine s_nil ?_
      have hQ4 : (macSum key t).length = 32 := LQ_
      refine S_ ?_
      refine c_draw 10 mixed (by kernel_rfl) rfl rfl rfl ?_
      refine h_val (v_slA1 (l := 0) (h := 32) (len := 32) (cp := 32) rfl Try.underlying23 sz_5 rfl rfl rfl (by omega) (by omega) FIT_ rfl rfl) rfl ?_
      refine h_val (v_slA1 (l := 0) (h := 32) (len := 32) (cp := 32) rfl Try.underlying23 sz_5 rfl rfl rfl (by omega) (by omega) FIT_ rfl rfl) rfl ?_
      refine h_evN (e_callR (bs := [4,5]) (bytes_ev (macSum key t) (macSum key t) 0 0 32 32 32 HYP_ HYP_ HYP_ (fun _ _ => rfl)) ok_10 (by kernel_rfl) (by kernel_rfl) rfl VAL_) APP_ rfl ?_
      refine h_val (v_unnotB rfl) rfl ?_
      refine h_val (v_moveC rfl) rfl ?_
      refine h_go GO_ ?_
      refine h_val (v_slA1 (l := 0) (h := 32) (len := 32) (cp := 32) rfl Try.underlying23 sz_5 rfl rfl rfl (by omega) (by omega) FIT_ rfl rfl) rfl ?_
      refine h_go GO_ ?_
      refine h_val (v_slA1 (l := 0) (h := 32) (len := 32) (cp := 32) rfl Try.underlying23 sz_5 rfl rfl rfl (by omega) (by omega) FIT_ rfl rfl) rfl ?_
      refine h_go GO_ ?_
      refine h_evN (e_callR (bs := [6,5]) (bytes_ev (macSum key t) (macSum key t) 0 0 32 32 32 HYP_ HYP_ HYP_ (fun _ _ => rfl)) ok_10 (by kernel_rfl) (by kernel_rfl) rfl VAL_) APP_ rfl ?_
      refine h_go GO_ ?_
      refine h_val (v_unnotB rfl) rfl ?_
      refine h_val (v_pickF rfl PK_ rfl) rfl ?_
      refine h_nil ?_
      refine s_nil ?_
      refine S_ ?_
      refine c_region ?_
      refine s_val (v_moveC rfl) rfl ?_
      refine s_val (v_moveC rfl) rfl ?_
      refine s_val (v_moveC rfl) rfl ?_
      refine s_evN (e_callR (bs := [2,3]) (macExpJ_ev key key.length key.length t t.length t.length z HYP_ HYP_ HYP_ HYP_ HYP_) ok_12 (by kernel_rfl) (by kernel_rfl) rfl VAL_) APP_ rfl ?_
      refine s_val (v_moveT rfl) rfl ?_
      refine s_val (v_extract rfl rfl) rfl ?_
      refine s_val (v_extract rfl rfl) rfl ?_
      refine s_val (v_assignC rfl) rfl ?_
      refine s_val (v_assignC rfl) rfl ?_
      refine s_nil ?_
      refine S_ ?_
      refine c_region ?_
      refine s_val (v_moveC rfl) rfl ?_
      refine s_val (v_moveC rfl) rfl ?_
      refine s_evN (e_callR (bs := [2,0]) (bytes_ev key key 0 0 key.length key.length cap HYP_ HYP_ HYP_ (fun _ _ => rfl)) ok_10 (by kernel_rfl) (by kernel_rfl) rfl VAL_) APP_ rfl ?_
      refine s_val (v_unnotB rfl) rfl ?_
      refine s_val (v_moveC rfl) rfl ?_
      refine s_go GO_ ?_
      refine s_val (v_moveC rfl) rfl ?_
      refine s_go GO_ ?_
      refine s_val (v_moveC rfl) rfl ?_
      refine s_go GO_ ?_
      refine s_evN (e_callR (bs := [3,1]) (bytes_ev t t 0 0 t.length t.length cap2 HYP_ HYP_ HYP_ (fun _ _ => rfl)) ok_10 (by kernel_rfl) (by kernel_rfl) rfl VAL_) APP_ rfl ?_
      refine s_go GO_ ?_
      refine s_val (v_unnotB rfl) rfl ?_
      refine s_val (v_pickF rfl PK_ rfl) rfl ?_
      refine s_nil ?_
      refine S_ ?_
      refine c_region ?_
      refine s_val (v_moveC rfl) rfl ?_
      refine s_val (v_lssI rfl rfl) rfl ?_
      refine s_val (v_moveC rfl) rfl ?_
      refine s_no GO_ rfl ?_
      refine s_no GO_ rfl ?_
      refine s_val (v_pickT rfl PK_ rfl) rfl ?_
      refine s_nil ?_
      refine S_ ?_
      refine c_region ?_
      refine s_val (v_moveC rfl) rfl ?_
      refine s_val (v_eqlN (a := 2) (b := 2) rfl rfl) rfl ?_
      refine s_val (v_moveC rfl) rfl ?_
      refine s_go GO_ ?_
      refine s_val (v_moveC rfl) rfl ?_
      refine s_go GO_ ?_
      refine s_val (v_lenN rfl Try.underlying22) rfl ?_
      refine s_go GO_ ?_
      refine s_val (v_eqlN (a := 0) (b := 0) rfl rfl) rfl ?_
      refine s_val (v_pickT rfl PK_ rfl) rfl ?_
      refine s_val (v_moveC rfl) rfl ?_
      refine s_go GO_ ?_
      refine s_evN (e_callR (bs := []) (wakes_ev) ok_11 (by kernel_rfl) (by kernel_rfl) rfl VAL_) APP_ rfl ?_
      refine s_val (v_pickT rfl PK_ rfl) rfl ?_
      refine s_val (v_assignC rfl) rfl ?_
      refine s_nil ?_
      refine S_ ?_
      exact k_1 (by first | exact r_tmpC rfl | exact r_tmpA rfl) (by first | kernel_rfl | rfl)


set_option maxRecDepth 100000 in
set_option maxHeartbeats 2000000 in
theorem macExactG_ev (key : List (BitVec 8)) (cap : Nat) (t : List (BitVec 8)) (cap2 : Nat) (n : Nat) (hn : n ≤ 9223372036854775807) (hbig : 8160 < n) : Ev Try.prog (.call 6 [.c (.sl 0 0 key.length cap 1), .c (.sl 1 0 t.length cap2 1), .c (.val (.int .i64 ((n : Nat) : Int)))] [.row false (.a8 (key)), .row false (.a8 (t))]) (.val (.c (.val (.bool (true)))) [.row false (.a8 (key)), .row false (.a8 (t))]) := by
  refine c_call Try.func6 rfl Try.ntmps6 rfl LEN_ ?_
  refine S_ ?_
  refine c_region ?_
  refine s_val (v_assignC rfl) rfl ?_
  refine s_nil ?_
  by_cases hc1 : 1000 < key.length
  · -- it is so
    refine S_ ?_
    refine c_region ?_
    refine s_val (v_moveC rfl) rfl ?_
    refine s_val (v_lenS rfl Try.underlying22) rfl ?_
    refine s_val (v_gtrN (b := 1000) rfl rfl) rfl ?_
    refine s_val (v_moveC rfl) rfl ?_
    refine s_no GO_ rfl ?_
    refine s_no GO_ rfl ?_
    refine s_no GO_ rfl ?_
    refine s_val (v_pickT rfl PK_ rfl) rfl ?_
    refine s_nil ?_
    refine S_ ?_
    refine c_region ?_
    refine s_val (v_assignC rfl) rfl ?_
    refine s_nil ?_
    refine S_ ?_
    exact k_1 (by first | exact r_tmpC rfl | exact r_tmpA rfl) (by first | kernel_rfl | rfl)
  · -- it is not so
    refine S_ ?_
    refine c_region ?_
    refine s_val (v_moveC rfl) rfl ?_
    refine s_val (v_lenS rfl Try.underlying22) rfl ?_
    refine s_val (v_gtrN (b := 1000) rfl rfl) rfl ?_
    refine s_val (v_moveC rfl) rfl ?_
    refine s_go GO_ ?_
    refine s_val (v_moveC rfl) rfl ?_
    refine s_go GO_ ?_
    refine s_val (v_lenS rfl Try.underlying22) rfl ?_
    refine s_go GO_ ?_
    refine s_val (v_gtrN (b := 1000) rfl rfl) rfl ?_
    refine s_val (v_pickF rfl PK_ rfl) rfl ?_
    refine s_nil ?_
    refine Q_ ?_
    by_cases hc2 : 1000 < t.length
    · try simp only [if_pos hc2] at *
      refine c_condT rfl (decide_eq_true hc2) ?_
      refine S_ ?_
      refine c_region ?_
      refine s_val (v_assignC rfl) rfl ?_
      refine s_nil ?_
      refine S_ ?_
      exact k_1 (by first | exact r_tmpC rfl | exact r_tmpA rfl) (by first | kernel_rfl | rfl)
    · try simp only [if_neg hc2] at *
      refine c_condF rfl (decide_eq_false hc2) ?_
      refine S_ ?_
      refine c_region ?_
      refine s_val (v_moveC rfl) rfl ?_
      refine s_evN (e_callR (bs := [0]) (twin_ev key key.length cap HYP_ HYP_) ok_13 (by kernel_rfl) (by kernel_rfl) rfl VAL_) APP_ rfl ?_
      refine s_val (v_moveC rfl) rfl ?_
      refine s_evN (e_callR (bs := [1]) (twin_ev t t.length cap2 HYP_ HYP_) ok_13 (by kernel_rfl) (by kernel_rfl) rfl VAL_) APP_ rfl ?_
      refine s_val (v_assignC rfl) rfl ?_
      refine s_val (v_assignC rfl) rfl ?_
      refine s_nil ?_
      refine S_ ?_
      refine c_region ?_
      refine s_val (v_moveC rfl) rfl ?_
      refine s_val (v_moveC rfl) rfl ?_
      refine s_evN (e_callR (bs := [2,3]) (macSum_ev key key.length key.length t t.length t.length HYP_ HYP_ HYP_ HYP_) ok_8 (by kernel_rfl) (by kernel_rfl) rfl VAL_) APP_ rfl ?_
      refine s_val (v_moveC rfl) rfl ?_
      refine s_val (v_moveC rfl) rfl ?_
      refine s_evN (e_callR (bs := [0,1]) (rfMac_evA key key.length cap t t.length cap2 HYP_ HYP_ HYP_ HYP_) ok_14 (by kernel_rfl) (by kernel_rfl) rfl VAL_) APP_ rfl ?_
      refine s_memN (m_alloc al_23 LEN_) APP_ rfl ?_
      refine s_memN (m_alloc al_23 LEN_) APP_ rfl ?_
      refine s_storeR rfl rfl rfl rfl sz_23 EQ_ EQ_ SET_ ?_
      refine s_storeR rfl rfl rfl rfl sz_23 EQ_ EQ_ SET_ ?_
      refine s_nil ?_
      have hQ3 : (macSum key t).length = 32 := LQ_
      refine S_ ?_
      refine c_region ?_
      refine s_val (v_moveC rfl) rfl ?_
      refine s_val (v_moveC rfl) rfl ?_
      refine s_evN (e_callR (bs := [2,3]) (macExt_ev key key.length key.length t t.length t.length HYP_ HYP_ HYP_ HYP_) ok_15 (by kernel_rfl) (by kernel_rfl) rfl VAL_) APP_ rfl ?_
      refine s_memN (m_alloc al_23 LEN_) APP_ rfl ?_
      refine s_storeR rfl rfl rfl rfl sz_23 EQ_ EQ_ SET_ ?_
      refine s_nil ?_
      have hQ4 : (macSum key t).length = 32 := LQ_
      refine S_ ?_
      refine c_draw 10 mixed (by kernel_rfl) rfl rfl rfl ?_
      refine h_val (v_slA1 (l := 0) (h := 32) (len := 32) (cp := 32) rfl Try.underlying23 sz_5 rfl rfl rfl (by omega) (by omega) FIT_ rfl rfl) rfl ?_
      refine h_val (v_slA1 (l := 0) (h := 32) (len := 32) (cp := 32) rfl Try.underlying23 sz_5 rfl rfl rfl (by omega) (by omega) FIT_ rfl rfl) rfl ?_
      refine h_evN (e_callR (bs := [4,5]) (bytes_ev (macSum key t) (macSum key t) 0 0 32 32 32 HYP_ HYP_ HYP_ (fun _ _ => rfl)) ok_10 (by kernel_rfl) (by kernel_rfl) rfl VAL_) APP_ rfl ?_
      refine h_val (v_unnotB rfl) rfl ?_
      refine h_val (v_moveC rfl) rfl ?_
      refine h_go GO_ ?_
      refine h_val (v_slA1 (l := 0) (h := 32) (len := 32) (cp := 32) rfl Try.underlying23 sz_5 rfl rfl rfl (by omega) (by omega) FIT_ rfl rfl) rfl ?_
      refine h_go GO_ ?_
      refine h_val (v_slA1 (l := 0) (h := 32) (len := 32) (cp := 32) rfl Try.underlying23 sz_5 rfl rfl rfl (by omega) (by omega) FIT_ rfl rfl) rfl ?_
      refine h_go GO_ ?_
      refine h_evN (e_callR (bs := [6,5]) (bytes_ev (macSum key t) (macSum key t) 0 0 32 32 32 HYP_ HYP_ HYP_ (fun _ _ => rfl)) ok_10 (by kernel_rfl) (by kernel_rfl) rfl VAL_) APP_ rfl ?_
      refine h_go GO_ ?_
      refine h_val (v_unnotB rfl) rfl ?_
      refine h_val (v_pickF rfl PK_ rfl) rfl ?_
      refine h_nil ?_
      refine s_nil ?_
      refine S_ ?_
      refine c_region ?_
      refine s_val (v_moveC rfl) rfl ?_
      refine s_val (v_moveC rfl) rfl ?_
      refine s_val (v_moveC rfl) rfl ?_
      refine s_evN (e_callR (bs := [2,3]) (macExpG_ev key key.length key.length t t.length t.length n HYP_ HYP_ HYP_ HYP_ HYP_ HYP_) ok_12 (by kernel_rfl) (by kernel_rfl) rfl VAL_) APP_ rfl ?_
      refine s_val (v_moveT rfl) rfl ?_
      refine s_val (v_extract rfl rfl) rfl ?_
      refine s_val (v_extract rfl rfl) rfl ?_
      refine s_val (v_assignC rfl) rfl ?_
      refine s_val (v_assignC rfl) rfl ?_
      refine s_nil ?_
      refine S_ ?_
      refine c_region ?_
      refine s_val (v_moveC rfl) rfl ?_
      refine s_val (v_moveC rfl) rfl ?_
      refine s_evN (e_callR (bs := [2,0]) (bytes_ev key key 0 0 key.length key.length cap HYP_ HYP_ HYP_ (fun _ _ => rfl)) ok_10 (by kernel_rfl) (by kernel_rfl) rfl VAL_) APP_ rfl ?_
      refine s_val (v_unnotB rfl) rfl ?_
      refine s_val (v_moveC rfl) rfl ?_
      refine s_go GO_ ?_
      refine s_val (v_moveC rfl) rfl ?_
      refine s_go GO_ ?_
      refine s_val (v_moveC rfl) rfl ?_
      refine s_go GO_ ?_
      refine s_evN (e_callR (bs := [3,1]) (bytes_ev t t 0 0 t.length t.length cap2 HYP_ HYP_ HYP_ (fun _ _ => rfl)) ok_10 (by kernel_rfl) (by kernel_rfl) rfl VAL_) APP_ rfl ?_
      refine s_go GO_ ?_
      refine s_val (v_unnotB rfl) rfl ?_
      refine s_val (v_pickF rfl PK_ rfl) rfl ?_
      refine s_nil ?_
      refine S_ ?_
      refine c_region ?_
      refine s_val (v_moveC rfl) rfl ?_
      refine s_val (v_lssN (b := 0) rfl rfl) rfl ?_
      refine s_val (v_moveC rfl) rfl ?_
      refine s_go GO_ ?_
      refine s_val (v_moveC rfl) rfl ?_
      refine s_go GO_ ?_
      refine s_val (v_gtrN (b := 8160) rfl rfl) rfl ?_
      refine s_val (v_pickF rfl PK_ rfl) rfl ?_
      refine s_nil ?_
      refine S_ ?_
      refine c_region ?_
      refine s_val (v_moveC rfl) rfl ?_
      refine s_val (v_eqlN (a := 2) (b := 2) rfl rfl) rfl ?_
      refine s_val (v_moveC rfl) rfl ?_
      refine s_go GO_ ?_
      refine s_val (v_moveC rfl) rfl ?_
      refine s_go GO_ ?_
      refine s_val (v_lenN rfl Try.underlying22) rfl ?_
      refine s_go GO_ ?_
      refine s_val (v_eqlN (a := 0) (b := 0) rfl rfl) rfl ?_
      refine s_val (v_pickT rfl PK_ rfl) rfl ?_
      refine s_val (v_moveC rfl) rfl ?_
      refine s_go GO_ ?_
      refine s_evN (e_callR (bs := []) (wakes_ev) ok_11 (by kernel_rfl) (by kernel_rfl) rfl VAL_) APP_ rfl ?_
      refine s_val (v_pickT rfl PK_ rfl) rfl ?_
      refine s_val (v_assignC rfl) rfl ?_
      refine s_nil ?_
      refine S_ ?_
      exact k_1 (by first | exact r_tmpC rfl | exact r_tmpA rfl) (by first | kernel_rfl | rfl)


set_option maxRecDepth 100000 in
set_option maxHeartbeats 2000000 in
theorem macExactM_ev (key : List (BitVec 8)) (cap : Nat) (t : List (BitVec 8)) (cap2 : Nat) (n : Nat) (hn : n ≤ 9223372036854775807) (hmid : 2000 < n) (hok : n ≤ 8160) : Ev Try.prog (.call 6 [.c (.sl 0 0 key.length cap 1), .c (.sl 1 0 t.length cap2 1), .c (.val (.int .i64 ((n : Nat) : Int)))] [.row false (.a8 (key)), .row false (.a8 (t))]) (.val (.c (.val (.bool (true)))) [.row false (.a8 (key)), .row false (.a8 (t))]) := by
  refine c_call Try.func6 rfl Try.ntmps6 rfl LEN_ ?_
  refine S_ ?_
  refine c_region ?_
  refine s_val (v_assignC rfl) rfl ?_
  refine s_nil ?_
  by_cases hc1 : 1000 < key.length
  · -- it is so
    refine S_ ?_
    refine c_region ?_
    refine s_val (v_moveC rfl) rfl ?_
    refine s_val (v_lenS rfl Try.underlying22) rfl ?_
    refine s_val (v_gtrN (b := 1000) rfl rfl) rfl ?_
    refine s_val (v_moveC rfl) rfl ?_
    refine s_no GO_ rfl ?_
    refine s_no GO_ rfl ?_
    refine s_no GO_ rfl ?_
    refine s_val (v_pickT rfl PK_ rfl) rfl ?_
    refine s_nil ?_
    refine S_ ?_
    refine c_region ?_
    refine s_val (v_assignC rfl) rfl ?_
    refine s_nil ?_
    refine S_ ?_
    exact k_1 (by first | exact r_tmpC rfl | exact r_tmpA rfl) (by first | kernel_rfl | rfl)
  · -- it is not so
    refine S_ ?_
    refine c_region ?_
    refine s_val (v_moveC rfl) rfl ?_
    refine s_val (v_lenS rfl Try.underlying22) rfl ?_
    refine s_val (v_gtrN (b := 1000) rfl rfl) rfl ?_
    refine s_val (v_moveC rfl) rfl ?_
    refine s_go GO_ ?_
    refine s_val (v_moveC rfl) rfl ?_
    refine s_go GO_ ?_
    refine s_val (v_lenS rfl Try.underlying22) rfl ?_
    refine s_go GO_ ?_
    refine s_val (v_gtrN (b := 1000) rfl rfl) rfl ?_
    refine s_val (v_pickF rfl PK_ rfl) rfl ?_
    refine s_nil ?_
    refine Q_ ?_
    by_cases hc2 : 1000 < t.length
    · try simp only [if_pos hc2] at *
      refine c_condT rfl (decide_eq_true hc2) ?_
      refine S_ ?_
      refine c_region ?_
      refine s_val (v_assignC rfl) rfl ?_
      refine s_nil ?_
      refine S_ ?_
      exact k_1 (by first | exact r_tmpC rfl | exact r_tmpA rfl) (by first | kernel_rfl | rfl)
    · try simp only [if_neg hc2] at *
      refine c_condF rfl (decide_eq_false hc2) ?_
      refine S_ ?_
      refine c_region ?_
      refine s_val (v_moveC rfl) rfl ?_
      refine s_evN (e_callR (bs := [0]) (twin_ev key key.length cap HYP_ HYP_) ok_13 (by kernel_rfl) (by kernel_rfl) rfl VAL_) APP_ rfl ?_
      refine s_val (v_moveC rfl) rfl ?_
      refine s_evN (e_callR (bs := [1]) (twin_ev t t.length cap2 HYP_ HYP_) ok_13 (by kernel_rfl) (by kernel_rfl) rfl VAL_) APP_ rfl ?_
      refine s_val (v_assignC rfl) rfl ?_
      refine s_val (v_assignC rfl) rfl ?_
      refine s_nil ?_
      refine S_ ?_
      refine c_region ?_
      refine s_val (v_moveC rfl) rfl ?_
      refine s_val (v_moveC rfl) rfl ?_
      refine s_evN (e_callR (bs := [2,3]) (macSum_ev key key.length key.length t t.length t.length HYP_ HYP_ HYP_ HYP_) ok_8 (by kernel_rfl) (by kernel_rfl) rfl VAL_) APP_ rfl ?_
      refine s_val (v_moveC rfl) rfl ?_
      refine s_val (v_moveC rfl) rfl ?_
      refine s_evN (e_callR (bs := [0,1]) (rfMac_evA key key.length cap t t.length cap2 HYP_ HYP_ HYP_ HYP_) ok_14 (by kernel_rfl) (by kernel_rfl) rfl VAL_) APP_ rfl ?_
      refine s_memN (m_alloc al_23 LEN_) APP_ rfl ?_
      refine s_memN (m_alloc al_23 LEN_) APP_ rfl ?_
      refine s_storeR rfl rfl rfl rfl sz_23 EQ_ EQ_ SET_ ?_
      refine s_storeR rfl rfl rfl rfl sz_23 EQ_ EQ_ SET_ ?_
      refine s_nil ?_
      have hQ3 : (macSum key t).length = 32 := LQ_
      refine S_ ?_
      refine c_region ?_
      refine s_val (v_moveC rfl) rfl ?_
      refine s_val (v_moveC rfl) rfl ?_
      refine s_evN (e_callR (bs := [2,3]) (macExt_ev key key.length key.length t t.length t.length HYP_ HYP_ HYP_ HYP_) ok_15 (by kernel_rfl) (by kernel_rfl) rfl VAL_) APP_ rfl ?_
      refine s_memN (m_alloc al_23 LEN_) APP_ rfl ?_
      refine s_storeR rfl rfl rfl rfl sz_23 EQ_ EQ_ SET_ ?_
      refine s_nil ?_
      have hQ4 : (macSum key t).length = 32 := LQ_
      refine S_ ?_
      refine c_draw 10 mixed (by kernel_rfl) rfl rfl rfl ?_
      refine h_val (v_slA1 (l := 0) (h := 32) (len := 32) (cp := 32) rfl Try.underlying23 sz_5 rfl rfl rfl (by omega) (by omega) FIT_ rfl rfl) rfl ?_
      refine h_val (v_slA1 (l := 0) (h := 32) (len := 32) (cp := 32) rfl Try.underlying23 sz_5 rfl rfl rfl (by omega) (by omega) FIT_ rfl rfl) rfl ?_
      refine h_evN (e_callR (bs := [4,5]) (bytes_ev (macSum key t) (macSum key t) 0 0 32 32 32 HYP_ HYP_ HYP_ (fun _ _ => rfl)) ok_10 (by kernel_rfl) (by kernel_rfl) rfl VAL_) APP_ rfl ?_
      refine h_val (v_unnotB rfl) rfl ?_
      refine h_val (v_moveC rfl) rfl ?_
      refine h_go GO_ ?_
      refine h_val (v_slA1 (l := 0) (h := 32) (len := 32) (cp := 32) rfl Try.underlying23 sz_5 rfl rfl rfl (by omega) (by omega) FIT_ rfl rfl) rfl ?_
      refine h_go GO_ ?_
      refine h_val (v_slA1 (l := 0) (h := 32) (len := 32) (cp := 32) rfl Try.underlying23 sz_5 rfl rfl rfl (by omega) (by omega) FIT_ rfl rfl) rfl ?_
      refine h_go GO_ ?_
      refine h_evN (e_callR (bs := [6,5]) (bytes_ev (macSum key t) (macSum key t) 0 0 32 32 32 HYP_ HYP_ HYP_ (fun _ _ => rfl)) ok_10 (by kernel_rfl) (by kernel_rfl) rfl VAL_) APP_ rfl ?_
      refine h_go GO_ ?_
      refine h_val (v_unnotB rfl) rfl ?_
      refine h_val (v_pickF rfl PK_ rfl) rfl ?_
      refine h_nil ?_
      refine s_nil ?_
      refine S_ ?_
      refine c_region ?_
      refine s_val (v_moveC rfl) rfl ?_
      refine s_val (v_moveC rfl) rfl ?_
      refine s_val (v_moveC rfl) rfl ?_
      refine s_evN (e_callR (bs := [2,3]) (macExp_ev key key.length key.length t t.length t.length n HYP_ HYP_ HYP_ HYP_ HYP_ HYP_) ok_12 (by kernel_rfl) (by kernel_rfl) rfl VAL_) APP_ rfl ?_
      refine s_val (v_moveT rfl) rfl ?_
      refine s_val (v_extract rfl rfl) rfl ?_
      refine s_val (v_extract rfl rfl) rfl ?_
      refine s_val (v_assignC rfl) rfl ?_
      refine s_val (v_assignC rfl) rfl ?_
      refine s_nil ?_
      have hQ5 : (macExp0 key t n).length = n := LQ_
      refine S_ ?_
      refine c_region ?_
      refine s_val (v_moveC rfl) rfl ?_
      refine s_val (v_moveC rfl) rfl ?_
      refine s_evN (e_callR (bs := [2,0]) (bytes_ev key key 0 0 key.length key.length cap HYP_ HYP_ HYP_ (fun _ _ => rfl)) ok_10 (by kernel_rfl) (by kernel_rfl) rfl VAL_) APP_ rfl ?_
      refine s_val (v_unnotB rfl) rfl ?_
      refine s_val (v_moveC rfl) rfl ?_
      refine s_go GO_ ?_
      refine s_val (v_moveC rfl) rfl ?_
      refine s_go GO_ ?_
      refine s_val (v_moveC rfl) rfl ?_
      refine s_go GO_ ?_
      refine s_evN (e_callR (bs := [3,1]) (bytes_ev t t 0 0 t.length t.length cap2 HYP_ HYP_ HYP_ (fun _ _ => rfl)) ok_10 (by kernel_rfl) (by kernel_rfl) rfl VAL_) APP_ rfl ?_
      refine s_go GO_ ?_
      refine s_val (v_unnotB rfl) rfl ?_
      refine s_val (v_pickF rfl PK_ rfl) rfl ?_
      refine s_nil ?_
      refine S_ ?_
      refine c_region ?_
      refine s_val (v_moveC rfl) rfl ?_
      refine s_val (v_lssN (b := 0) rfl rfl) rfl ?_
      refine s_val (v_moveC rfl) rfl ?_
      refine s_go GO_ ?_
      refine s_val (v_moveC rfl) rfl ?_
      refine s_go GO_ ?_
      refine s_val (v_gtrN (b := 8160) rfl rfl) rfl ?_
      refine s_val (v_pickF rfl PK_ rfl) rfl ?_
      refine s_nil ?_
      refine S_ ?_
      refine c_region ?_
      refine s_val (v_moveC rfl) rfl ?_
      refine s_val (v_eqlN (a := 0) (b := 0) rfl rfl) rfl ?_
      refine s_val (v_moveC rfl) rfl ?_
      refine s_go GO_ ?_
      refine s_val (v_moveC rfl) rfl ?_
      refine s_go GO_ ?_
      refine s_val (v_moveC rfl) rfl ?_
      refine s_go GO_ ?_
      refine s_val (v_moveC rfl) rfl ?_
      refine s_go GO_ ?_
      refine s_val (v_moveC rfl) rfl ?_
      refine s_go GO_ ?_
      refine s_val (v_minR (b := 2000) rfl rfl (by omega)) rfl ?_
      refine s_go GO_ ?_
      refine s_evN (e_callR (bs := [0,1]) (rfExp_evA key key.length cap t t.length cap2 2000 HYP_ HYP_ HYP_ HYP_ HYP_ HYP_) ok_16 (by kernel_rfl) (by kernel_rfl) rfl VAL_) APP_ rfl ?_
      refine s_go GO_ ?_
      refine s_evN (e_callR (bs := [7,8]) (bytesL_ev (macExp0 key t n) (expAll key t ((2000 + 31) / 32)) 0 0 n 2000 n (32 * ((2000 + 31) / 32)) HYP_) ok_10 (by kernel_rfl) (by kernel_rfl) rfl VAL_) APP_ rfl ?_
      refine s_go GO_ ?_
      refine s_val (v_moveC rfl) rfl ?_
      refine s_go GO_ ?_
      refine s_val (v_leqN (b := 2000) rfl rfl) rfl ?_
      refine s_go GO_ ?_
      refine s_val (v_eqlB rfl rfl Try.underlying4) rfl ?_
      refine s_val (v_pickT rfl PK_ rfl) rfl ?_
      refine s_val (v_moveC rfl) rfl ?_
      refine s_go GO_ ?_
      refine s_val (v_moveC rfl) rfl ?_
      refine s_go GO_ ?_
      refine s_val (v_lenS rfl Try.underlying22) rfl ?_
      refine s_go GO_ ?_
      refine s_val (v_moveC rfl) rfl ?_
      refine s_go GO_ ?_
      refine s_val (v_eqlN rfl rfl) rfl ?_
      refine s_val (v_pickT rfl PK_ rfl) rfl ?_
      refine s_val (v_moveC rfl) rfl ?_
      refine s_go GO_ ?_
      refine s_evN (e_callR (bs := []) (wakes_ev) ok_11 (by kernel_rfl) (by kernel_rfl) rfl VAL_) APP_ rfl ?_
      refine s_val (v_pickT rfl PK_ rfl) rfl ?_
      refine s_val (v_assignC rfl) rfl ?_
      refine s_nil ?_
      have hQ6 : (expAll key t ((2000 + 31) / 32)).length = 32 * ((2000 + 31) / 32) := LQ_
      refine S_ ?_
      exact k_1 (by first | exact r_tmpC rfl | exact r_tmpA rfl) (by first | kernel_rfl | rfl)


set_option maxRecDepth 100000 in
set_option maxHeartbeats 2000000 in
theorem macExactS_ev (key : List (BitVec 8)) (cap : Nat) (t : List (BitVec 8)) (cap2 : Nat) (n : Nat) (hn : n ≤ 9223372036854775807) (hok : n ≤ 2000) : Ev Try.prog (.call 6 [.c (.sl 0 0 key.length cap 1), .c (.sl 1 0 t.length cap2 1), .c (.val (.int .i64 ((n : Nat) : Int)))] [.row false (.a8 (key)), .row false (.a8 (t))]) (.val (.c (.val (.bool (true)))) [.row false (.a8 (key)), .row false (.a8 (t))]) := by
  refine c_call Try.func6 rfl Try.ntmps6 rfl LEN_ ?_
  refine S_ ?_
  refine c_region ?_
  refine s_val (v_assignC rfl) rfl ?_
  refine s_nil ?_
  by_cases hc1 : 1000 < key.length
  · -- it is so
    refine S_ ?_
    refine c_region ?_
    refine s_val (v_moveC rfl) rfl ?_
    refine s_val (v_lenS rfl Try.underlying22) rfl ?_
    refine s_val (v_gtrN (b := 1000) rfl rfl) rfl ?_
    refine s_val (v_moveC rfl) rfl ?_
    refine s_no GO_ rfl ?_
    refine s_no GO_ rfl ?_
    refine s_no GO_ rfl ?_
    refine s_val (v_pickT rfl PK_ rfl) rfl ?_
    refine s_nil ?_
    refine S_ ?_
    refine c_region ?_
    refine s_val (v_assignC rfl) rfl ?_
    refine s_nil ?_
    refine S_ ?_
    exact k_1 (by first | exact r_tmpC rfl | exact r_tmpA rfl) (by first | kernel_rfl | rfl)
  · -- it is not so
    refine S_ ?_
    refine c_region ?_
    refine s_val (v_moveC rfl) rfl ?_
    refine s_val (v_lenS rfl Try.underlying22) rfl ?_
    refine s_val (v_gtrN (b := 1000) rfl rfl) rfl ?_
    refine s_val (v_moveC rfl) rfl ?_
    refine s_go GO_ ?_
    refine s_val (v_moveC rfl) rfl ?_
    refine s_go GO_ ?_
    refine s_val (v_lenS rfl Try.underlying22) rfl ?_
    refine s_go GO_ ?_
    refine s_val (v_gtrN (b := 1000) rfl rfl) rfl ?_
    refine s_val (v_pickF rfl PK_ rfl) rfl ?_
    refine s_nil ?_
    refine Q_ ?_
    by_cases hc2 : 1000 < t.length
    · try simp only [if_pos hc2] at *
      refine c_condT rfl (decide_eq_true hc2) ?_
      refine S_ ?_
      refine c_region ?_
      refine s_val (v_assignC rfl) rfl ?_
      refine s_nil ?_
      refine S_ ?_
      exact k_1 (by first | exact r_tmpC rfl | exact r_tmpA rfl) (by first | kernel_rfl | rfl)
    · try simp only [if_neg hc2] at *
      refine c_condF rfl (decide_eq_false hc2) ?_
      refine S_ ?_
      refine c_region ?_
      refine s_val (v_moveC rfl) rfl ?_
      refine s_evN (e_callR (bs := [0]) (twin_ev key key.length cap HYP_ HYP_) ok_13 (by kernel_rfl) (by kernel_rfl) rfl VAL_) APP_ rfl ?_
      refine s_val (v_moveC rfl) rfl ?_
      refine s_evN (e_callR (bs := [1]) (twin_ev t t.length cap2 HYP_ HYP_) ok_13 (by kernel_rfl) (by kernel_rfl) rfl VAL_) APP_ rfl ?_
      refine s_val (v_assignC rfl) rfl ?_
      refine s_val (v_assignC rfl) rfl ?_
      refine s_nil ?_
      refine S_ ?_
      refine c_region ?_
      refine s_val (v_moveC rfl) rfl ?_
      refine s_val (v_moveC rfl) rfl ?_
      refine s_evN (e_callR (bs := [2,3]) (macSum_ev key key.length key.length t t.length t.length HYP_ HYP_ HYP_ HYP_) ok_8 (by kernel_rfl) (by kernel_rfl) rfl VAL_) APP_ rfl ?_
      refine s_val (v_moveC rfl) rfl ?_
      refine s_val (v_moveC rfl) rfl ?_
      refine s_evN (e_callR (bs := [0,1]) (rfMac_evA key key.length cap t t.length cap2 HYP_ HYP_ HYP_ HYP_) ok_14 (by kernel_rfl) (by kernel_rfl) rfl VAL_) APP_ rfl ?_
      refine s_memN (m_alloc al_23 LEN_) APP_ rfl ?_
      refine s_memN (m_alloc al_23 LEN_) APP_ rfl ?_
      refine s_storeR rfl rfl rfl rfl sz_23 EQ_ EQ_ SET_ ?_
      refine s_storeR rfl rfl rfl rfl sz_23 EQ_ EQ_ SET_ ?_
      refine s_nil ?_
      have hQ3 : (macSum key t).length = 32 := LQ_
      refine S_ ?_
      refine c_region ?_
      refine s_val (v_moveC rfl) rfl ?_
      refine s_val (v_moveC rfl) rfl ?_
      refine s_evN (e_callR (bs := [2,3]) (macExt_ev key key.length key.length t t.length t.length HYP_ HYP_ HYP_ HYP_) ok_15 (by kernel_rfl) (by kernel_rfl) rfl VAL_) APP_ rfl ?_
      refine s_memN (m_alloc al_23 LEN_) APP_ rfl ?_
      refine s_storeR rfl rfl rfl rfl sz_23 EQ_ EQ_ SET_ ?_
      refine s_nil ?_
      have hQ4 : (macSum key t).length = 32 := LQ_
      refine S_ ?_
      refine c_draw 10 mixed (by kernel_rfl) rfl rfl rfl ?_
      refine h_val (v_slA1 (l := 0) (h := 32) (len := 32) (cp := 32) rfl Try.underlying23 sz_5 rfl rfl rfl (by omega) (by omega) FIT_ rfl rfl) rfl ?_
      refine h_val (v_slA1 (l := 0) (h := 32) (len := 32) (cp := 32) rfl Try.underlying23 sz_5 rfl rfl rfl (by omega) (by omega) FIT_ rfl rfl) rfl ?_
      refine h_evN (e_callR (bs := [4,5]) (bytes_ev (macSum key t) (macSum key t) 0 0 32 32 32 HYP_ HYP_ HYP_ (fun _ _ => rfl)) ok_10 (by kernel_rfl) (by kernel_rfl) rfl VAL_) APP_ rfl ?_
      refine h_val (v_unnotB rfl) rfl ?_
      refine h_val (v_moveC rfl) rfl ?_
      refine h_go GO_ ?_
      refine h_val (v_slA1 (l := 0) (h := 32) (len := 32) (cp := 32) rfl Try.underlying23 sz_5 rfl rfl rfl (by omega) (by omega) FIT_ rfl rfl) rfl ?_
      refine h_go GO_ ?_
      refine h_val (v_slA1 (l := 0) (h := 32) (len := 32) (cp := 32) rfl Try.underlying23 sz_5 rfl rfl rfl (by omega) (by omega) FIT_ rfl rfl) rfl ?_
      refine h_go GO_ ?_
      refine h_evN (e_callR (bs := [6,5]) (bytes_ev (macSum key t) (macSum key t) 0 0 32 32 32 HYP_ HYP_ HYP_ (fun _ _ => rfl)) ok_10 (by kernel_rfl) (by kernel_rfl) rfl VAL_) APP_ rfl ?_
      refine h_go GO_ ?_
      refine h_val (v_unnotB rfl) rfl ?_
      refine h_val (v_pickF rfl PK_ rfl) rfl ?_
      refine h_nil ?_
      refine s_nil ?_
      refine S_ ?_
      refine c_region ?_
      refine s_val (v_moveC rfl) rfl ?_
      refine s_val (v_moveC rfl) rfl ?_
      refine s_val (v_moveC rfl) rfl ?_
      refine s_evN (e_callR (bs := [2,3]) (macExp_ev key key.length key.length t t.length t.length n HYP_ HYP_ HYP_ HYP_ HYP_ HYP_) ok_12 (by kernel_rfl) (by kernel_rfl) rfl VAL_) APP_ rfl ?_
      refine s_val (v_moveT rfl) rfl ?_
      refine s_val (v_extract rfl rfl) rfl ?_
      refine s_val (v_extract rfl rfl) rfl ?_
      refine s_val (v_assignC rfl) rfl ?_
      refine s_val (v_assignC rfl) rfl ?_
      refine s_nil ?_
      have hQ5 : (macExp0 key t n).length = n := LQ_
      refine S_ ?_
      refine c_region ?_
      refine s_val (v_moveC rfl) rfl ?_
      refine s_val (v_moveC rfl) rfl ?_
      refine s_evN (e_callR (bs := [2,0]) (bytes_ev key key 0 0 key.length key.length cap HYP_ HYP_ HYP_ (fun _ _ => rfl)) ok_10 (by kernel_rfl) (by kernel_rfl) rfl VAL_) APP_ rfl ?_
      refine s_val (v_unnotB rfl) rfl ?_
      refine s_val (v_moveC rfl) rfl ?_
      refine s_go GO_ ?_
      refine s_val (v_moveC rfl) rfl ?_
      refine s_go GO_ ?_
      refine s_val (v_moveC rfl) rfl ?_
      refine s_go GO_ ?_
      refine s_evN (e_callR (bs := [3,1]) (bytes_ev t t 0 0 t.length t.length cap2 HYP_ HYP_ HYP_ (fun _ _ => rfl)) ok_10 (by kernel_rfl) (by kernel_rfl) rfl VAL_) APP_ rfl ?_
      refine s_go GO_ ?_
      refine s_val (v_unnotB rfl) rfl ?_
      refine s_val (v_pickF rfl PK_ rfl) rfl ?_
      refine s_nil ?_
      refine S_ ?_
      refine c_region ?_
      refine s_val (v_moveC rfl) rfl ?_
      refine s_val (v_lssN (b := 0) rfl rfl) rfl ?_
      refine s_val (v_moveC rfl) rfl ?_
      refine s_go GO_ ?_
      refine s_val (v_moveC rfl) rfl ?_
      refine s_go GO_ ?_
      refine s_val (v_gtrN (b := 8160) rfl rfl) rfl ?_
      refine s_val (v_pickF rfl PK_ rfl) rfl ?_
      refine s_nil ?_
      refine S_ ?_
      refine c_region ?_
      refine s_val (v_moveC rfl) rfl ?_
      refine s_val (v_eqlN (a := 0) (b := 0) rfl rfl) rfl ?_
      refine s_val (v_moveC rfl) rfl ?_
      refine s_go GO_ ?_
      refine s_val (v_moveC rfl) rfl ?_
      refine s_go GO_ ?_
      refine s_val (v_moveC rfl) rfl ?_
      refine s_go GO_ ?_
      refine s_val (v_moveC rfl) rfl ?_
      refine s_go GO_ ?_
      refine s_val (v_moveC rfl) rfl ?_
      refine s_go GO_ ?_
      refine s_val (v_minL (b := 2000) rfl rfl (by omega)) rfl ?_
      refine s_go GO_ ?_
      refine s_evN (e_callR (bs := [0,1]) (rfExp_evA key key.length cap t t.length cap2 n HYP_ HYP_ HYP_ HYP_ HYP_ HYP_) ok_16 (by kernel_rfl) (by kernel_rfl) rfl VAL_) APP_ rfl ?_
      refine s_go GO_ ?_
      refine s_evN (e_callR (bs := [7,8]) (bytes_ev (macExp0 key t n) (expAll key t ((n + 31) / 32)) 0 0 n n (32 * ((n + 31) / 32)) HYP_ HYP_ HYP_ (fun i hi => by rw [macExp_all, nth_cut _ _ _ _ (by omega), Nat.zero_add])) ok_10 (by kernel_rfl) (by kernel_rfl) rfl VAL_) APP_ rfl ?_
      refine s_go GO_ ?_
      refine s_val (v_moveC rfl) rfl ?_
      refine s_go GO_ ?_
      refine s_val (v_leqN (b := 2000) rfl rfl) rfl ?_
      refine s_go GO_ ?_
      refine s_val (v_eqlB rfl rfl Try.underlying4) rfl ?_
      refine s_val (v_pickT rfl PK_ rfl) rfl ?_
      refine s_val (v_moveC rfl) rfl ?_
      refine s_go GO_ ?_
      refine s_val (v_moveC rfl) rfl ?_
      refine s_go GO_ ?_
      refine s_val (v_lenS rfl Try.underlying22) rfl ?_
      refine s_go GO_ ?_
      refine s_val (v_moveC rfl) rfl ?_
      refine s_go GO_ ?_
      refine s_val (v_eqlN rfl rfl) rfl ?_
      refine s_val (v_pickT rfl PK_ rfl) rfl ?_
      refine s_val (v_moveC rfl) rfl ?_
      refine s_go GO_ ?_
      refine s_evN (e_callR (bs := []) (wakes_ev) ok_11 (by kernel_rfl) (by kernel_rfl) rfl VAL_) APP_ rfl ?_
      refine s_val (v_pickT rfl PK_ rfl) rfl ?_
      refine s_val (v_assignC rfl) rfl ?_
      refine s_nil ?_
      have hQ6 : (expAll key t ((n + 31) / 32)).length = 32 * ((n + 31) / 32) := LQ_
      refine S_ ?_
      exact k_1 (by first | exact r_tmpC rfl | exact r_tmpA rfl) (by first | kernel_rfl | rfl)
theorem macExact_ev (key : List (BitVec 8)) (cap : Nat) (t : List (BitVec 8)) (cap2 n : Nat) (hn : n ≤ 9223372036854775807) : Ev Try.prog (.call 6 [.c (.sl 0 0 key.length cap 1), .c (.sl 1 0 t.length cap2 1), .c (.val (.int .i64 ((n : Nat) : Int)))] [.row false (.a8 key), .row false (.a8 t)]) (.val (.c (.val (.bool true))) [.row false (.a8 key), .row false (.a8 t)]) := by
  by_cases h1 : 8160 < n
  · exact macExactG_ev key cap t cap2 n hn h1
  · by_cases h2 : 2000 < n
    · exact macExactM_ev key cap t cap2 n hn h2 (by omega)
    · exact macExactS_ev key cap t cap2 n hn (by omega)
end Go.Proofs.Ytlnekohkbhidnaa
