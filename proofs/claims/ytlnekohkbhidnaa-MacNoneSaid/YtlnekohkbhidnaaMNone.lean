/- trystlaw02.MacNone, trystlaw02.MacNone (Drawn up by a program.) -/
import Derived.Test.YtlnekohkbhidnaaMWakes
import Derived.Test.YtlnekohkbhidnaaPKeep
namespace Go.Proofs.Ytlnekohkbhidnaa
open Go.RowKit

set_option maxRecDepth 100000 in
set_option maxHeartbeats 2000000 in
theorem macNoneN_ev (t : List (BitVec 8)) (cap : Nat) (z : Int) (hz : z < 0) : Ev Try.prog (.call 7 [.c (.sl 0 0 t.length cap 1), .c (.val (.int .i64 z))] [.row false (.a8 (t))]) (.val (.c (.val (.bool (true)))) [.row false (.a8 (t))]) := by
  refine c_call Try.func7 rfl Try.ntmps7 rfl LEN_ ?_
  refine S_ ?_
  refine c_region ?_
  refine s_val (v_assignC rfl) rfl ?_
  refine s_nil ?_
  by_cases hc1 : 1000 < t.length
  · -- it is so
    refine S_ ?_
    refine c_region ?_
    refine s_val (v_moveC rfl) rfl ?_
    refine s_val (v_lenS rfl Try.underlying22) rfl ?_
    refine s_val (v_gtrN (b := 1000) rfl rfl) rfl ?_
    refine s_val (v_moveC rfl) rfl ?_
    refine s_no GO_ rfl ?_
    refine s_no GO_ rfl ?_
    refine s_val (v_pickT rfl PK_ rfl) rfl ?_
    refine s_val (v_moveC rfl) rfl ?_
    refine s_no GO_ rfl ?_
    refine s_no GO_ rfl ?_
    refine s_val (v_pickT rfl PK_ rfl) rfl ?_
    refine s_nil ?_
    refine S_ ?_
    refine c_region ?_
    refine s_val (v_assignC rfl) rfl ?_
    refine s_nil ?_
    refine S_ ?_
    exact k_1 (by first | exact r_tmpC rfl | exact r_tmpA rfl) (by first | kernel_rfl | rfl)
  · -- it is not so
    refine S_ ?_
    refine c_region ?_
    refine s_val (v_moveC rfl) rfl ?_
    refine s_val (v_lenS rfl Try.underlying22) rfl ?_
    refine s_val (v_gtrN (b := 1000) rfl rfl) rfl ?_
    refine s_val (v_moveC rfl) rfl ?_
    refine s_go GO_ ?_
    refine s_val (v_moveC rfl) rfl ?_
    refine s_go GO_ ?_
    refine s_val (v_lssI rfl rfl) rfl ?_
    refine s_val (v_pickF rfl PK_ rfl) rfl ?_
    refine s_val (v_moveC rfl) rfl ?_
    refine s_no GO_ rfl ?_
    refine s_no GO_ rfl ?_
    refine s_val (v_pickT rfl PK_ rfl) rfl ?_
    refine s_nil ?_
    refine S_ ?_
    refine c_region ?_
    refine s_val (v_assignC rfl) rfl ?_
    refine s_nil ?_
    refine S_ ?_
    exact k_1 (by first | exact r_tmpC rfl | exact r_tmpA rfl) (by first | kernel_rfl | rfl)


theorem macExpNN_ev (n : Nat) (hn : n ≤ 1099511627) (hok : n ≤ 8160) : Ev Try.prog (.call 12 [.c .nsl, .c .nsl, .c (.val (.int .i64 ((n : Nat) : Int)))] []) (.val (.tup [.c (.sl 0 0 n n 1), .c (.val (.int .i64 ((0 : Nat) : Int)))]) [.row true (.a8 (macExp0 [] [] n))]) :=
  Ev.view (m' := [.row false (.a8 []), .row false (.a8 [])]) (N := [.row true (.a8 (macExp0 [] [] n))]) (v := .tup [.c (.sl 2 0 n n 1), .c (.val (.int .i64 ((0 : Nat) : Int)))]) (viewOf [none, none]) (fun j i h => by
    obtain ⟨h1, h2⟩ := viewOf_some h
    match j, h1 with
    | 0, _ => cases h2
    | 1, _ => cases h2) (.c .nil (.c .nil (.c (.same rfl) .nil))) (macExp_ev [] 0 0 [] 0 0 n rfl (by decide) rfl (by decide) hn hok)
theorem macExpTN_ev (key : List (BitVec 8)) (kn kcap n : Nat) (hkey : key.length = kn) (hkn : kn ≤ 1099511627) (hn : n ≤ 1099511627) (hok : n ≤ 8160) : Ev Try.prog (.call 12 [.c (.sl 0 0 kn kcap 1), .c .nsl, .c (.val (.int .i64 ((n : Nat) : Int)))] [.row false (.a8 key)]) (.val (.tup [.c (.sl 1 0 n n 1), .c (.val (.int .i64 ((0 : Nat) : Int)))]) [.row false (.a8 key), .row true (.a8 (macExp0 key [] n))]) :=
  Ev.view (m' := [.row false (.a8 key), .row false (.a8 [])]) (N := [.row true (.a8 (macExp0 key [] n))]) (v := .tup [.c (.sl 2 0 n n 1), .c (.val (.int .i64 ((0 : Nat) : Int)))]) (viewOf [some 0, none]) (fun j i h => by
    obtain ⟨h1, h2⟩ := viewOf_some h
    match j, h1 with
    | 0, _ => cases h2; exact ⟨by simp, _, _, rfl, rfl, rfl⟩
    | 1, _ => cases h2) (.c (.sl rfl) (.c .nil (.c (.same rfl) .nil))) (macExp_ev key kn kcap [] 0 0 n hkey hkn rfl (by decide) hn hok)
theorem none_key (k : Nat) (h : k ≤ 64) (t : List (BitVec 8)) : macSum [] t = macSum (zer8 k) t := mac_padded [] (zer8 k) t (by simp) (by simpa using h) (fun i => by rw [nth_z8]; rfl)
theorem none_exp (n : Nat) : macExp0 [] [] n = macExp0 (zer8 64) [] n := by
  rw [macExp_all, macExp_all]
  unfold expAll
  rw [exp_padded [] (zer8 64) [] (by simp) (by simp) (fun i => by rw [nth_z8]; rfl)]
set_option maxRecDepth 100000 in
set_option maxHeartbeats 2000000 in
theorem macNone_ev (t : List (BitVec 8)) (cap : Nat) (n : Nat) (hn : n ≤ 9223372036854775807) : Ev Try.prog (.call 7 [.c (.sl 0 0 t.length cap 1), .c (.val (.int .i64 ((n : Nat) : Int)))] [.row false (.a8 (t))]) (.val (.c (.val (.bool (true)))) [.row false (.a8 (t))]) := by
  refine c_call Try.func7 rfl Try.ntmps7 rfl LEN_ ?_
  refine S_ ?_
  refine c_region ?_
  refine s_val (v_assignC rfl) rfl ?_
  refine s_nil ?_
  by_cases hc1 : 1000 < t.length
  · -- it is so
    refine S_ ?_
    refine c_region ?_
    refine s_val (v_moveC rfl) rfl ?_
    refine s_val (v_lenS rfl Try.underlying22) rfl ?_
    refine s_val (v_gtrN (b := 1000) rfl rfl) rfl ?_
    refine s_val (v_moveC rfl) rfl ?_
    refine s_no GO_ rfl ?_
    refine s_no GO_ rfl ?_
    refine s_val (v_pickT rfl PK_ rfl) rfl ?_
    refine s_val (v_moveC rfl) rfl ?_
    refine s_no GO_ rfl ?_
    refine s_no GO_ rfl ?_
    refine s_val (v_pickT rfl PK_ rfl) rfl ?_
    refine s_nil ?_
    refine S_ ?_
    refine c_region ?_
    refine s_val (v_assignC rfl) rfl ?_
    refine s_nil ?_
    refine S_ ?_
    exact k_1 (by first | exact r_tmpC rfl | exact r_tmpA rfl) (by first | kernel_rfl | rfl)
  · -- it is not so
    refine S_ ?_
    refine c_region ?_
    refine s_val (v_moveC rfl) rfl ?_
    refine s_val (v_lenS rfl Try.underlying22) rfl ?_
    refine s_val (v_gtrN (b := 1000) rfl rfl) rfl ?_
    refine s_val (v_moveC rfl) rfl ?_
    refine s_go GO_ ?_
    refine s_val (v_moveC rfl) rfl ?_
    refine s_go GO_ ?_
    refine s_val (v_lssN (b := 0) rfl rfl) rfl ?_
    refine s_val (v_pickF rfl PK_ rfl) rfl ?_
    refine s_val (v_moveC rfl) rfl ?_
    refine s_go GO_ ?_
    refine s_val (v_moveC rfl) rfl ?_
    refine s_go GO_ ?_
    refine s_val (v_gtrN (b := 200) rfl rfl) rfl ?_
    refine s_val (v_pickF rfl PK_ rfl) rfl ?_
    refine s_nil ?_
    refine Q_ ?_
    by_cases hc2 : 200 < n
    · try simp only [if_pos hc2] at *
      refine c_condT rfl (decide_eq_true hc2) ?_
      refine S_ ?_
      refine c_region ?_
      refine s_val (v_assignC rfl) rfl ?_
      refine s_nil ?_
      refine S_ ?_
      exact k_1 (by first | exact r_tmpC rfl | exact r_tmpA rfl) (by first | kernel_rfl | rfl)
    · try simp only [if_neg hc2] at *
      refine c_condF rfl (decide_eq_false hc2) ?_
      refine S_ ?_
      refine c_draw 12 mixed (by kernel_rfl) rfl rfl rfl ?_
      refine h_val (v_moveC rfl) rfl ?_
      refine h_evN (e_callR (bs := [0]) (macExtN_ev t t.length cap HYP_ HYP_) ok_15 (by kernel_rfl) (by kernel_rfl) rfl VAL_) APP_ rfl ?_
      refine h_val (v_moveC rfl) rfl ?_
      refine h_val (v_minN (b := 64) rfl rfl) rfl ?_
      refine h_memN (m_make8 Try.underlying22 rfl rfl el_5 rep_5 (by omega) (by omega) (by omega) LEN_) APP_ rfl ?_
      refine h_val (v_moveC rfl) rfl ?_
      refine h_evN (e_callR (bs := [1,0]) (macExt_ev (zer8 (min n 64)) (min n 64) (min n 64) t t.length cap HYP_ HYP_ HYP_ HYP_) ok_15 (by kernel_rfl) (by kernel_rfl) rfl VAL_) APP_ rfl ?_
      refine h_val (v_moveC rfl) rfl ?_
      refine h_evN (e_callR (bs := [0]) (macSumN_ev t t.length cap HYP_ HYP_) ok_8 (by kernel_rfl) (by kernel_rfl) rfl VAL_) APP_ rfl ?_
      refine h_memN (m_alloc al_23 LEN_) APP_ rfl ?_
      refine h_memN (m_alloc al_23 LEN_) APP_ rfl ?_
      refine h_memN (m_alloc al_23 LEN_) APP_ rfl ?_
      refine h_nil ?_
      refine s_storeR rfl rfl rfl rfl sz_23 EQ_ EQ_ SET_ ?_
      refine s_storeR rfl rfl rfl rfl sz_23 EQ_ EQ_ SET_ ?_
      refine s_storeR rfl rfl rfl rfl sz_23 EQ_ EQ_ SET_ ?_
      refine s_nil ?_
      have hQ3 : (macSum [] t).length = 32 := LQ_
      have hQ4 : (macSum (zer8 (min n 64)) t).length = 32 := LQ_
      refine S_ ?_
      refine c_region ?_
      refine s_val (v_moveC rfl) rfl ?_
      refine s_evN (e_callR (bs := []) (macExpNN_ev n HYP_ HYP_) ok_12 (by kernel_rfl) (by kernel_rfl) rfl VAL_) APP_ rfl ?_
      refine s_val (v_moveT rfl) rfl ?_
      refine s_val (v_extract rfl rfl) rfl ?_
      refine s_val (v_extract rfl rfl) rfl ?_
      refine s_val (v_assignC rfl) rfl ?_
      refine s_val (v_assignC rfl) rfl ?_
      refine s_nil ?_
      have hQ5 : (macExp0 [] [] n).length = n := LQ_
      refine S_ ?_
      refine c_region ?_
      refine s_memN (m_make8 (a := 64) (b := 64) Try.underlying22 rfl rfl el_5 rep_5 (by omega) (by omega) (by omega) LEN_) APP_ rfl ?_
      refine s_val (v_moveC rfl) rfl ?_
      refine s_evN (e_callR (bs := [6]) (macExpTN_ev (zer8 64) 64 64 n HYP_ HYP_ HYP_ HYP_) ok_12 (by kernel_rfl) (by kernel_rfl) rfl VAL_) APP_ rfl ?_
      refine s_val (v_moveT rfl) rfl ?_
      refine s_val (v_extract rfl rfl) rfl ?_
      refine s_val (v_extract rfl rfl) rfl ?_
      refine s_val (v_assignC rfl) rfl ?_
      refine s_val (v_assignC rfl) rfl ?_
      refine s_nil ?_
      have hQ6 : (macExp0 (zer8 64) [] n).length = n := LQ_
      refine S_ ?_
      refine c_draw 31 mixed (by kernel_rfl) rfl rfl rfl ?_
      refine h_val (v_slA1 (l := 0) (h := 32) (len := 32) (cp := 32) rfl Try.underlying23 sz_5 rfl rfl rfl (by omega) (by omega) FIT_ rfl rfl) rfl ?_
      refine h_val (v_slA1 (l := 0) (h := 32) (len := 32) (cp := 32) rfl Try.underlying23 sz_5 rfl rfl rfl (by omega) (by omega) FIT_ rfl rfl) rfl ?_
      refine h_evN (e_callR (bs := [2,3]) (bytes_ev (macSum [] t) (macSum (zer8 (min n 64)) t) 0 0 32 32 32 HYP_ HYP_ HYP_ (fun i _ => by rw [none_key ((min n 64)) (by omega) t])) ok_10 (by kernel_rfl) (by kernel_rfl) rfl VAL_) APP_ rfl ?_
      refine h_val (v_moveC rfl) rfl ?_
      refine h_go GO_ ?_
      refine h_val (v_slA1 (l := 0) (h := 32) (len := 32) (cp := 32) rfl Try.underlying23 sz_5 rfl rfl rfl (by omega) (by omega) FIT_ rfl rfl) rfl ?_
      refine h_go GO_ ?_
      refine h_val (v_slA1 (l := 0) (h := 32) (len := 32) (cp := 32) rfl Try.underlying23 sz_5 rfl rfl rfl (by omega) (by omega) FIT_ rfl rfl) rfl ?_
      refine h_go GO_ ?_
      refine h_evN (e_callR (bs := [2,4]) (bytes_ev (macSum [] t) (macSum [] t) 0 0 32 32 32 HYP_ HYP_ HYP_ (fun _ _ => rfl)) ok_10 (by kernel_rfl) (by kernel_rfl) rfl VAL_) APP_ rfl ?_
      refine h_val (v_pickT rfl PK_ rfl) rfl ?_
      refine h_val (v_moveC rfl) rfl ?_
      refine h_go GO_ ?_
      refine h_val (v_moveC rfl) rfl ?_
      refine h_go GO_ ?_
      refine h_val (v_eqlN (a := 0) (b := 0) rfl rfl) rfl ?_
      refine h_val (v_pickT rfl PK_ rfl) rfl ?_
      refine h_val (v_moveC rfl) rfl ?_
      refine h_go GO_ ?_
      refine h_val (v_moveC rfl) rfl ?_
      refine h_go GO_ ?_
      refine h_val (v_eqlN (a := 0) (b := 0) rfl rfl) rfl ?_
      refine h_val (v_pickT rfl PK_ rfl) rfl ?_
      refine h_val (v_moveC rfl) rfl ?_
      refine h_go GO_ ?_
      refine h_val (v_moveC rfl) rfl ?_
      refine h_go GO_ ?_
      refine h_val (v_lenS rfl Try.underlying22) rfl ?_
      refine h_go GO_ ?_
      refine h_val (v_moveC rfl) rfl ?_
      refine h_go GO_ ?_
      refine h_val (v_eqlN rfl rfl) rfl ?_
      refine h_val (v_pickT rfl PK_ rfl) rfl ?_
      refine h_val (v_moveC rfl) rfl ?_
      refine h_go GO_ ?_
      refine h_val (v_moveC rfl) rfl ?_
      refine h_go GO_ ?_
      refine h_val (v_moveC rfl) rfl ?_
      refine h_go GO_ ?_
      refine h_evN (e_callR (bs := [5,7]) (bytes_ev (macExp0 [] [] n) (macExp0 (zer8 64) [] n) 0 0 n n n HYP_ HYP_ HYP_ (fun i _ => by rw [none_exp n])) ok_10 (by kernel_rfl) (by kernel_rfl) rfl VAL_) APP_ rfl ?_
      refine h_val (v_pickT rfl PK_ rfl) rfl ?_
      refine h_val (v_moveC rfl) rfl ?_
      refine h_go GO_ ?_
      refine h_evN (e_callR (bs := []) (wakes_ev) ok_11 (by kernel_rfl) (by kernel_rfl) rfl VAL_) APP_ rfl ?_
      refine h_val (v_pickT rfl PK_ rfl) rfl ?_
      refine h_val (v_assignC rfl) rfl ?_
      refine h_nil ?_
      refine s_nil ?_
      refine S_ ?_
      exact k_1 (by first | exact r_tmpC rfl | exact r_tmpA rfl) (by first | kernel_rfl | rfl)
end Go.Proofs.Ytlnekohkbhidnaa
