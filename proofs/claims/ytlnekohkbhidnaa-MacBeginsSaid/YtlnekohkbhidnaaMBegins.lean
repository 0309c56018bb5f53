/- trystlaw02.MacBegins, trystlaw02.MacBegins, trystlaw02.MacBegins, trystlaw02.MacBegins (Drawn up by a program.) -/
import Derived.Test.YtlnekohkbhidnaaMWakes
import Derived.Test.YtlnekohkbhidnaaPKeep
namespace Go.Proofs.Ytlnekohkbhidnaa
open Go.RowKit

set_option maxRecDepth 100000 in
set_option maxHeartbeats 2000000 in
theorem macBeginsNN_ev (key : List (BitVec 8)) (cap : Nat) (t : List (BitVec 8)) (cap2 : Nat) (z : Int) (y : Int) (hz : z < 0) (hy : y < 0) : Ev Try.prog (.call 4 [.c (.sl 0 0 key.length cap 1), .c (.sl 1 0 t.length cap2 1), .c (.val (.int .i64 z)), .c (.val (.int .i64 y))] [.row false (.a8 (key)), .row false (.a8 (t))]) (.val (.c (.val (.bool (true)))) [.row false (.a8 (key)), .row false (.a8 (t))]) := by
  refine c_call Try.func4 rfl Try.ntmps4 rfl LEN_ ?_
  refine S_ ?_
  refine c_region ?_
  refine s_val (v_assignC rfl) rfl ?_
  refine s_nil ?_
  by_cases hc1 : 1000 < key.length
  · -- it is so
    refine S_ ?_
    refine c_region ?_
    refine s_val (v_moveC rfl) rfl ?_
    refine s_val (v_lenS rfl Try.underlying22) rfl ?_
    refine s_val (v_gtrN (b := 1000) rfl rfl) rfl ?_
    refine s_val (v_moveC rfl) rfl ?_
    refine s_no GO_ rfl ?_
    refine s_no GO_ rfl ?_
    refine s_no GO_ rfl ?_
    refine s_val (v_pickT rfl PK_ rfl) rfl ?_
    refine s_val (v_moveC rfl) rfl ?_
    refine s_no GO_ rfl ?_
    refine s_no GO_ rfl ?_
    refine s_val (v_pickT rfl PK_ rfl) rfl ?_
    refine s_val (v_moveC rfl) rfl ?_
    refine s_no GO_ rfl ?_
    refine s_no GO_ rfl ?_
    refine s_no GO_ rfl ?_
    refine s_val (v_pickT rfl PK_ rfl) rfl ?_
    refine s_val (v_moveC rfl) rfl ?_
    refine s_no GO_ rfl ?_
    refine s_no GO_ rfl ?_
    refine s_val (v_pickT rfl PK_ rfl) rfl ?_
    refine s_nil ?_
    refine S_ ?_
    refine c_region ?_
    refine s_val (v_assignC rfl) rfl ?_
    refine s_nil ?_
    refine S_ ?_
    exact k_1 (by first | exact r_tmpC rfl | exact r_tmpA rfl) (by first | kernel_rfl | rfl)
  · -- it is not so
    by_cases hc2 : 1000 < t.length
    · -- it is so
      refine S_ ?_
      refine c_region ?_
      refine s_val (v_moveC rfl) rfl ?_
      refine s_val (v_lenS rfl Try.underlying22) rfl ?_
      refine s_val (v_gtrN (b := 1000) rfl rfl) rfl ?_
      refine s_val (v_moveC rfl) rfl ?_
      refine s_go GO_ ?_
      refine s_val (v_moveC rfl) rfl ?_
      refine s_go GO_ ?_
      refine s_val (v_lenS rfl Try.underlying22) rfl ?_
      refine s_go GO_ ?_
      refine s_val (v_gtrN (b := 1000) rfl rfl) rfl ?_
      refine s_val (v_pickF rfl PK_ rfl) rfl ?_
      refine s_val (v_moveC rfl) rfl ?_
      refine s_no GO_ rfl ?_
      refine s_no GO_ rfl ?_
      refine s_val (v_pickT rfl PK_ rfl) rfl ?_
      refine s_val (v_moveC rfl) rfl ?_
      refine s_no GO_ rfl ?_
      refine s_no GO_ rfl ?_
      refine s_no GO_ rfl ?_
      refine s_val (v_pickT rfl PK_ rfl) rfl ?_
      refine s_val (v_moveC rfl) rfl ?_
      refine s_no GO_ rfl ?_
      refine s_no GO_ rfl ?_
      refine s_val (v_pickT rfl PK_ rfl) rfl ?_
      refine s_nil ?_
      refine S_ ?_
      refine c_region ?_
      refine s_val (v_assignC rfl) rfl ?_
      refine s_nil ?_
      refine S_ ?_
      exact k_1 (by first | exact r_tmpC rfl | exact r_tmpA rfl) (by first | kernel_rfl | rfl)
    · -- it is not so
      refine S_ ?_
      refine c_region ?_
      refine s_val (v_moveC rfl) rfl ?_
      refine s_val (v_lenS rfl Try.underlying22) rfl ?_
      refine s_val (v_gtrN (b := 1000) rfl rfl) rfl ?_
      refine s_val (v_moveC rfl) rfl ?_
      refine s_go GO_ ?_
      refine s_val (v_moveC rfl) rfl ?_
      refine s_go GO_ ?_
      refine s_val (v_lenS rfl Try.underlying22) rfl ?_
      refine s_go GO_ ?_
      refine s_val (v_gtrN (b := 1000) rfl rfl) rfl ?_
      refine s_val (v_pickF rfl PK_ rfl) rfl ?_
      refine s_val (v_moveC rfl) rfl ?_
      refine s_go GO_ ?_
      refine s_val (v_moveC rfl) rfl ?_
      refine s_go GO_ ?_
      refine s_val (v_lssI rfl rfl) rfl ?_
      refine s_val (v_pickF rfl PK_ rfl) rfl ?_
      refine s_val (v_moveC rfl) rfl ?_
      refine s_no GO_ rfl ?_
      refine s_no GO_ rfl ?_
      refine s_no GO_ rfl ?_
      refine s_val (v_pickT rfl PK_ rfl) rfl ?_
      refine s_val (v_moveC rfl) rfl ?_
      refine s_no GO_ rfl ?_
      refine s_no GO_ rfl ?_
      refine s_val (v_pickT rfl PK_ rfl) rfl ?_
      refine s_nil ?_
      refine S_ ?_
      refine c_region ?_
      refine s_val (v_assignC rfl) rfl ?_
      refine s_nil ?_
      refine S_ ?_
      exact k_1 (by first | exact r_tmpC rfl | exact r_tmpA rfl) (by first | kernel_rfl | rfl)


set_option maxRecDepth 100000 in
set_option maxHeartbeats 2000000 in
theorem macBeginsNP_ev (key : List (BitVec 8)) (cap : Nat) (t : List (BitVec 8)) (cap2 : Nat) (z : Int) (m : Nat) (hz : z < 0) (hm : m ≤ 9223372036854775807) : Ev Try.prog (.call 4 [.c (.sl 0 0 key.length cap 1), .c (.sl 1 0 t.length cap2 1), .c (.val (.int .i64 z)), .c (.val (.int .i64 ((m : Nat) : Int)))] [.row false (.a8 (key)), .row false (.a8 (t))]) (.val (.c (.val (.bool (true)))) [.row false (.a8 (key)), .row false (.a8 (t))]) := by
  refine c_call Try.func4 rfl Try.ntmps4 rfl LEN_ ?_
  refine S_ ?_
  refine c_region ?_
  refine s_val (v_assignC rfl) rfl ?_
  refine s_nil ?_
  by_cases hc1 : 1000 < key.length
  · -- it is so
    refine S_ ?_
    refine c_region ?_
    refine s_val (v_moveC rfl) rfl ?_
    refine s_val (v_lenS rfl Try.underlying22) rfl ?_
    refine s_val (v_gtrN (b := 1000) rfl rfl) rfl ?_
    refine s_val (v_moveC rfl) rfl ?_
    refine s_no GO_ rfl ?_
    refine s_no GO_ rfl ?_
    refine s_no GO_ rfl ?_
    refine s_val (v_pickT rfl PK_ rfl) rfl ?_
    refine s_val (v_moveC rfl) rfl ?_
    refine s_no GO_ rfl ?_
    refine s_no GO_ rfl ?_
    refine s_val (v_pickT rfl PK_ rfl) rfl ?_
    refine s_val (v_moveC rfl) rfl ?_
    refine s_no GO_ rfl ?_
    refine s_no GO_ rfl ?_
    refine s_no GO_ rfl ?_
    refine s_val (v_pickT rfl PK_ rfl) rfl ?_
    refine s_val (v_moveC rfl) rfl ?_
    refine s_no GO_ rfl ?_
    refine s_no GO_ rfl ?_
    refine s_val (v_pickT rfl PK_ rfl) rfl ?_
    refine s_nil ?_
    refine S_ ?_
    refine c_region ?_
    refine s_val (v_assignC rfl) rfl ?_
    refine s_nil ?_
    refine S_ ?_
    exact k_1 (by first | exact r_tmpC rfl | exact r_tmpA rfl) (by first | kernel_rfl | rfl)
  · -- it is not so
    by_cases hc2 : 1000 < t.length
    · -- it is so
      refine S_ ?_
      refine c_region ?_
      refine s_val (v_moveC rfl) rfl ?_
      refine s_val (v_lenS rfl Try.underlying22) rfl ?_
      refine s_val (v_gtrN (b := 1000) rfl rfl) rfl ?_
      refine s_val (v_moveC rfl) rfl ?_
      refine s_go GO_ ?_
      refine s_val (v_moveC rfl) rfl ?_
      refine s_go GO_ ?_
      refine s_val (v_lenS rfl Try.underlying22) rfl ?_
      refine s_go GO_ ?_
      refine s_val (v_gtrN (b := 1000) rfl rfl) rfl ?_
      refine s_val (v_pickF rfl PK_ rfl) rfl ?_
      refine s_val (v_moveC rfl) rfl ?_
      refine s_no GO_ rfl ?_
      refine s_no GO_ rfl ?_
      refine s_val (v_pickT rfl PK_ rfl) rfl ?_
      refine s_val (v_moveC rfl) rfl ?_
      refine s_no GO_ rfl ?_
      refine s_no GO_ rfl ?_
      refine s_no GO_ rfl ?_
      refine s_val (v_pickT rfl PK_ rfl) rfl ?_
      refine s_val (v_moveC rfl) rfl ?_
      refine s_no GO_ rfl ?_
      refine s_no GO_ rfl ?_
      refine s_val (v_pickT rfl PK_ rfl) rfl ?_
      refine s_nil ?_
      refine S_ ?_
      refine c_region ?_
      refine s_val (v_assignC rfl) rfl ?_
      refine s_nil ?_
      refine S_ ?_
      exact k_1 (by first | exact r_tmpC rfl | exact r_tmpA rfl) (by first | kernel_rfl | rfl)
    · -- it is not so
      refine S_ ?_
      refine c_region ?_
      refine s_val (v_moveC rfl) rfl ?_
      refine s_val (v_lenS rfl Try.underlying22) rfl ?_
      refine s_val (v_gtrN (b := 1000) rfl rfl) rfl ?_
      refine s_val (v_moveC rfl) rfl ?_
      refine s_go GO_ ?_
      refine s_val (v_moveC rfl) rfl ?_
      refine s_go GO_ ?_
      refine s_val (v_lenS rfl Try.underlying22) rfl ?_
      refine s_go GO_ ?_
      refine s_val (v_gtrN (b := 1000) rfl rfl) rfl ?_
      refine s_val (v_pickF rfl PK_ rfl) rfl ?_
      refine s_val (v_moveC rfl) rfl ?_
      refine s_go GO_ ?_
      refine s_val (v_moveC rfl) rfl ?_
      refine s_go GO_ ?_
      refine s_val (v_lssI rfl rfl) rfl ?_
      refine s_val (v_pickF rfl PK_ rfl) rfl ?_
      refine s_val (v_moveC rfl) rfl ?_
      refine s_no GO_ rfl ?_
      refine s_no GO_ rfl ?_
      refine s_no GO_ rfl ?_
      refine s_val (v_pickT rfl PK_ rfl) rfl ?_
      refine s_val (v_moveC rfl) rfl ?_
      refine s_no GO_ rfl ?_
      refine s_no GO_ rfl ?_
      refine s_val (v_pickT rfl PK_ rfl) rfl ?_
      refine s_nil ?_
      refine S_ ?_
      refine c_region ?_
      refine s_val (v_assignC rfl) rfl ?_
      refine s_nil ?_
      refine S_ ?_
      exact k_1 (by first | exact r_tmpC rfl | exact r_tmpA rfl) (by first | kernel_rfl | rfl)


set_option maxRecDepth 100000 in
set_option maxHeartbeats 2000000 in
theorem macBeginsPN_ev (key : List (BitVec 8)) (cap : Nat) (t : List (BitVec 8)) (cap2 : Nat) (n : Nat) (y : Int) (hn : n ≤ 9223372036854775807) (hy : y < 0) : Ev Try.prog (.call 4 [.c (.sl 0 0 key.length cap 1), .c (.sl 1 0 t.length cap2 1), .c (.val (.int .i64 ((n : Nat) : Int))), .c (.val (.int .i64 y))] [.row false (.a8 (key)), .row false (.a8 (t))]) (.val (.c (.val (.bool (true)))) [.row false (.a8 (key)), .row false (.a8 (t))]) := by
  refine c_call Try.func4 rfl Try.ntmps4 rfl LEN_ ?_
  refine S_ ?_
  refine c_region ?_
  refine s_val (v_assignC rfl) rfl ?_
  refine s_nil ?_
  by_cases hc1 : 1000 < key.length
  · -- it is so
    refine S_ ?_
    refine c_region ?_
    refine s_val (v_moveC rfl) rfl ?_
    refine s_val (v_lenS rfl Try.underlying22) rfl ?_
    refine s_val (v_gtrN (b := 1000) rfl rfl) rfl ?_
    refine s_val (v_moveC rfl) rfl ?_
    refine s_no GO_ rfl ?_
    refine s_no GO_ rfl ?_
    refine s_no GO_ rfl ?_
    refine s_val (v_pickT rfl PK_ rfl) rfl ?_
    refine s_val (v_moveC rfl) rfl ?_
    refine s_no GO_ rfl ?_
    refine s_no GO_ rfl ?_
    refine s_val (v_pickT rfl PK_ rfl) rfl ?_
    refine s_val (v_moveC rfl) rfl ?_
    refine s_no GO_ rfl ?_
    refine s_no GO_ rfl ?_
    refine s_no GO_ rfl ?_
    refine s_val (v_pickT rfl PK_ rfl) rfl ?_
    refine s_val (v_moveC rfl) rfl ?_
    refine s_no GO_ rfl ?_
    refine s_no GO_ rfl ?_
    refine s_val (v_pickT rfl PK_ rfl) rfl ?_
    refine s_nil ?_
    refine S_ ?_
    refine c_region ?_
    refine s_val (v_assignC rfl) rfl ?_
    refine s_nil ?_
    refine S_ ?_
    exact k_1 (by first | exact r_tmpC rfl | exact r_tmpA rfl) (by first | kernel_rfl | rfl)
  · -- it is not so
    by_cases hc2 : 1000 < t.length
    · -- it is so
      refine S_ ?_
      refine c_region ?_
      refine s_val (v_moveC rfl) rfl ?_
      refine s_val (v_lenS rfl Try.underlying22) rfl ?_
      refine s_val (v_gtrN (b := 1000) rfl rfl) rfl ?_
      refine s_val (v_moveC rfl) rfl ?_
      refine s_go GO_ ?_
      refine s_val (v_moveC rfl) rfl ?_
      refine s_go GO_ ?_
      refine s_val (v_lenS rfl Try.underlying22) rfl ?_
      refine s_go GO_ ?_
      refine s_val (v_gtrN (b := 1000) rfl rfl) rfl ?_
      refine s_val (v_pickF rfl PK_ rfl) rfl ?_
      refine s_val (v_moveC rfl) rfl ?_
      refine s_no GO_ rfl ?_
      refine s_no GO_ rfl ?_
      refine s_val (v_pickT rfl PK_ rfl) rfl ?_
      refine s_val (v_moveC rfl) rfl ?_
      refine s_no GO_ rfl ?_
      refine s_no GO_ rfl ?_
      refine s_no GO_ rfl ?_
      refine s_val (v_pickT rfl PK_ rfl) rfl ?_
      refine s_val (v_moveC rfl) rfl ?_
      refine s_no GO_ rfl ?_
      refine s_no GO_ rfl ?_
      refine s_val (v_pickT rfl PK_ rfl) rfl ?_
      refine s_nil ?_
      refine S_ ?_
      refine c_region ?_
      refine s_val (v_assignC rfl) rfl ?_
      refine s_nil ?_
      refine S_ ?_
      exact k_1 (by first | exact r_tmpC rfl | exact r_tmpA rfl) (by first | kernel_rfl | rfl)
    · -- it is not so
      refine S_ ?_
      refine c_region ?_
      refine s_val (v_moveC rfl) rfl ?_
      refine s_val (v_lenS rfl Try.underlying22) rfl ?_
      refine s_val (v_gtrN (b := 1000) rfl rfl) rfl ?_
      refine s_val (v_moveC rfl) rfl ?_
      refine s_go GO_ ?_
      refine s_val (v_moveC rfl) rfl ?_
      refine s_go GO_ ?_
      refine s_val (v_lenS rfl Try.underlying22) rfl ?_
      refine s_go GO_ ?_
      refine s_val (v_gtrN (b := 1000) rfl rfl) rfl ?_
      refine s_val (v_pickF rfl PK_ rfl) rfl ?_
      refine s_val (v_moveC rfl) rfl ?_
      refine s_go GO_ ?_
      refine s_val (v_moveC rfl) rfl ?_
      refine s_go GO_ ?_
      refine s_val (v_lssN (b := 0) rfl rfl) rfl ?_
      refine s_val (v_pickF rfl PK_ rfl) rfl ?_
      refine s_val (v_moveC rfl) rfl ?_
      refine s_go GO_ ?_
      refine s_val (v_moveC rfl) rfl ?_
      refine s_go GO_ ?_
      refine s_val (v_moveC rfl) rfl ?_
      refine s_go GO_ ?_
      refine s_val (v_lssI rfl rfl) rfl ?_
      refine s_val (v_pickF rfl PK_ rfl) rfl ?_
      refine s_val (v_moveC rfl) rfl ?_
      refine s_no GO_ rfl ?_
      refine s_no GO_ rfl ?_
      refine s_val (v_pickT rfl PK_ rfl) rfl ?_
      refine s_nil ?_
      refine S_ ?_
      refine c_region ?_
      refine s_val (v_assignC rfl) rfl ?_
      refine s_nil ?_
      refine S_ ?_
      exact k_1 (by first | exact r_tmpC rfl | exact r_tmpA rfl) (by first | kernel_rfl | rfl)


theorem exp_first (key info : List (BitVec 8)) (m i : Nat) (h : i < m) (h2 : i < 32) : nth (macExp0 key info m) i = nth (macSum key (info ++ [1#8])) i := by
  rw [exp_nth _ _ _ _ h, show i / 32 + 1 = 0 + 1 by omega]
  unfold expAll
  rw [macExp_L5.eq_2, macExp_L5_S]
  rfl
set_option maxRecDepth 100000 in
set_option maxHeartbeats 2000000 in
theorem macBegins_ev (key : List (BitVec 8)) (cap : Nat) (t : List (BitVec 8)) (cap2 : Nat) (n : Nat) (m : Nat) (hn : n ≤ 9223372036854775807) (hm : m ≤ 9223372036854775807) : Ev Try.prog (.call 4 [.c (.sl 0 0 key.length cap 1), .c (.sl 1 0 t.length cap2 1), .c (.val (.int .i64 ((n : Nat) : Int))), .c (.val (.int .i64 ((m : Nat) : Int)))] [.row false (.a8 (key)), .row false (.a8 (t))]) (.val (.c (.val (.bool (true)))) [.row false (.a8 (key)), .row false (.a8 (t))]) := by
  refine c_call Try.func4 rfl Try.ntmps4 rfl LEN_ ?_
  refine S_ ?_
  refine c_region ?_
  refine s_val (v_assignC rfl) rfl ?_
  refine s_nil ?_
  by_cases hc1 : 1000 < key.length
  · -- it is so
    refine S_ ?_
    refine c_region ?_
    refine s_val (v_moveC rfl) rfl ?_
    refine s_val (v_lenS rfl Try.underlying22) rfl ?_
    refine s_val (v_gtrN (b := 1000) rfl rfl) rfl ?_
    refine s_val (v_moveC rfl) rfl ?_
    refine s_no GO_ rfl ?_
    refine s_no GO_ rfl ?_
    refine s_no GO_ rfl ?_
    refine s_val (v_pickT rfl PK_ rfl) rfl ?_
    refine s_val (v_moveC rfl) rfl ?_
    refine s_no GO_ rfl ?_
    refine s_no GO_ rfl ?_
    refine s_val (v_pickT rfl PK_ rfl) rfl ?_
    refine s_val (v_moveC rfl) rfl ?_
    refine s_no GO_ rfl ?_
    refine s_no GO_ rfl ?_
    refine s_no GO_ rfl ?_
    refine s_val (v_pickT rfl PK_ rfl) rfl ?_
    refine s_val (v_moveC rfl) rfl ?_
    refine s_no GO_ rfl ?_
    refine s_no GO_ rfl ?_
    refine s_val (v_pickT rfl PK_ rfl) rfl ?_
    refine s_nil ?_
    refine S_ ?_
    refine c_region ?_
    refine s_val (v_assignC rfl) rfl ?_
    refine s_nil ?_
    refine S_ ?_
    exact k_1 (by first | exact r_tmpC rfl | exact r_tmpA rfl) (by first | kernel_rfl | rfl)
  · -- it is not so
    by_cases hc2 : 1000 < t.length
    · -- it is so
      refine S_ ?_
      refine c_region ?_
      refine s_val (v_moveC rfl) rfl ?_
      refine s_val (v_lenS rfl Try.underlying22) rfl ?_
      refine s_val (v_gtrN (b := 1000) rfl rfl) rfl ?_
      refine s_val (v_moveC rfl) rfl ?_
      refine s_go GO_ ?_
      refine s_val (v_moveC rfl) rfl ?_
      refine s_go GO_ ?_
      refine s_val (v_lenS rfl Try.underlying22) rfl ?_
      refine s_go GO_ ?_
      refine s_val (v_gtrN (b := 1000) rfl rfl) rfl ?_
      refine s_val (v_pickF rfl PK_ rfl) rfl ?_
      refine s_val (v_moveC rfl) rfl ?_
      refine s_no GO_ rfl ?_
      refine s_no GO_ rfl ?_
      refine s_val (v_pickT rfl PK_ rfl) rfl ?_
      refine s_val (v_moveC rfl) rfl ?_
      refine s_no GO_ rfl ?_
      refine s_no GO_ rfl ?_
      refine s_no GO_ rfl ?_
      refine s_val (v_pickT rfl PK_ rfl) rfl ?_
      refine s_val (v_moveC rfl) rfl ?_
      refine s_no GO_ rfl ?_
      refine s_no GO_ rfl ?_
      refine s_val (v_pickT rfl PK_ rfl) rfl ?_
      refine s_nil ?_
      refine S_ ?_
      refine c_region ?_
      refine s_val (v_assignC rfl) rfl ?_
      refine s_nil ?_
      refine S_ ?_
      exact k_1 (by first | exact r_tmpC rfl | exact r_tmpA rfl) (by first | kernel_rfl | rfl)
    · -- it is not so
      by_cases hc3 : m < n
      · -- it is so
        refine S_ ?_
        refine c_region ?_
        refine s_val (v_moveC rfl) rfl ?_
        refine s_val (v_lenS rfl Try.underlying22) rfl ?_
        refine s_val (v_gtrN (b := 1000) rfl rfl) rfl ?_
        refine s_val (v_moveC rfl) rfl ?_
        refine s_go GO_ ?_
        refine s_val (v_moveC rfl) rfl ?_
        refine s_go GO_ ?_
        refine s_val (v_lenS rfl Try.underlying22) rfl ?_
        refine s_go GO_ ?_
        refine s_val (v_gtrN (b := 1000) rfl rfl) rfl ?_
        refine s_val (v_pickF rfl PK_ rfl) rfl ?_
        refine s_val (v_moveC rfl) rfl ?_
        refine s_go GO_ ?_
        refine s_val (v_moveC rfl) rfl ?_
        refine s_go GO_ ?_
        refine s_val (v_lssN (b := 0) rfl rfl) rfl ?_
        refine s_val (v_pickF rfl PK_ rfl) rfl ?_
        refine s_val (v_moveC rfl) rfl ?_
        refine s_go GO_ ?_
        refine s_val (v_moveC rfl) rfl ?_
        refine s_go GO_ ?_
        refine s_val (v_moveC rfl) rfl ?_
        refine s_go GO_ ?_
        refine s_val (v_lssN rfl rfl) rfl ?_
        refine s_val (v_pickF rfl PK_ rfl) rfl ?_
        refine s_val (v_moveC rfl) rfl ?_
        refine s_no GO_ rfl ?_
        refine s_no GO_ rfl ?_
        refine s_val (v_pickT rfl PK_ rfl) rfl ?_
        refine s_nil ?_
        refine S_ ?_
        refine c_region ?_
        refine s_val (v_assignC rfl) rfl ?_
        refine s_nil ?_
        refine S_ ?_
        exact k_1 (by first | exact r_tmpC rfl | exact r_tmpA rfl) (by first | kernel_rfl | rfl)
      · -- it is not so
        refine S_ ?_
        refine c_region ?_
        refine s_val (v_moveC rfl) rfl ?_
        refine s_val (v_lenS rfl Try.underlying22) rfl ?_
        refine s_val (v_gtrN (b := 1000) rfl rfl) rfl ?_
        refine s_val (v_moveC rfl) rfl ?_
        refine s_go GO_ ?_
        refine s_val (v_moveC rfl) rfl ?_
        refine s_go GO_ ?_
        refine s_val (v_lenS rfl Try.underlying22) rfl ?_
        refine s_go GO_ ?_
        refine s_val (v_gtrN (b := 1000) rfl rfl) rfl ?_
        refine s_val (v_pickF rfl PK_ rfl) rfl ?_
        refine s_val (v_moveC rfl) rfl ?_
        refine s_go GO_ ?_
        refine s_val (v_moveC rfl) rfl ?_
        refine s_go GO_ ?_
        refine s_val (v_lssN (b := 0) rfl rfl) rfl ?_
        refine s_val (v_pickF rfl PK_ rfl) rfl ?_
        refine s_val (v_moveC rfl) rfl ?_
        refine s_go GO_ ?_
        refine s_val (v_moveC rfl) rfl ?_
        refine s_go GO_ ?_
        refine s_val (v_moveC rfl) rfl ?_
        refine s_go GO_ ?_
        refine s_val (v_lssN rfl rfl) rfl ?_
        refine s_val (v_pickF rfl PK_ rfl) rfl ?_
        refine s_val (v_moveC rfl) rfl ?_
        refine s_go GO_ ?_
        refine s_val (v_moveC rfl) rfl ?_
        refine s_go GO_ ?_
        refine s_val (v_gtrN (b := 400) rfl rfl) rfl ?_
        refine s_val (v_pickF rfl PK_ rfl) rfl ?_
        refine s_nil ?_
        refine Q_ ?_
        by_cases hc4 : 400 < m
        · try simp only [if_pos hc4] at *
          refine c_condT rfl (decide_eq_true hc4) ?_
          refine S_ ?_
          refine c_region ?_
          refine s_val (v_assignC rfl) rfl ?_
          refine s_nil ?_
          refine S_ ?_
          exact k_1 (by first | exact r_tmpC rfl | exact r_tmpA rfl) (by first | kernel_rfl | rfl)
        · try simp only [if_neg hc4] at *
          refine c_condF rfl (decide_eq_false hc4) ?_
          refine S_ ?_
          refine c_region ?_
          refine s_val (v_moveC rfl) rfl ?_
          refine s_val (v_moveC rfl) rfl ?_
          refine s_val (v_moveC rfl) rfl ?_
          refine s_evN (e_callR (bs := [0,1]) (macExp_ev key key.length cap t t.length cap2 n HYP_ HYP_ HYP_ HYP_ HYP_ HYP_) ok_12 (by kernel_rfl) (by kernel_rfl) rfl VAL_) APP_ rfl ?_
          refine s_val (v_moveT rfl) rfl ?_
          refine s_val (v_extract rfl rfl) rfl ?_
          refine s_val (v_extract rfl rfl) rfl ?_
          refine s_val (v_assignC rfl) rfl ?_
          refine s_val (v_assignC rfl) rfl ?_
          refine s_nil ?_
          have hQ5 : (macExp0 key t n).length = n := LQ_
          refine S_ ?_
          refine c_region ?_
          refine s_val (v_moveC rfl) rfl ?_
          refine s_val (v_moveC rfl) rfl ?_
          refine s_val (v_moveC rfl) rfl ?_
          refine s_evN (e_callR (bs := [0,1]) (macExp_ev key key.length cap t t.length cap2 m HYP_ HYP_ HYP_ HYP_ HYP_ HYP_) ok_12 (by kernel_rfl) (by kernel_rfl) rfl VAL_) APP_ rfl ?_
          refine s_val (v_moveT rfl) rfl ?_
          refine s_val (v_extract rfl rfl) rfl ?_
          refine s_val (v_extract rfl rfl) rfl ?_
          refine s_val (v_assignC rfl) rfl ?_
          refine s_val (v_assignC rfl) rfl ?_
          refine s_nil ?_
          have hQ6 : (macExp0 key t m).length = m := LQ_
          refine S_ ?_
          refine c_region ?_
          refine s_val (v_moveC rfl) rfl ?_
          refine s_val (v_neqN (a := 0) (b := 0) rfl rfl) rfl ?_
          refine s_val (v_moveC rfl) rfl ?_
          refine s_go GO_ ?_
          refine s_val (v_moveC rfl) rfl ?_
          refine s_go GO_ ?_
          refine s_val (v_neqN (a := 0) (b := 0) rfl rfl) rfl ?_
          refine s_val (v_pickF rfl PK_ rfl) rfl ?_
          refine s_val (v_moveC rfl) rfl ?_
          refine s_go GO_ ?_
          refine s_val (v_moveC rfl) rfl ?_
          refine s_go GO_ ?_
          refine s_val (v_lenS rfl Try.underlying22) rfl ?_
          refine s_go GO_ ?_
          refine s_val (v_moveC rfl) rfl ?_
          refine s_go GO_ ?_
          refine s_val (v_neqN rfl rfl) rfl ?_
          refine s_val (v_pickF rfl PK_ rfl) rfl ?_
          refine s_val (v_moveC rfl) rfl ?_
          refine s_go GO_ ?_
          refine s_val (v_moveC rfl) rfl ?_
          refine s_go GO_ ?_
          refine s_val (v_moveC rfl) rfl ?_
          refine s_go GO_ ?_
          refine s_val (v_moveC rfl) rfl ?_
          refine s_go GO_ ?_
          refine s_val (v_slS0 rfl Try.underlying22 sz_5 rfl (by omega)) rfl ?_
          refine s_go GO_ ?_
          refine s_evN (e_callR (bs := [2,3]) (bytes_ev (macExp0 key t n) (macExp0 key t m) 0 0 n n m HYP_ HYP_ HYP_ (fun i hi => by rw [Nat.zero_add, exp_nth _ _ _ _ hi, exp_nth _ _ _ _ (by omega)])) ok_10 (by kernel_rfl) (by kernel_rfl) rfl VAL_) APP_ rfl ?_
          refine s_go GO_ ?_
          refine s_val (v_unnotB rfl) rfl ?_
          refine s_val (v_pickF rfl PK_ rfl) rfl ?_
          refine s_nil ?_
          refine S_ ?_
          refine c_region ?_
          refine s_val (v_moveC rfl) rfl ?_
          refine s_val (v_moveC rfl) rfl ?_
          refine s_evN (e_callR (bs := [1]) (twin_ev t t.length cap2 HYP_ HYP_) ok_13 (by kernel_rfl) (by kernel_rfl) rfl VAL_) APP_ rfl ?_
          refine s_memN (m_bs8 (l := [1#8]) Try.underlying22 el_5 rfl rfl (by decide) (by decide) LEN_) APP_ rfl ?_
          refine s_app8 rfl rfl rfl rfl Try.underlying22 Try.underlying22 el_5 EQL_ EQL_ (by omega) LEN_ KILL_ rfl ?_
          refine s_evN (e_callR (bs := [0,6]) (macSum_ev key key.length cap (t ++ [1#8]) (t.length + 1) (t.length + 1) HYP_ HYP_ HYP_ HYP_) ok_8 (by kernel_rfl) (by kernel_rfl) rfl VAL_) APP_ rfl ?_
          refine s_memN (m_alloc al_23 LEN_) APP_ rfl ?_
          refine s_storeR rfl rfl rfl rfl sz_23 EQ_ EQ_ SET_ ?_
          refine s_nil ?_
          have hQ7 : (macSum key (t ++ [1#8])).length = 32 := LQ_
          refine S_ ?_
          refine c_region ?_
          refine s_val (v_assignC rfl) rfl ?_
          refine s_nil ?_
          refine S_ ?_
          refine c_loopC [3, 11, 13, 14] (fun (zz : Nat) => ⟨94, keepT [3, 11, 13, 14] [.c (.val (.int .i64 (((m : Nat) : Int)))), .c (.sl 2 0 m m 1), .c (.ptr 3 0), .c (.val (.int .i64 (((zz : Nat) : Int))))], [.row false (.a8 (key)), .row false (.a8 (t)), .row true (.a8 (macExp0 key t m)), .row true (.a8 (macSum key (t ++ [1#8])))]⟩) (fun j9 => j9) (min m 32) (by kernel_rfl) ?_ ?_
          · intro j9 hj9
            try dsimp only
            refine S_ ?_
            refine c_region ?_
            refine s_val (v_moveC rfl) rfl ?_
            refine s_val (v_moveC rfl) rfl ?_
            refine s_val (v_lssN rfl rfl) rfl ?_
            refine s_val (v_moveC rfl) rfl ?_
            refine s_go GO_ ?_
            refine s_val (v_moveC rfl) rfl ?_
            refine s_go GO_ ?_
            refine s_val (v_lssN (b := 32) rfl rfl) rfl ?_
            refine s_val (v_pickT rfl PK_ rfl) rfl ?_
            refine s_nil ?_
            refine S_ ?_
            refine c_draw 8 mixed (by kernel_rfl) rfl rfl rfl ?_
            refine h_val (v_moveC rfl) rfl ?_
            refine h_val (v_moveC rfl) rfl ?_
            refine h_val (v_idxS1 rfl rfl Try.underlying22 sz_5 (by omega)) rfl ?_
            refine h_val (v_load8 rfl rfl row_5 LT_) rfl ?_
            refine h_val (v_moveC rfl) rfl ?_
            refine h_val (v_idxA1 rfl rfl Try.underlying23 sz_5 (by omega)) rfl ?_
            refine h_val (v_load8 rfl rfl row_5 LT_) rfl ?_
            refine h_val (v_neq8 rfl rfl) rfl ?_
            refine h_nil ?_
            refine s_nil ?_
            refine Q_ ?_
            refine c_condF rfl (by rw [exp_first key t m _ (by omega) (by omega)]; simp) ?_
            refine S_ ?_
            refine c_region ?_
            refine s_val (v_moveC rfl) rfl ?_
            refine s_val (v_addN (b := 1) rfl rfl (by omega)) rfl ?_
            refine s_val (v_assignC rfl) rfl ?_
            refine s_nil ?_
            exact ⟨j9 + 1, by kernel_rfl, rfl⟩
          · try dsimp only
            by_cases hc8 : min m 32 < m
            · -- it is so
              refine S_ ?_
              refine c_region ?_
              refine s_val (v_moveC rfl) rfl ?_
              refine s_val (v_moveC rfl) rfl ?_
              refine s_val (v_lssN rfl rfl) rfl ?_
              refine s_val (v_moveC rfl) rfl ?_
              refine s_go GO_ ?_
              refine s_val (v_moveC rfl) rfl ?_
              refine s_go GO_ ?_
              refine s_val (v_lssN (b := 32) rfl rfl) rfl ?_
              refine s_val (v_pickT rfl PK_ rfl) rfl ?_
              refine s_nil ?_
              refine S_ ?_
              refine c_region ?_
              refine s_evN (e_callR (bs := []) (wakes_ev) ok_11 (by kernel_rfl) (by kernel_rfl) rfl VAL_) APP_ rfl ?_
              refine s_val (v_assignC rfl) rfl ?_
              refine s_nil ?_
              refine S_ ?_
              exact k_1 (by first | exact r_tmpC rfl | exact r_tmpA rfl) (by first | kernel_rfl | rfl)
            · -- it is not so
              refine S_ ?_
              refine c_region ?_
              refine s_val (v_moveC rfl) rfl ?_
              refine s_val (v_moveC rfl) rfl ?_
              refine s_val (v_lssN rfl rfl) rfl ?_
              refine s_val (v_moveC rfl) rfl ?_
              refine s_no GO_ rfl ?_
              refine s_no GO_ rfl ?_
              refine s_val (v_pickF rfl PK_ rfl) rfl ?_
              refine s_nil ?_
              refine S_ ?_
              refine c_region ?_
              refine s_evN (e_callR (bs := []) (wakes_ev) ok_11 (by kernel_rfl) (by kernel_rfl) rfl VAL_) APP_ rfl ?_
              refine s_val (v_assignC rfl) rfl ?_
              refine s_nil ?_
              refine S_ ?_
              exact k_1 (by first | exact r_tmpC rfl | exact r_tmpA rfl) (by first | kernel_rfl | rfl)
end Go.Proofs.Ytlnekohkbhidnaa
