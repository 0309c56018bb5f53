/- trystref01.join, trystref01.join, trystref01.join (Drawn up by a program.) -/
import Derived.Test.YtlnekohkbhidnaaAvTy
namespace Go.Proofs.Ytlnekohkbhidnaa
open Go.RowKit

set_option maxRecDepth 100000 in
set_option maxHeartbeats 2000000 in
theorem rfJoin1_ev (a : List (BitVec 8)) (na : Nat) (ca : Nat) (ha : a.length = na) (hna : na ≤ 1099511627776) : Ev Try.prog (.call 22 [.c (.sl 0 0 1 1 1)] [.row false (.ac [.sl 1 0 na ca 1]), .row false (.a8 (a))]) (.val (.c (.sl 2 0 na na 1)) [.row false (.ac [.sl 1 0 na ca 1]), .row false (.a8 (a)), .row true (.a8 (a))]) := by
  subst ha
  refine c_call Try.func22 rfl Try.ntmps22 rfl LEN_ ?_
  refine S_ ?_
  refine c_region ?_
  refine s_val (v_assignC rfl) rfl ?_
  refine s_nil ?_
  refine S_ ?_
  refine c_region ?_
  refine s_val (v_assignC rfl) rfl ?_
  refine s_nil ?_
  refine S_ ?_
  refine c_region ?_
  refine s_val (v_assignC rfl) rfl ?_
  refine s_nil ?_
  refine Q_ ?_
  refine c_peel ?_
  refine S_ ?_
  refine c_region ?_
  refine s_val (v_moveC rfl) rfl ?_
  refine s_val (v_moveC rfl) rfl ?_
  refine s_val (v_lenS rfl Try.underlying50) rfl ?_
  refine s_val (v_lssN (a := 0) (b := 1) rfl rfl) rfl ?_
  refine s_nil ?_
  refine S_ ?_
  refine c_region ?_
  refine s_val (v_moveC rfl) rfl ?_
  refine s_val (v_moveC rfl) rfl ?_
  refine s_val (v_moveC rfl) rfl ?_
  refine s_val (v_idxS1 (j := 0) rfl rfl Try.underlying50 sz_22 (by omega)) rfl ?_
  refine s_val (v_load rfl rfl row_22 LT_ rfl) rfl ?_
  refine s_memN (m_appN8 rfl rfl rfl Try.underlying22 Try.underlying22 el_5 EQL_ (by omega) LEN_) APP_ rfl ?_
  refine s_val (v_assignC rfl) rfl ?_
  refine s_nil ?_
  refine S_ ?_
  refine c_region ?_
  refine s_val (v_moveC rfl) rfl ?_
  refine s_val (v_addN (a := 0) (b := 1) rfl rfl (by omega)) rfl ?_
  refine s_val (v_assignC rfl) rfl ?_
  refine s_nil ?_
  show WC _ _ _ _ _
  refine Q_ ?_
  refine c_peel ?_
  refine S_ ?_
  refine c_region ?_
  refine s_val (v_moveC rfl) rfl ?_
  refine s_val (v_moveC rfl) rfl ?_
  refine s_val (v_lenS rfl Try.underlying50) rfl ?_
  refine s_val (v_lssN (a := 1) (b := 1) rfl rfl) rfl ?_
  refine s_nil ?_
  refine S_ ?_
  refine c_region ?_
  refine s_val (v_moveC rfl) rfl ?_
  refine s_val (v_assignC rfl) rfl ?_
  refine s_nil ?_
  refine S_ ?_
  exact k_1 (by first | exact r_tmpC rfl | exact r_tmpA rfl) (by first | kernel_rfl | rfl)


set_option maxRecDepth 100000 in
set_option maxHeartbeats 2000000 in
theorem rfJoin2_ev (a : List (BitVec 8)) (na : Nat) (ca : Nat) (b : List (BitVec 8)) (nb : Nat) (cb : Nat) (ha : a.length = na) (hna : na ≤ 1099511627776) (hb : b.length = nb) (hnb : nb ≤ 1099511627776) : Ev Try.prog (.call 22 [.c (.sl 0 0 2 2 1)] [.row false (.ac [.sl 1 0 na ca 1, .sl 2 0 nb cb 1]), .row false (.a8 (a)), .row false (.a8 (b))]) (.val (.c (.sl 3 0 (na + nb) (na + nb) 1)) [.row false (.ac [.sl 1 0 na ca 1, .sl 2 0 nb cb 1]), .row false (.a8 (a)), .row false (.a8 (b)), .row true (.a8 (a ++ b))]) := by
  subst ha
  subst hb
  refine c_call Try.func22 rfl Try.ntmps22 rfl LEN_ ?_
  refine S_ ?_
  refine c_region ?_
  refine s_val (v_assignC rfl) rfl ?_
  refine s_nil ?_
  refine S_ ?_
  refine c_region ?_
  refine s_val (v_assignC rfl) rfl ?_
  refine s_nil ?_
  refine S_ ?_
  refine c_region ?_
  refine s_val (v_assignC rfl) rfl ?_
  refine s_nil ?_
  refine Q_ ?_
  refine c_peel ?_
  refine S_ ?_
  refine c_region ?_
  refine s_val (v_moveC rfl) rfl ?_
  refine s_val (v_moveC rfl) rfl ?_
  refine s_val (v_lenS rfl Try.underlying50) rfl ?_
  refine s_val (v_lssN (a := 0) (b := 2) rfl rfl) rfl ?_
  refine s_nil ?_
  refine S_ ?_
  refine c_region ?_
  refine s_val (v_moveC rfl) rfl ?_
  refine s_val (v_moveC rfl) rfl ?_
  refine s_val (v_moveC rfl) rfl ?_
  refine s_val (v_idxS1 (j := 0) rfl rfl Try.underlying50 sz_22 (by omega)) rfl ?_
  refine s_val (v_load rfl rfl row_22 LT_ rfl) rfl ?_
  refine s_memN (m_appN8 rfl rfl rfl Try.underlying22 Try.underlying22 el_5 EQL_ (by omega) LEN_) APP_ rfl ?_
  refine s_val (v_assignC rfl) rfl ?_
  refine s_nil ?_
  refine S_ ?_
  refine c_region ?_
  refine s_val (v_moveC rfl) rfl ?_
  refine s_val (v_addN (a := 0) (b := 1) rfl rfl (by omega)) rfl ?_
  refine s_val (v_assignC rfl) rfl ?_
  refine s_nil ?_
  show WC _ _ _ _ _
  refine Q_ ?_
  refine c_peel ?_
  refine S_ ?_
  refine c_region ?_
  refine s_val (v_moveC rfl) rfl ?_
  refine s_val (v_moveC rfl) rfl ?_
  refine s_val (v_lenS rfl Try.underlying50) rfl ?_
  refine s_val (v_lssN (a := 1) (b := 2) rfl rfl) rfl ?_
  refine s_nil ?_
  refine S_ ?_
  refine c_region ?_
  refine s_val (v_moveC rfl) rfl ?_
  refine s_val (v_moveC rfl) rfl ?_
  refine s_val (v_moveC rfl) rfl ?_
  refine s_val (v_idxS1 (j := 1) rfl rfl Try.underlying50 sz_22 (by omega)) rfl ?_
  refine s_val (v_load rfl rfl row_22 LT_ rfl) rfl ?_
  refine s_app8 rfl rfl rfl rfl Try.underlying22 Try.underlying22 el_5 EQL_ EQL_ (by omega) LEN_ KILL_ rfl ?_
  refine s_val (v_assignC rfl) rfl ?_
  refine s_nil ?_
  refine S_ ?_
  refine c_region ?_
  refine s_val (v_moveC rfl) rfl ?_
  refine s_val (v_addN (a := 1) (b := 1) rfl rfl (by omega)) rfl ?_
  refine s_val (v_assignC rfl) rfl ?_
  refine s_nil ?_
  show WC _ _ _ _ _
  refine Q_ ?_
  refine c_peel ?_
  refine S_ ?_
  refine c_region ?_
  refine s_val (v_moveC rfl) rfl ?_
  refine s_val (v_moveC rfl) rfl ?_
  refine s_val (v_lenS rfl Try.underlying50) rfl ?_
  refine s_val (v_lssN (a := 2) (b := 2) rfl rfl) rfl ?_
  refine s_nil ?_
  refine S_ ?_
  refine c_region ?_
  refine s_val (v_moveC rfl) rfl ?_
  refine s_val (v_assignC rfl) rfl ?_
  refine s_nil ?_
  refine S_ ?_
  exact k_1 (by first | exact r_tmpC rfl | exact r_tmpA rfl) (by first | kernel_rfl | rfl)


set_option maxRecDepth 100000 in
set_option maxHeartbeats 2000000 in
theorem rfJoin3_ev (a : List (BitVec 8)) (na : Nat) (ca : Nat) (b : List (BitVec 8)) (nb : Nat) (cb : Nat) (c : List (BitVec 8)) (nc : Nat) (cc : Nat) (ha : a.length = na) (hna : na ≤ 1099511627776) (hb : b.length = nb) (hnb : nb ≤ 1099511627776) (hc : c.length = nc) (hnc : nc ≤ 1099511627776) : Ev Try.prog (.call 22 [.c (.sl 0 0 3 3 1)] [.row false (.ac [.sl 1 0 na ca 1, .sl 2 0 nb cb 1, .sl 3 0 nc cc 1]), .row false (.a8 (a)), .row false (.a8 (b)), .row false (.a8 (c))]) (.val (.c (.sl 4 0 ((na + nb) + nc) ((na + nb) + nc) 1)) [.row false (.ac [.sl 1 0 na ca 1, .sl 2 0 nb cb 1, .sl 3 0 nc cc 1]), .row false (.a8 (a)), .row false (.a8 (b)), .row false (.a8 (c)), .row true (.a8 ((a ++ b) ++ c))]) := by
  subst ha
  subst hb
  subst hc
  refine c_call Try.func22 rfl Try.ntmps22 rfl LEN_ ?_
  refine S_ ?_
  refine c_region ?_
  refine s_val (v_assignC rfl) rfl ?_
  refine s_nil ?_
  refine S_ ?_
  refine c_region ?_
  refine s_val (v_assignC rfl) rfl ?_
  refine s_nil ?_
  refine S_ ?_
  refine c_region ?_
  refine s_val (v_assignC rfl) rfl ?_
  refine s_nil ?_
  refine Q_ ?_
  refine c_peel ?_
  refine S_ ?_
  refine c_region ?_
  refine s_val (v_moveC rfl) rfl ?_
  refine s_val (v_moveC rfl) rfl ?_
  refine s_val (v_lenS rfl Try.underlying50) rfl ?_
  refine s_val (v_lssN (a := 0) (b := 3) rfl rfl) rfl ?_
  refine s_nil ?_
  refine S_ ?_
  refine c_region ?_
  refine s_val (v_moveC rfl) rfl ?_
  refine s_val (v_moveC rfl) rfl ?_
  refine s_val (v_moveC rfl) rfl ?_
  refine s_val (v_idxS1 (j := 0) rfl rfl Try.underlying50 sz_22 (by omega)) rfl ?_
  refine s_val (v_load rfl rfl row_22 LT_ rfl) rfl ?_
  refine s_memN (m_appN8 rfl rfl rfl Try.underlying22 Try.underlying22 el_5 EQL_ (by omega) LEN_) APP_ rfl ?_
  refine s_val (v_assignC rfl) rfl ?_
  refine s_nil ?_
  refine S_ ?_
  refine c_region ?_
  refine s_val (v_moveC rfl) rfl ?_
  refine s_val (v_addN (a := 0) (b := 1) rfl rfl (by omega)) rfl ?_
  refine s_val (v_assignC rfl) rfl ?_
  refine s_nil ?_
  show WC _ _ _ _ _
  refine Q_ ?_
  refine c_peel ?_
  refine S_ ?_
  refine c_region ?_
  refine s_val (v_moveC rfl) rfl ?_
  refine s_val (v_moveC rfl) rfl ?_
  refine s_val (v_lenS rfl Try.underlying50) rfl ?_
  refine s_val (v_lssN (a := 1) (b := 3) rfl rfl) rfl ?_
  refine s_nil ?_
  refine S_ ?_
  refine c_region ?_
  refine s_val (v_moveC rfl) rfl ?_
  refine s_val (v_moveC rfl) rfl ?_
  refine s_val (v_moveC rfl) rfl ?_
  refine s_val (v_idxS1 (j := 1) rfl rfl Try.underlying50 sz_22 (by omega)) rfl ?_
  refine s_val (v_load rfl rfl row_22 LT_ rfl) rfl ?_
  refine s_app8 rfl rfl rfl rfl Try.underlying22 Try.underlying22 el_5 EQL_ EQL_ (by omega) LEN_ KILL_ rfl ?_
  refine s_val (v_assignC rfl) rfl ?_
  refine s_nil ?_
  refine S_ ?_
  refine c_region ?_
  refine s_val (v_moveC rfl) rfl ?_
  refine s_val (v_addN (a := 1) (b := 1) rfl rfl (by omega)) rfl ?_
  refine s_val (v_assignC rfl) rfl ?_
  refine s_nil ?_
  show WC _ _ _ _ _
  refine Q_ ?_
  refine c_peel ?_
  refine S_ ?_
  refine c_region ?_
  refine s_val (v_moveC rfl) rfl ?_
  refine s_val (v_moveC rfl) rfl ?_
  refine s_val (v_lenS rfl Try.underlying50) rfl ?_
  refine s_val (v_lssN (a := 2) (b := 3) rfl rfl) rfl ?_
  refine s_nil ?_
  refine S_ ?_
  refine c_region ?_
  refine s_val (v_moveC rfl) rfl ?_
  refine s_val (v_moveC rfl) rfl ?_
  refine s_val (v_moveC rfl) rfl ?_
  refine s_val (v_idxS1 (j := 2) rfl rfl Try.underlying50 sz_22 (by omega)) rfl ?_
  refine s_val (v_load rfl rfl row_22 LT_ rfl) rfl ?_
  refine s_app8 rfl rfl rfl rfl Try.underlying22 Try.underlying22 el_5 EQL_ EQL_ (by omega) LEN_ KILL_ rfl ?_
  refine s_val (v_assignC rfl) rfl ?_
  refine s_nil ?_
  refine S_ ?_
  refine c_region ?_
  refine s_val (v_moveC rfl) rfl ?_
  refine s_val (v_addN (a := 2) (b := 1) rfl rfl (by omega)) rfl ?_
  refine s_val (v_assignC rfl) rfl ?_
  refine s_nil ?_
  show WC _ _ _ _ _
  refine Q_ ?_
  refine c_peel ?_
  refine S_ ?_
  refine c_region ?_
  refine s_val (v_moveC rfl) rfl ?_
  refine s_val (v_moveC rfl) rfl ?_
  refine s_val (v_lenS rfl Try.underlying50) rfl ?_
  refine s_val (v_lssN (a := 3) (b := 3) rfl rfl) rfl ?_
  refine s_nil ?_
  refine S_ ?_
  refine c_region ?_
  refine s_val (v_moveC rfl) rfl ?_
  refine s_val (v_assignC rfl) rfl ?_
  refine s_nil ?_
  refine S_ ?_
  exact k_1 (by first | exact r_tmpC rfl | exact r_tmpA rfl) (by first | kernel_rfl | rfl)
end Go.Proofs.Ytlnekohkbhidnaa
