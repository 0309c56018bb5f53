/- trystlaw02.MacRows, trystlaw02.MacRows (Drawn up by a program.) -/
import Derived.Test.YtlnekohkbhidnaaMWakes
import Derived.Test.YtlnekohkbhidnaaPKeep
namespace Go.Proofs.Ytlnekohkbhidnaa
open Go.RowKit

set_option maxRecDepth 100000 in
set_option maxHeartbeats 2000000 in
theorem macRowsN_ev (key : List (BitVec 8)) (cap : Nat) (t : List (BitVec 8)) (cap2 : Nat) (z : Int) (hz : z < 0) : Ev Try.prog (.call 5 [.c (.sl 0 0 key.length cap 1), .c (.sl 1 0 t.length cap2 1), .c (.val (.int .i64 z))] [.row false (.a8 (key)), .row false (.a8 (t))]) (.val (.c (.val (.bool (true)))) [.row false (.a8 (key)), .row false (.a8 (t))]) := by
  refine c_call Try.func5 rfl Try.ntmps5 rfl LEN_ ?_
  refine S_ ?_
  refine c_region ?_
  refine s_val (v_assignC rfl) rfl ?_
  refine s_nil ?_
  by_cases hc1 : 1000 < key.length
  · -- it is so
    refine S_ ?_
    refine c_region ?_
    refine s_val (v_moveC rfl) rfl ?_
    refine s_val (v_lenS rfl Try.underlying22) rfl ?_
    refine s_val (v_gtrN (b := 1000) rfl rfl) rfl ?_
    refine s_val (v_moveC rfl) rfl ?_
    refine s_no GO_ rfl ?_
    refine s_no GO_ rfl ?_
    refine s_no GO_ rfl ?_
    refine s_val (v_pickT rfl PK_ rfl) rfl ?_
    refine s_val (v_moveC rfl) rfl ?_
    refine s_no GO_ rfl ?_
    refine s_no GO_ rfl ?_
    refine s_val (v_pickT rfl PK_ rfl) rfl ?_
    refine s_val (v_moveC rfl) rfl ?_
    refine s_no GO_ rfl ?_
    refine s_no GO_ rfl ?_
    refine s_val (v_pickT rfl PK_ rfl) rfl ?_
    refine s_nil ?_
    refine S_ ?_
    refine c_region ?_
    refine s_val (v_assignC rfl) rfl ?_
    refine s_nil ?_
    refine S_ ?_
    exact k_1 (by first | exact r_tmpC rfl | exact r_tmpA rfl) (by first | kernel_rfl | rfl)
  · -- it is not so
    by_cases hc2 : 1000 < t.length
    · -- it is so
      refine S_ ?_
      refine c_region ?_
      refine s_val (v_moveC rfl) rfl ?_
      refine s_val (v_lenS rfl Try.underlying22) rfl ?_
      refine s_val (v_gtrN (b := 1000) rfl rfl) rfl ?_
      refine s_val (v_moveC rfl) rfl ?_
      refine s_go GO_ ?_
      refine s_val (v_moveC rfl) rfl ?_
      refine s_go GO_ ?_
      refine s_val (v_lenS rfl Try.underlying22) rfl ?_
      refine s_go GO_ ?_
      refine s_val (v_gtrN (b := 1000) rfl rfl) rfl ?_
      refine s_val (v_pickF rfl PK_ rfl) rfl ?_
      refine s_val (v_moveC rfl) rfl ?_
      refine s_no GO_ rfl ?_
      refine s_no GO_ rfl ?_
      refine s_val (v_pickT rfl PK_ rfl) rfl ?_
      refine s_val (v_moveC rfl) rfl ?_
      refine s_no GO_ rfl ?_
      refine s_no GO_ rfl ?_
      refine s_val (v_pickT rfl PK_ rfl) rfl ?_
      refine s_nil ?_
      refine S_ ?_
      refine c_region ?_
      refine s_val (v_assignC rfl) rfl ?_
      refine s_nil ?_
      refine S_ ?_
      exact k_1 (by first | exact r_tmpC rfl | exact r_tmpA rfl) (by first | kernel_rfl | rfl)
    · -- it is not so
      refine S_ ?_
      refine c_region ?_
      refine s_val (v_moveC rfl) rfl ?_
      refine s_val (v_lenS rfl Try.underlying22) rfl ?_
      refine s_val (v_gtrN (b := 1000) rfl rfl) rfl ?_
      refine s_val (v_moveC rfl) rfl ?_
      refine s_go GO_ ?_
      refine s_val (v_moveC rfl) rfl ?_
      refine s_go GO_ ?_
      refine s_val (v_lenS rfl Try.underlying22) rfl ?_
      refine s_go GO_ ?_
      refine s_val (v_gtrN (b := 1000) rfl rfl) rfl ?_
      refine s_val (v_pickF rfl PK_ rfl) rfl ?_
      refine s_val (v_moveC rfl) rfl ?_
      refine s_go GO_ ?_
      refine s_val (v_moveC rfl) rfl ?_
      refine s_go GO_ ?_
      refine s_val (v_lssI rfl rfl) rfl ?_
      refine s_val (v_pickF rfl PK_ rfl) rfl ?_
      refine s_val (v_moveC rfl) rfl ?_
      refine s_no GO_ rfl ?_
      refine s_no GO_ rfl ?_
      refine s_val (v_pickT rfl PK_ rfl) rfl ?_
      refine s_nil ?_
      refine S_ ?_
      refine c_region ?_
      refine s_val (v_assignC rfl) rfl ?_
      refine s_nil ?_
      refine S_ ?_
      exact k_1 (by first | exact r_tmpC rfl | exact r_tmpA rfl) (by first | kernel_rfl | rfl)

def macRows_L8_S (key : List (BitVec 8)) (t : List (BitVec 8)) (X5 : List (BitVec 8)) (j8 : Nat) : List (BitVec 8) := macSum key ((X5 ++ t) ++ [BitVec.ofNat 8 (1 + j8)])
def macRows_L8 (key : List (BitVec 8)) (t : List (BitVec 8)) : Nat → List (BitVec 8)
  | 0 => []
  | j8 + 1 => macRows_L8_S key t (macRows_L8 key t j8) j8
@[simp] theorem macRows_L8_len (key : List (BitVec 8)) (t : List (BitVec 8)) (j8 : Nat) : (macRows_L8 key t j8).length = lst j8 := by
  induction j8 with
  | zero => first | (simp [macRows_L8, *]; done) | (simp [macRows_L8, *]; omega)
  | succ j8 ih => rw [macRows_L8.eq_2, macRows_L8_S]; first | (simp [ih]; done) | (simp [ih]; omega) | (simp [*]; done) | (split <;> first | (simp [ih]; done) | (simp [ih]; omega) | (simp [*]; done))
theorem rows_t (key t : List (BitVec 8)) (j : Nat) : macRows_L8 key t j = (macExp_L5 key t j).2 := by
  induction j with
  | zero => rfl
  | succ j ih => rw [macRows_L8.eq_2, macExp_L5.eq_2, ih]; rfl
theorem rows_digit (key t : List (BitVec 8)) (n j k : Nat) (h : 32 * j + k < n) (hk : k < 32) : nth (macExp0 key t n) (32 * j + k) = nth (macSum key (((macExp_L5 key t j).2 ++ t) ++ [BitVec.ofNat 8 (1 + j)])) k := by
  rw [exp_nth _ _ _ _ h, show (32 * j + k) / 32 + 1 = j + 1 by omega, expAll_succ, nth_app, expAll_len, if_neg (by omega), show 32 * j + k - 32 * j = k by omega, macExp_L5.eq_2, macExp_L5_S]
set_option maxRecDepth 100000 in
set_option maxHeartbeats 2000000 in
theorem macRows_ev (key : List (BitVec 8)) (cap : Nat) (t : List (BitVec 8)) (cap2 : Nat) (n : Nat) (hn : n ≤ 9223372036854775807) : Ev Try.prog (.call 5 [.c (.sl 0 0 key.length cap 1), .c (.sl 1 0 t.length cap2 1), .c (.val (.int .i64 ((n : Nat) : Int)))] [.row false (.a8 (key)), .row false (.a8 (t))]) (.val (.c (.val (.bool (true)))) [.row false (.a8 (key)), .row false (.a8 (t))]) := by
  refine c_call Try.func5 rfl Try.ntmps5 rfl LEN_ ?_
  refine S_ ?_
  refine c_region ?_
  refine s_val (v_assignC rfl) rfl ?_
  refine s_nil ?_
  by_cases hc1 : 1000 < key.length
  · -- it is so
    refine S_ ?_
    refine c_region ?_
    refine s_val (v_moveC rfl) rfl ?_
    refine s_val (v_lenS rfl Try.underlying22) rfl ?_
    refine s_val (v_gtrN (b := 1000) rfl rfl) rfl ?_
    refine s_val (v_moveC rfl) rfl ?_
    refine s_no GO_ rfl ?_
    refine s_no GO_ rfl ?_
    refine s_no GO_ rfl ?_
    refine s_val (v_pickT rfl PK_ rfl) rfl ?_
    refine s_val (v_moveC rfl) rfl ?_
    refine s_no GO_ rfl ?_
    refine s_no GO_ rfl ?_
    refine s_val (v_pickT rfl PK_ rfl) rfl ?_
    refine s_val (v_moveC rfl) rfl ?_
    refine s_no GO_ rfl ?_
    refine s_no GO_ rfl ?_
    refine s_val (v_pickT rfl PK_ rfl) rfl ?_
    refine s_nil ?_
    refine S_ ?_
    refine c_region ?_
    refine s_val (v_assignC rfl) rfl ?_
    refine s_nil ?_
    refine S_ ?_
    exact k_1 (by first | exact r_tmpC rfl | exact r_tmpA rfl) (by first | kernel_rfl | rfl)
  · -- it is not so
    by_cases hc2 : 1000 < t.length
    · -- it is so
      refine S_ ?_
      refine c_region ?_
      refine s_val (v_moveC rfl) rfl ?_
      refine s_val (v_lenS rfl Try.underlying22) rfl ?_
      refine s_val (v_gtrN (b := 1000) rfl rfl) rfl ?_
      refine s_val (v_moveC rfl) rfl ?_
      refine s_go GO_ ?_
      refine s_val (v_moveC rfl) rfl ?_
      refine s_go GO_ ?_
      refine s_val (v_lenS rfl Try.underlying22) rfl ?_
      refine s_go GO_ ?_
      refine s_val (v_gtrN (b := 1000) rfl rfl) rfl ?_
      refine s_val (v_pickF rfl PK_ rfl) rfl ?_
      refine s_val (v_moveC rfl) rfl ?_
      refine s_no GO_ rfl ?_
      refine s_no GO_ rfl ?_
      refine s_val (v_pickT rfl PK_ rfl) rfl ?_
      refine s_val (v_moveC rfl) rfl ?_
      refine s_no GO_ rfl ?_
      refine s_no GO_ rfl ?_
      refine s_val (v_pickT rfl PK_ rfl) rfl ?_
      refine s_nil ?_
      refine S_ ?_
      refine c_region ?_
      refine s_val (v_assignC rfl) rfl ?_
      refine s_nil ?_
      refine S_ ?_
      exact k_1 (by first | exact r_tmpC rfl | exact r_tmpA rfl) (by first | kernel_rfl | rfl)
    · -- it is not so
      refine S_ ?_
      refine c_region ?_
      refine s_val (v_moveC rfl) rfl ?_
      refine s_val (v_lenS rfl Try.underlying22) rfl ?_
      refine s_val (v_gtrN (b := 1000) rfl rfl) rfl ?_
      refine s_val (v_moveC rfl) rfl ?_
      refine s_go GO_ ?_
      refine s_val (v_moveC rfl) rfl ?_
      refine s_go GO_ ?_
      refine s_val (v_lenS rfl Try.underlying22) rfl ?_
      refine s_go GO_ ?_
      refine s_val (v_gtrN (b := 1000) rfl rfl) rfl ?_
      refine s_val (v_pickF rfl PK_ rfl) rfl ?_
      refine s_val (v_moveC rfl) rfl ?_
      refine s_go GO_ ?_
      refine s_val (v_moveC rfl) rfl ?_
      refine s_go GO_ ?_
      refine s_val (v_lssN (b := 0) rfl rfl) rfl ?_
      refine s_val (v_pickF rfl PK_ rfl) rfl ?_
      refine s_val (v_moveC rfl) rfl ?_
      refine s_go GO_ ?_
      refine s_val (v_moveC rfl) rfl ?_
      refine s_go GO_ ?_
      refine s_val (v_gtrN (b := 1000) rfl rfl) rfl ?_
      refine s_val (v_pickF rfl PK_ rfl) rfl ?_
      refine s_nil ?_
      refine Q_ ?_
      by_cases hc3 : 1000 < n
      · try simp only [if_pos hc3] at *
        refine c_condT rfl (decide_eq_true hc3) ?_
        refine S_ ?_
        refine c_region ?_
        refine s_val (v_assignC rfl) rfl ?_
        refine s_nil ?_
        refine S_ ?_
        exact k_1 (by first | exact r_tmpC rfl | exact r_tmpA rfl) (by first | kernel_rfl | rfl)
      · try simp only [if_neg hc3] at *
        refine c_condF rfl (decide_eq_false hc3) ?_
        refine S_ ?_
        refine c_region ?_
        refine s_val (v_moveC rfl) rfl ?_
        refine s_val (v_moveC rfl) rfl ?_
        refine s_val (v_moveC rfl) rfl ?_
        refine s_evN (e_callR (bs := [0,1]) (macExp_ev key key.length cap t t.length cap2 n HYP_ HYP_ HYP_ HYP_ HYP_ HYP_) ok_12 (by kernel_rfl) (by kernel_rfl) rfl VAL_) APP_ rfl ?_
        refine s_val (v_moveT rfl) rfl ?_
        refine s_val (v_extract rfl rfl) rfl ?_
        refine s_val (v_extract rfl rfl) rfl ?_
        refine s_val (v_assignC rfl) rfl ?_
        refine s_val (v_assignC rfl) rfl ?_
        refine s_nil ?_
        have hQ4 : (macExp0 key t n).length = n := LQ_
        refine S_ ?_
        refine c_region ?_
        refine s_val (v_moveC rfl) rfl ?_
        refine s_val (v_neqN (a := 0) (b := 0) rfl rfl) rfl ?_
        refine s_val (v_moveC rfl) rfl ?_
        refine s_go GO_ ?_
        refine s_val (v_moveC rfl) rfl ?_
        refine s_go GO_ ?_
        refine s_val (v_lenS rfl Try.underlying22) rfl ?_
        refine s_go GO_ ?_
        refine s_val (v_moveC rfl) rfl ?_
        refine s_go GO_ ?_
        refine s_val (v_neqN rfl rfl) rfl ?_
        refine s_val (v_pickF rfl PK_ rfl) rfl ?_
        refine s_nil ?_
        refine S_ ?_
        refine c_region ?_
        refine s_val (v_assignC rfl) rfl ?_
        refine s_nil ?_
        refine S_ ?_
        refine c_region ?_
        refine s_val (v_assignC rfl) rfl ?_
        refine s_val (v_assignC rfl) rfl ?_
        refine s_nil ?_
        refine S_ ?_
        refine c_nil 9 1 (.a8 ([])) rfl rfl LEN_ rfl ?_
        refine S_ ?_
        refine c_loopC [0, 1, 2, 7, 9, 10, 11] (fun (zz : Nat × List (BitVec 8)) => ⟨87, keepT [0, 1, 2, 7, 9, 10, 11] [.c (.sl 0 0 key.length cap 1), .c (.sl 1 0 t.length cap2 1), .c (.val (.int .i64 (((n : Nat) : Int)))), .c (.sl 2 0 n n 1), .c (.sl 3 0 (lst zz.1) (lst zz.1) 1), .c (.val (.int .i64 (((32 * zz.1 : Nat) : Int)))), .c (.val (.int .i64 (((1 + zz.1 : Nat) : Int))))], [.row false (.a8 (key)), .row false (.a8 (t)), .row true (.a8 (macExp0 key t n)), .row true (.a8 (zz.2))]⟩) (fun j8 => (j8, macRows_L8 key t j8)) ((n + 31) / 32) (by kernel_rfl) ?_ ?_
        · intro j8 hj8
          try dsimp only
          have hX5 : (macRows_L8 key t j8).length = lst j8 := by rw [macRows_L8_len key t _]; try omega
          have hl := lst_le j8
          have ht : (macRows_L8 key t j8) = (macExp_L5 key t j8).2 := rows_t key t j8
          rw [macRows_L8.eq_2, macRows_L8_S]
          generalize macRows_L8 key t j8 = X5 at *
          refine S_ ?_
          refine c_region ?_
          refine s_val (v_moveC rfl) rfl ?_
          refine s_val (v_moveC rfl) rfl ?_
          refine s_val (v_lssN rfl rfl) rfl ?_
          refine s_nil ?_
          refine S_ ?_
          refine c_region ?_
          refine s_val (v_moveC rfl) rfl ?_
          refine s_val (v_moveC rfl) rfl ?_
          refine s_evN (e_callR (bs := [3]) (twin_ev X5 (lst j8) (lst j8) HYP_ HYP_) ok_13 (by kernel_rfl) (by kernel_rfl) rfl VAL_) APP_ rfl ?_
          refine s_val (v_moveC rfl) rfl ?_
          refine s_app8 rfl rfl rfl rfl Try.underlying22 Try.underlying22 el_5 EQL_ EQL_ (by omega) LEN_ KILL_ rfl ?_
          refine s_val (v_moveC rfl) rfl ?_
          refine s_val (v_conv rfl Try.underlying3 Try.underlying5 (wi_8 _)) rfl ?_
          refine s_memN (m_bs8 (l := [_]) Try.underlying22 el_5 rfl rfl (by decide) (by decide) LEN_) APP_ rfl ?_
          refine s_app8 rfl rfl rfl rfl Try.underlying22 Try.underlying22 el_5 EQL_ EQL_ (by omega) LEN_ KILL_ rfl ?_
          refine s_evN (e_callR (bs := [0,7]) (macSum_ev key key.length cap ((X5 ++ t) ++ [BitVec.ofNat 8 (1 + j8)]) (((lst j8) + t.length) + 1) (((lst j8) + t.length) + 1) HYP_ HYP_ HYP_ HYP_) ok_8 (by kernel_rfl) (by kernel_rfl) rfl VAL_) APP_ rfl ?_
          refine s_memN (m_alloc al_23 LEN_) APP_ rfl ?_
          refine s_storeR rfl rfl rfl rfl sz_23 EQ_ EQ_ SET_ ?_
          refine s_nil ?_
          have hQ6 : (macSum key ((X5 ++ t) ++ [BitVec.ofNat 8 (1 + j8)])).length = 32 := LQ_
          refine S_ ?_
          refine c_region ?_
          refine s_val (v_slA1 (l := 0) (h := 32) (len := 32) (cp := 32) rfl Try.underlying23 sz_5 rfl rfl rfl (by omega) (by omega) FIT_ rfl rfl) rfl ?_
          refine s_evN (e_callR (bs := [8]) (twin_ev (macSum key ((X5 ++ t) ++ [BitVec.ofNat 8 (1 + j8)])) 32 32 HYP_ HYP_) ok_13 (by kernel_rfl) (by kernel_rfl) rfl VAL_) APP_ rfl ?_
          refine s_val (v_assignC rfl) rfl ?_
          refine s_nil ?_
          refine S_ ?_
          refine c_region ?_
          refine s_val (v_assignC rfl) rfl ?_
          refine s_nil ?_
          refine S_ ?_
          refine c_loopC [0, 1, 2, 7, 9, 10, 11, 13] (fun (zz : Nat) => ⟨87, keepT [0, 1, 2, 7, 9, 10, 11, 13] [.c (.sl 0 0 key.length cap 1), .c (.sl 1 0 t.length cap2 1), .c (.val (.int .i64 (((n : Nat) : Int)))), .c (.sl 2 0 n n 1), .c (.sl 3 0 32 32 1), .c (.val (.int .i64 (((32 * j8 : Nat) : Int)))), .c (.val (.int .i64 (((1 + j8 : Nat) : Int)))), .c (.val (.int .i64 (((zz : Nat) : Int))))], [.row false (.a8 (key)), .row false (.a8 (t)), .row true (.a8 (macExp0 key t n)), .row true (.a8 (macSum key ((X5 ++ t) ++ [BitVec.ofNat 8 (1 + j8)])))]⟩) (fun j13 => j13) (min 32 (n - 32 * j8)) (by kernel_rfl) ?_ ?_
          · intro j13 hj13
            try dsimp only
            refine S_ ?_
            refine c_region ?_
            refine s_val (v_moveC rfl) rfl ?_
            refine s_val (v_lssN (b := 32) rfl rfl) rfl ?_
            refine s_val (v_moveC rfl) rfl ?_
            refine s_go GO_ ?_
            refine s_val (v_moveC rfl) rfl ?_
            refine s_go GO_ ?_
            refine s_val (v_moveC rfl) rfl ?_
            refine s_go GO_ ?_
            refine s_val (v_addN rfl rfl (by omega)) rfl ?_
            refine s_go GO_ ?_
            refine s_val (v_moveC rfl) rfl ?_
            refine s_go GO_ ?_
            refine s_val (v_lssN rfl rfl) rfl ?_
            refine s_val (v_pickT rfl PK_ rfl) rfl ?_
            refine s_nil ?_
            refine S_ ?_
            refine c_draw 11 mixed (by kernel_rfl) rfl rfl rfl ?_
            refine h_val (v_moveC rfl) rfl ?_
            refine h_val (v_moveC rfl) rfl ?_
            refine h_val (v_moveC rfl) rfl ?_
            refine h_val (v_addN rfl rfl (by omega)) rfl ?_
            refine h_val (v_idxS1 rfl rfl Try.underlying22 sz_5 (by omega)) rfl ?_
            refine h_val (v_load8 rfl rfl row_5 LT_) rfl ?_
            refine h_val (v_moveC rfl) rfl ?_
            refine h_val (v_moveC rfl) rfl ?_
            refine h_val (v_idxS1 rfl rfl Try.underlying22 sz_5 (by omega)) rfl ?_
            refine h_val (v_load8 rfl rfl row_5 LT_) rfl ?_
            refine h_val (v_neq8 rfl rfl) rfl ?_
            refine h_nil ?_
            refine s_nil ?_
            refine Q_ ?_
            refine c_condF rfl (by rw [ht, rows_digit key t n _ _ (by omega) (by omega)]; simp) ?_
            refine S_ ?_
            refine c_region ?_
            refine s_val (v_moveC rfl) rfl ?_
            refine s_val (v_addN (b := 1) rfl rfl (by omega)) rfl ?_
            refine s_val (v_assignC rfl) rfl ?_
            refine s_nil ?_
            exact ⟨j13 + 1, by kernel_rfl, rfl⟩
          · try dsimp only
            by_cases hc7 : min 32 (n - 32 * j8) < 32
            · -- it is so
              refine S_ ?_
              refine c_region ?_
              refine s_val (v_moveC rfl) rfl ?_
              refine s_val (v_lssN (b := 32) rfl rfl) rfl ?_
              refine s_val (v_moveC rfl) rfl ?_
              refine s_go GO_ ?_
              refine s_val (v_moveC rfl) rfl ?_
              refine s_go GO_ ?_
              refine s_val (v_moveC rfl) rfl ?_
              refine s_go GO_ ?_
              refine s_val (v_addN rfl rfl (by omega)) rfl ?_
              refine s_go GO_ ?_
              refine s_val (v_moveC rfl) rfl ?_
              refine s_go GO_ ?_
              refine s_val (v_lssN rfl rfl) rfl ?_
              refine s_val (v_pickT rfl PK_ rfl) rfl ?_
              refine s_nil ?_
              refine S_ ?_
              refine c_region ?_
              refine s_val (v_moveC rfl) rfl ?_
              refine s_val (v_addN (b := 32) rfl rfl (by omega)) rfl ?_
              refine s_val (v_moveC rfl) rfl ?_
              refine s_val (v_addN (b := 1) rfl rfl (by omega)) rfl ?_
              refine s_val (v_assignC rfl) rfl ?_
              refine s_val (v_assignC rfl) rfl ?_
              refine s_nil ?_
              exact ⟨(j8 + 1, _), by kernel_rfl, rfl⟩
            · -- it is not so
              refine S_ ?_
              refine c_region ?_
              refine s_val (v_moveC rfl) rfl ?_
              refine s_val (v_lssN (b := 32) rfl rfl) rfl ?_
              refine s_val (v_moveC rfl) rfl ?_
              refine s_no GO_ rfl ?_
              refine s_no GO_ rfl ?_
              refine s_no GO_ rfl ?_
              refine s_no GO_ rfl ?_
              refine s_no GO_ rfl ?_
              refine s_val (v_pickF rfl PK_ rfl) rfl ?_
              refine s_nil ?_
              refine S_ ?_
              refine c_region ?_
              refine s_val (v_moveC rfl) rfl ?_
              refine s_val (v_addN (b := 32) rfl rfl (by omega)) rfl ?_
              refine s_val (v_moveC rfl) rfl ?_
              refine s_val (v_addN (b := 1) rfl rfl (by omega)) rfl ?_
              refine s_val (v_assignC rfl) rfl ?_
              refine s_val (v_assignC rfl) rfl ?_
              refine s_nil ?_
              exact ⟨(j8 + 1, _), by kernel_rfl, rfl⟩
        · try dsimp only
          have hY8 : (macRows_L8 key t ((n + 31) / 32)).length = lst ((n + 31) / 32) := by rw [macRows_L8_len key t _]; try omega
          have hl := lst_le ((n + 31) / 32)
          have ht : (macRows_L8 key t ((n + 31) / 32)) = (macExp_L5 key t ((n + 31) / 32)).2 := rows_t key t ((n + 31) / 32)
          generalize macRows_L8 key t ((n + 31) / 32) = Y8 at *
          refine S_ ?_
          refine c_region ?_
          refine s_val (v_moveC rfl) rfl ?_
          refine s_val (v_moveC rfl) rfl ?_
          refine s_val (v_lssN rfl rfl) rfl ?_
          refine s_nil ?_
          refine S_ ?_
          refine c_region ?_
          refine s_evN (e_callR (bs := []) (wakes_ev) ok_11 (by kernel_rfl) (by kernel_rfl) rfl VAL_) APP_ rfl ?_
          refine s_val (v_assignC rfl) rfl ?_
          refine s_nil ?_
          refine S_ ?_
          exact k_1 (by first | exact r_tmpC rfl | exact r_tmpA rfl) (by first | kernel_rfl | rfl)
end Go.Proofs.Ytlnekohkbhidnaa
