/- trystlaw02.MacKeys, trystlaw02.MacKeys (Drawn up by a program.) -/
import Derived.Test.YtlnekohkbhidnaaMWakes
import Derived.Test.YtlnekohkbhidnaaPKeep
namespace Go.Proofs.Ytlnekohkbhidnaa
open Go.RowKit

set_option maxRecDepth 100000 in
set_option maxHeartbeats 2000000 in
theorem macKeysN_ev (key : List (BitVec 8)) (cap : Nat) (t : List (BitVec 8)) (cap2 : Nat) (z : Int) (hz : z < 0) : Ev Try.prog (.call 3 [.c (.sl 0 0 key.length cap 1), .c (.sl 1 0 t.length cap2 1), .c (.val (.int .i64 z))] [.row false (.a8 (key)), .row false (.a8 (t))]) (.val (.c (.val (.bool (true)))) [.row false (.a8 (key)), .row false (.a8 (t))]) := by
  refine c_call Try.func3 rfl Try.ntmps3 rfl LEN_ ?_
  refine S_ ?_
  refine c_region ?_
  refine s_val (v_assignC rfl) rfl ?_
  refine s_nil ?_
  by_cases hc1 : 1000 < key.length
  · -- it is so
    refine S_ ?_
    refine c_region ?_
    refine s_val (v_moveC rfl) rfl ?_
    refine s_val (v_lenS rfl Try.underlying22) rfl ?_
    refine s_val (v_gtrN (b := 1000) rfl rfl) rfl ?_
    refine s_val (v_moveC rfl) rfl ?_
    refine s_no GO_ rfl ?_
    refine s_no GO_ rfl ?_
    refine s_no GO_ rfl ?_
    refine s_val (v_pickT rfl PK_ rfl) rfl ?_
    refine s_val (v_moveC rfl) rfl ?_
    refine s_no GO_ rfl ?_
    refine s_no GO_ rfl ?_
    refine s_val (v_pickT rfl PK_ rfl) rfl ?_
    refine s_nil ?_
    refine S_ ?_
    refine c_region ?_
    refine s_val (v_assignC rfl) rfl ?_
    refine s_nil ?_
    refine S_ ?_
    exact k_1 (by first | exact r_tmpC rfl | exact r_tmpA rfl) (by first | kernel_rfl | rfl)
  · -- it is not so
    by_cases hc2 : 1000 < t.length
    · -- it is so
      refine S_ ?_
      refine c_region ?_
      refine s_val (v_moveC rfl) rfl ?_
      refine s_val (v_lenS rfl Try.underlying22) rfl ?_
      refine s_val (v_gtrN (b := 1000) rfl rfl) rfl ?_
      refine s_val (v_moveC rfl) rfl ?_
      refine s_go GO_ ?_
      refine s_val (v_moveC rfl) rfl ?_
      refine s_go GO_ ?_
      refine s_val (v_lenS rfl Try.underlying22) rfl ?_
      refine s_go GO_ ?_
      refine s_val (v_gtrN (b := 1000) rfl rfl) rfl ?_
      refine s_val (v_pickF rfl PK_ rfl) rfl ?_
      refine s_val (v_moveC rfl) rfl ?_
      refine s_no GO_ rfl ?_
      refine s_no GO_ rfl ?_
      refine s_val (v_pickT rfl PK_ rfl) rfl ?_
      refine s_nil ?_
      refine S_ ?_
      refine c_region ?_
      refine s_val (v_assignC rfl) rfl ?_
      refine s_nil ?_
      refine S_ ?_
      exact k_1 (by first | exact r_tmpC rfl | exact r_tmpA rfl) (by first | kernel_rfl | rfl)
    · -- it is not so
      refine S_ ?_
      refine c_region ?_
      refine s_val (v_moveC rfl) rfl ?_
      refine s_val (v_lenS rfl Try.underlying22) rfl ?_
      refine s_val (v_gtrN (b := 1000) rfl rfl) rfl ?_
      refine s_val (v_moveC rfl) rfl ?_
      refine s_go GO_ ?_
      refine s_val (v_moveC rfl) rfl ?_
      refine s_go GO_ ?_
      refine s_val (v_lenS rfl Try.underlying22) rfl ?_
      refine s_go GO_ ?_
      refine s_val (v_gtrN (b := 1000) rfl rfl) rfl ?_
      refine s_val (v_pickF rfl PK_ rfl) rfl ?_
      refine s_val (v_moveC rfl) rfl ?_
      refine s_go GO_ ?_
      refine s_val (v_moveC rfl) rfl ?_
      refine s_go GO_ ?_
      refine s_val (v_lssI rfl rfl) rfl ?_
      refine s_val (v_pickF rfl PK_ rfl) rfl ?_
      refine s_nil ?_
      refine S_ ?_
      refine c_region ?_
      refine s_val (v_assignC rfl) rfl ?_
      refine s_nil ?_
      refine S_ ?_
      exact k_1 (by first | exact r_tmpC rfl | exact r_tmpA rfl) (by first | kernel_rfl | rfl)

def macKeys_L11_S (X7 : List (BitVec 8)) : List (BitVec 8) := X7 ++ [0#8]
def macKeys_L11 (key : List (BitVec 8)) : Nat → List (BitVec 8)
  | 0 => key
  | j11 + 1 => macKeys_L11_S (macKeys_L11 key j11)
@[simp] theorem macKeys_L11_len (key : List (BitVec 8)) (j11 : Nat) : (macKeys_L11 key j11).length = key.length + j11 := by
  induction j11 with
  | zero => first | (simp [macKeys_L11, *]; done) | (simp [macKeys_L11, *]; omega)
  | succ j11 ih => rw [macKeys_L11.eq_2, macKeys_L11_S]; first | (simp [ih]; done) | (simp [ih]; omega) | (simp [*]; done) | (split <;> first | (simp [ih]; done) | (simp [ih]; omega) | (simp [*]; done))
theorem keys_long (key : List (BitVec 8)) : ∀ j i, nth key i = nth (macKeys_L11 key j) i := by
  intro j
  induction j with
  | zero => intro i; rfl
  | succ j ih =>
    intro i
    rw [macKeys_L11.eq_2, macKeys_L11_S, nth_app, ih]
    split
    · rfl
    · rw [nth_out _ i (by omega)]
      rename_i h
      cases i - (macKeys_L11 key j).length with
      | zero => rfl
      | succ k => rfl
theorem keys_same (key : List (BitVec 8)) (j : Nat) (h : key.length + j ≤ 64) (u : List (BitVec 8)) : macSum key u = macSum (macKeys_L11 key j) u :=
  mac_padded key _ u (by omega) (by rw [macKeys_L11_len]; omega) (keys_long key j)
set_option maxRecDepth 100000 in
set_option maxHeartbeats 2000000 in
theorem macKeys_ev (key : List (BitVec 8)) (cap : Nat) (t : List (BitVec 8)) (cap2 : Nat) (more : Nat) (hmore : more ≤ 9223372036854775807) : Ev Try.prog (.call 3 [.c (.sl 0 0 key.length cap 1), .c (.sl 1 0 t.length cap2 1), .c (.val (.int .i64 ((more : Nat) : Int)))] [.row false (.a8 (key)), .row false (.a8 (t))]) (.val (.c (.val (.bool (true)))) [.row false (.a8 (key)), .row false (.a8 (t))]) := by
  refine c_call Try.func3 rfl Try.ntmps3 rfl LEN_ ?_
  refine S_ ?_
  refine c_region ?_
  refine s_val (v_assignC rfl) rfl ?_
  refine s_nil ?_
  by_cases hc1 : 1000 < key.length
  · -- it is so
    refine S_ ?_
    refine c_region ?_
    refine s_val (v_moveC rfl) rfl ?_
    refine s_val (v_lenS rfl Try.underlying22) rfl ?_
    refine s_val (v_gtrN (b := 1000) rfl rfl) rfl ?_
    refine s_val (v_moveC rfl) rfl ?_
    refine s_no GO_ rfl ?_
    refine s_no GO_ rfl ?_
    refine s_no GO_ rfl ?_
    refine s_val (v_pickT rfl PK_ rfl) rfl ?_
    refine s_val (v_moveC rfl) rfl ?_
    refine s_no GO_ rfl ?_
    refine s_no GO_ rfl ?_
    refine s_val (v_pickT rfl PK_ rfl) rfl ?_
    refine s_nil ?_
    refine S_ ?_
    refine c_region ?_
    refine s_val (v_assignC rfl) rfl ?_
    refine s_nil ?_
    refine S_ ?_
    exact k_1 (by first | exact r_tmpC rfl | exact r_tmpA rfl) (by first | kernel_rfl | rfl)
  · -- it is not so
    by_cases hc2 : 1000 < t.length
    · -- it is so
      refine S_ ?_
      refine c_region ?_
      refine s_val (v_moveC rfl) rfl ?_
      refine s_val (v_lenS rfl Try.underlying22) rfl ?_
      refine s_val (v_gtrN (b := 1000) rfl rfl) rfl ?_
      refine s_val (v_moveC rfl) rfl ?_
      refine s_go GO_ ?_
      refine s_val (v_moveC rfl) rfl ?_
      refine s_go GO_ ?_
      refine s_val (v_lenS rfl Try.underlying22) rfl ?_
      refine s_go GO_ ?_
      refine s_val (v_gtrN (b := 1000) rfl rfl) rfl ?_
      refine s_val (v_pickF rfl PK_ rfl) rfl ?_
      refine s_val (v_moveC rfl) rfl ?_
      refine s_no GO_ rfl ?_
      refine s_no GO_ rfl ?_
      refine s_val (v_pickT rfl PK_ rfl) rfl ?_
      refine s_nil ?_
      refine S_ ?_
      refine c_region ?_
      refine s_val (v_assignC rfl) rfl ?_
      refine s_nil ?_
      refine S_ ?_
      exact k_1 (by first | exact r_tmpC rfl | exact r_tmpA rfl) (by first | kernel_rfl | rfl)
    · -- it is not so
      refine S_ ?_
      refine c_region ?_
      refine s_val (v_moveC rfl) rfl ?_
      refine s_val (v_lenS rfl Try.underlying22) rfl ?_
      refine s_val (v_gtrN (b := 1000) rfl rfl) rfl ?_
      refine s_val (v_moveC rfl) rfl ?_
      refine s_go GO_ ?_
      refine s_val (v_moveC rfl) rfl ?_
      refine s_go GO_ ?_
      refine s_val (v_lenS rfl Try.underlying22) rfl ?_
      refine s_go GO_ ?_
      refine s_val (v_gtrN (b := 1000) rfl rfl) rfl ?_
      refine s_val (v_pickF rfl PK_ rfl) rfl ?_
      refine s_val (v_moveC rfl) rfl ?_
      refine s_go GO_ ?_
      refine s_val (v_moveC rfl) rfl ?_
      refine s_go GO_ ?_
      refine s_val (v_lssN (b := 0) rfl rfl) rfl ?_
      refine s_val (v_pickF rfl PK_ rfl) rfl ?_
      refine s_nil ?_
      refine S_ ?_
      refine c_region ?_
      refine s_val (v_moveC rfl) rfl ?_
      refine s_val (v_moveC rfl) rfl ?_
      refine s_evN (e_callR (bs := [0,1]) (macSum_ev key key.length cap t t.length cap2 HYP_ HYP_ HYP_ HYP_) ok_8 (by kernel_rfl) (by kernel_rfl) rfl VAL_) APP_ rfl ?_
      refine s_memN (m_alloc al_23 LEN_) APP_ rfl ?_
      refine s_storeR rfl rfl rfl rfl sz_23 EQ_ EQ_ SET_ ?_
      refine s_nil ?_
      have hQ3 : (macSum key t).length = 32 := LQ_
      refine S_ ?_
      refine c_region ?_
      refine s_val (v_moveC rfl) rfl ?_
      refine s_val (v_lenS rfl Try.underlying22) rfl ?_
      refine s_val (v_gtrN (b := 64) rfl rfl) rfl ?_
      refine s_nil ?_
      refine Q_ ?_
      by_cases hc4 : 64 < key.length
      · try simp only [if_pos hc4] at *
        refine c_condT rfl (decide_eq_true hc4) ?_
        refine S_ ?_
        refine c_region ?_
        refine s_val (v_moveC rfl) rfl ?_
        refine s_evN (e_callR (bs := [0]) (sha256_evS key key.length cap HYP_ HYP_) ok_9 (by kernel_rfl) (by kernel_rfl) rfl VAL_) APP_ rfl ?_
        refine s_memN (m_alloc al_23 LEN_) APP_ rfl ?_
        refine s_storeR rfl rfl rfl rfl sz_23 EQ_ EQ_ SET_ ?_
        refine s_nil ?_
        have hQ5 : (sha256 key).length = 32 := LQ_
        refine S_ ?_
        refine c_region ?_
        refine s_val (v_slA1 (l := 0) (h := 32) (len := 32) (cp := 32) rfl Try.underlying23 sz_5 rfl rfl rfl (by omega) (by omega) FIT_ rfl rfl) rfl ?_
        refine s_val (v_moveC rfl) rfl ?_
        refine s_evN (e_callR (bs := [3,1]) (macSum_ev (sha256 key) 32 32 t t.length cap2 HYP_ HYP_ HYP_ HYP_) ok_8 (by kernel_rfl) (by kernel_rfl) rfl VAL_) APP_ rfl ?_
        refine s_memN (m_alloc al_23 LEN_) APP_ rfl ?_
        refine s_storeR rfl rfl rfl rfl sz_23 EQ_ EQ_ SET_ ?_
        refine s_nil ?_
        have hQ6 : (macSum (sha256 key) t).length = 32 := LQ_
        refine S_ ?_
        refine c_draw 7 mixed (by kernel_rfl) rfl rfl rfl ?_
        refine h_val (v_slA1 (l := 0) (h := 32) (len := 32) (cp := 32) rfl Try.underlying23 sz_5 rfl rfl rfl (by omega) (by omega) FIT_ rfl rfl) rfl ?_
        refine h_val (v_slA1 (l := 0) (h := 32) (len := 32) (cp := 32) rfl Try.underlying23 sz_5 rfl rfl rfl (by omega) (by omega) FIT_ rfl rfl) rfl ?_
        refine h_evN (e_callR (bs := [2,4]) (bytes_ev (macSum key t) (macSum (sha256 key) t) 0 0 32 32 32 HYP_ HYP_ HYP_ (fun i _ => by rw [mac_long key t (by omega)])) ok_10 (by kernel_rfl) (by kernel_rfl) rfl VAL_) APP_ rfl ?_
        refine h_val (v_moveC rfl) rfl ?_
        refine h_go GO_ ?_
        refine h_evN (e_callR (bs := []) (wakes_ev) ok_11 (by kernel_rfl) (by kernel_rfl) rfl VAL_) APP_ rfl ?_
        refine h_val (v_pickT rfl PK_ rfl) rfl ?_
        refine h_val (v_assignC rfl) rfl ?_
        refine h_nil ?_
        refine s_nil ?_
        refine S_ ?_
        exact k_1 (by first | exact r_tmpC rfl | exact r_tmpA rfl) (by first | kernel_rfl | rfl)
      · try simp only [if_neg hc4] at *
        refine c_condF rfl (decide_eq_false hc4) ?_
        refine S_ ?_
        refine c_region ?_
        refine s_val (v_assignC rfl) rfl ?_
        refine s_nil ?_
        refine S_ ?_
        refine c_region ?_
        refine s_val (v_moveC rfl) rfl ?_
        refine s_val (v_moveC rfl) rfl ?_
        refine s_memN (m_appN8 rfl rfl rfl Try.underlying22 Try.underlying22 el_5 EQL_ (by omega) LEN_) APP_ rfl ?_
        refine s_val (v_assignC rfl) rfl ?_
        refine s_nil ?_
        refine S_ ?_
        refine c_region ?_
        refine s_val (v_assignC rfl) rfl ?_
        refine s_nil ?_
        refine S_ ?_
        refine c_loopC [1, 2, 7, 10, 11] (fun (zz : Nat × List (BitVec 8)) => ⟨67, keepT [1, 2, 7, 10, 11] [.c (.sl 1 0 t.length cap2 1), .c (.val (.int .i64 (((more : Nat) : Int)))), .c (.ptr 2 0), .c (.sl 3 0 (key.length + zz.1) (key.length + zz.1) 1), .c (.val (.int .i64 (((zz.1 : Nat) : Int))))], [.row false (.a8 (key)), .row false (.a8 (t)), .row true (.a8 (macSum key t)), .row true (.a8 (zz.2))]⟩) (fun j11 => (j11, macKeys_L11 key j11)) (min more (64 - key.length)) (by kernel_rfl) ?_ ?_
        · intro j11 hj11
          try dsimp only
          have hX7 : (macKeys_L11 key j11).length = key.length + j11 := by rw [macKeys_L11_len key _]; try omega
          have hlong : ∀ u, macSum key u = macSum (macKeys_L11 key j11) u := keys_same key j11 (by omega)
          rw [macKeys_L11.eq_2, macKeys_L11_S]
          generalize macKeys_L11 key j11 = X7 at *
          refine S_ ?_
          refine c_region ?_
          refine s_val (v_moveC rfl) rfl ?_
          refine s_val (v_moveC rfl) rfl ?_
          refine s_val (v_lssN rfl rfl) rfl ?_
          refine s_val (v_moveC rfl) rfl ?_
          refine s_go GO_ ?_
          refine s_val (v_moveC rfl) rfl ?_
          refine s_go GO_ ?_
          refine s_val (v_lenS rfl Try.underlying22) rfl ?_
          refine s_go GO_ ?_
          refine s_val (v_lssN (b := 64) rfl rfl) rfl ?_
          refine s_val (v_pickT rfl PK_ rfl) rfl ?_
          refine s_nil ?_
          refine S_ ?_
          refine c_region ?_
          refine s_val (v_moveC rfl) rfl ?_
          refine s_memN (m_bs8 (l := [0#8]) Try.underlying22 el_5 rfl rfl (by decide) (by decide) LEN_) APP_ rfl ?_
          refine s_app8 rfl rfl rfl rfl Try.underlying22 Try.underlying22 el_5 EQL_ EQL_ (by omega) LEN_ KILL_ rfl ?_
          refine s_val (v_assignC rfl) rfl ?_
          refine s_nil ?_
          refine S_ ?_
          refine c_region ?_
          refine s_val (v_moveC rfl) rfl ?_
          refine s_val (v_addN (b := 1) rfl rfl (by omega)) rfl ?_
          refine s_val (v_assignC rfl) rfl ?_
          refine s_nil ?_
          exact ⟨(j11 + 1, _), by kernel_rfl, rfl⟩
        · try dsimp only
          have hY8 : (macKeys_L11 key (min more (64 - key.length))).length = key.length + min more (64 - key.length) := by rw [macKeys_L11_len key _]; try omega
          have hlong : ∀ u, macSum key u = macSum (macKeys_L11 key (min more (64 - key.length))) u := keys_same key (min more (64 - key.length)) (by omega)
          generalize macKeys_L11 key (min more (64 - key.length)) = Y8 at *
          by_cases hc9 : min more (64 - key.length) < more
          · -- it is so
            refine S_ ?_
            refine c_region ?_
            refine s_val (v_moveC rfl) rfl ?_
            refine s_val (v_moveC rfl) rfl ?_
            refine s_val (v_lssN rfl rfl) rfl ?_
            refine s_val (v_moveC rfl) rfl ?_
            refine s_go GO_ ?_
            refine s_val (v_moveC rfl) rfl ?_
            refine s_go GO_ ?_
            refine s_val (v_lenS rfl Try.underlying22) rfl ?_
            refine s_go GO_ ?_
            refine s_val (v_lssN (b := 64) rfl rfl) rfl ?_
            refine s_val (v_pickT rfl PK_ rfl) rfl ?_
            refine s_nil ?_
            refine S_ ?_
            refine c_region ?_
            refine s_val (v_moveC rfl) rfl ?_
            refine s_val (v_moveC rfl) rfl ?_
            refine s_evN (e_callR (bs := [3,1]) (macSum_ev Y8 (key.length + min more (64 - key.length)) (key.length + min more (64 - key.length)) t t.length cap2 HYP_ HYP_ HYP_ HYP_) ok_8 (by kernel_rfl) (by kernel_rfl) rfl VAL_) APP_ rfl ?_
            refine s_memN (m_alloc al_23 LEN_) APP_ rfl ?_
            refine s_storeR rfl rfl rfl rfl sz_23 EQ_ EQ_ SET_ ?_
            refine s_nil ?_
            have hQ10 : (macSum Y8 t).length = 32 := LQ_
            refine S_ ?_
            refine c_draw 7 mixed (by kernel_rfl) rfl rfl rfl ?_
            refine h_val (v_slA1 (l := 0) (h := 32) (len := 32) (cp := 32) rfl Try.underlying23 sz_5 rfl rfl rfl (by omega) (by omega) FIT_ rfl rfl) rfl ?_
            refine h_val (v_slA1 (l := 0) (h := 32) (len := 32) (cp := 32) rfl Try.underlying23 sz_5 rfl rfl rfl (by omega) (by omega) FIT_ rfl rfl) rfl ?_
            refine h_evN (e_callR (bs := [2,4]) (bytes_ev (macSum key t) (macSum Y8 t) 0 0 32 32 32 HYP_ HYP_ HYP_ (fun i _ => by rw [hlong t])) ok_10 (by kernel_rfl) (by kernel_rfl) rfl VAL_) APP_ rfl ?_
            refine h_val (v_moveC rfl) rfl ?_
            refine h_go GO_ ?_
            refine h_evN (e_callR (bs := []) (wakes_ev) ok_11 (by kernel_rfl) (by kernel_rfl) rfl VAL_) APP_ rfl ?_
            refine h_val (v_pickT rfl PK_ rfl) rfl ?_
            refine h_val (v_assignC rfl) rfl ?_
            refine h_nil ?_
            refine s_nil ?_
            refine S_ ?_
            exact k_1 (by first | exact r_tmpC rfl | exact r_tmpA rfl) (by first | kernel_rfl | rfl)
          · -- it is not so
            refine S_ ?_
            refine c_region ?_
            refine s_val (v_moveC rfl) rfl ?_
            refine s_val (v_moveC rfl) rfl ?_
            refine s_val (v_lssN rfl rfl) rfl ?_
            refine s_val (v_moveC rfl) rfl ?_
            refine s_no GO_ rfl ?_
            refine s_no GO_ rfl ?_
            refine s_no GO_ rfl ?_
            refine s_val (v_pickF rfl PK_ rfl) rfl ?_
            refine s_nil ?_
            refine S_ ?_
            refine c_region ?_
            refine s_val (v_moveC rfl) rfl ?_
            refine s_val (v_moveC rfl) rfl ?_
            refine s_evN (e_callR (bs := [3,1]) (macSum_ev Y8 (key.length + min more (64 - key.length)) (key.length + min more (64 - key.length)) t t.length cap2 HYP_ HYP_ HYP_ HYP_) ok_8 (by kernel_rfl) (by kernel_rfl) rfl VAL_) APP_ rfl ?_
            refine s_memN (m_alloc al_23 LEN_) APP_ rfl ?_
            refine s_storeR rfl rfl rfl rfl sz_23 EQ_ EQ_ SET_ ?_
            refine s_nil ?_
            have hQ11 : (macSum Y8 t).length = 32 := LQ_
            refine S_ ?_
            refine c_draw 7 mixed (by kernel_rfl) rfl rfl rfl ?_
            refine h_val (v_slA1 (l := 0) (h := 32) (len := 32) (cp := 32) rfl Try.underlying23 sz_5 rfl rfl rfl (by omega) (by omega) FIT_ rfl rfl) rfl ?_
            refine h_val (v_slA1 (l := 0) (h := 32) (len := 32) (cp := 32) rfl Try.underlying23 sz_5 rfl rfl rfl (by omega) (by omega) FIT_ rfl rfl) rfl ?_
            refine h_evN (e_callR (bs := [2,4]) (bytes_ev (macSum key t) (macSum Y8 t) 0 0 32 32 32 HYP_ HYP_ HYP_ (fun i _ => by rw [hlong t])) ok_10 (by kernel_rfl) (by kernel_rfl) rfl VAL_) APP_ rfl ?_
            refine h_val (v_moveC rfl) rfl ?_
            refine h_go GO_ ?_
            refine h_evN (e_callR (bs := []) (wakes_ev) ok_11 (by kernel_rfl) (by kernel_rfl) rfl VAL_) APP_ rfl ?_
            refine h_val (v_pickT rfl PK_ rfl) rfl ?_
            refine h_val (v_assignC rfl) rfl ?_
            refine h_nil ?_
            refine s_nil ?_
            refine S_ ?_
            exact k_1 (by first | exact r_tmpC rfl | exact r_tmpA rfl) (by first | kernel_rfl | rfl)
end Go.Proofs.Ytlnekohkbhidnaa
