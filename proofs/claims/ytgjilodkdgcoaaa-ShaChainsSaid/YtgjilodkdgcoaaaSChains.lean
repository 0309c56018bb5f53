/- trystlaw01.ShaChains, trystlaw01.ShaChains (Drawn up by a program.) -/
import Derived.Test.YtgjilodkdgcoaaaSExact
namespace Go.Proofs.Ytgjilodkdgcoaaa
open Go.RowKit

set_option maxRecDepth 100000 in
set_option maxHeartbeats 2000000 in
theorem shaChainsN_ev (t : List (BitVec 8)) (cap : Nat) (z : Int) (hz : z < 0) : Ev Try.prog (.call 7 [.c (.sl 0 0 t.length cap 1), .c (.val (.int .i64 z))] [.row false (.a8 (t))]) (.val (.c (.val (.bool (true)))) [.row false (.a8 (t))]) := by
  refine c_call Try.func7 rfl Try.ntmps7 rfl LEN_ ?_
  refine S_ ?_
  refine c_region ?_
  refine s_val (v_assignC rfl) rfl ?_
  refine s_nil ?_
  by_cases hc1 : 3000 < t.length
  · -- it is so
    refine S_ ?_
    refine c_region ?_
    refine s_val (v_moveC rfl) rfl ?_
    refine s_val (v_lenS rfl Try.underlying22) rfl ?_
    refine s_val (v_gtrN (b := 3000) rfl rfl) rfl ?_
    refine s_val (v_moveC rfl) rfl ?_
    refine s_no GO_ rfl ?_
    refine s_no GO_ rfl ?_
    refine s_val (v_pickT rfl PK_ rfl) rfl ?_
    refine s_val (v_moveC rfl) rfl ?_
    refine s_no GO_ rfl ?_
    refine s_no GO_ rfl ?_
    refine s_val (v_pickT rfl PK_ rfl) rfl ?_
    refine s_nil ?_
    refine S_ ?_
    refine c_region ?_
    refine s_val (v_assignC rfl) rfl ?_
    refine s_nil ?_
    refine S_ ?_
    exact k_1 (by first | exact r_tmpC rfl | exact r_tmpA rfl) (by first | kernel_rfl | rfl)
  · -- it is not so
    refine S_ ?_
    refine c_region ?_
    refine s_val (v_moveC rfl) rfl ?_
    refine s_val (v_lenS rfl Try.underlying22) rfl ?_
    refine s_val (v_gtrN (b := 3000) rfl rfl) rfl ?_
    refine s_val (v_moveC rfl) rfl ?_
    refine s_go GO_ ?_
    refine s_val (v_moveC rfl) rfl ?_
    refine s_go GO_ ?_
    refine s_val (v_lssI rfl rfl) rfl ?_
    refine s_val (v_pickF rfl PK_ rfl) rfl ?_
    refine s_val (v_moveC rfl) rfl ?_
    refine s_no GO_ rfl ?_
    refine s_no GO_ rfl ?_
    refine s_val (v_pickT rfl PK_ rfl) rfl ?_
    refine s_nil ?_
    refine S_ ?_
    refine c_region ?_
    refine s_val (v_assignC rfl) rfl ?_
    refine s_nil ?_
    refine S_ ?_
    exact k_1 (by first | exact r_tmpC rfl | exact r_tmpA rfl) (by first | kernel_rfl | rfl)

def shaChains_L6_S (X5 : List (BitVec 8)) (X6 : List (BitVec 8)) : List (BitVec 8) × List (BitVec 8) := (sha256 X5, sha512 X6)
def shaChains_L6 (t : List (BitVec 8)) : Nat → List (BitVec 8) × List (BitVec 8)
  | 0 => (sha256 t, sha512 t)
  | j6 + 1 => shaChains_L6_S (shaChains_L6 t j6).1 (shaChains_L6 t j6).2
@[simp] theorem shaChains_L6_len0 (t : List (BitVec 8)) (j6 : Nat) : (shaChains_L6 t j6).1.length = 32 := by
  induction j6 with
  | zero => simp [shaChains_L6, *]
  | succ j6 ih => rw [shaChains_L6.eq_2, shaChains_L6_S]; first | (simp [ih]; done) | (simp [ih]; omega) | (simp [*]; done) | (split <;> first | (simp [ih]; done) | (simp [ih]; omega) | (simp [*]; done))
@[simp] theorem shaChains_L6_len1 (t : List (BitVec 8)) (j6 : Nat) : (shaChains_L6 t j6).2.length = 64 := by
  induction j6 with
  | zero => simp [shaChains_L6, *]
  | succ j6 ih => rw [shaChains_L6.eq_2, shaChains_L6_S]; first | (simp [ih]; done) | (simp [ih]; omega) | (simp [*]; done) | (split <;> first | (simp [ih]; done) | (simp [ih]; omega) | (simp [*]; done))
set_option maxRecDepth 100000 in
set_option maxHeartbeats 2000000 in
theorem shaChains_ev (t : List (BitVec 8)) (cap : Nat) (m : Nat) (hm : m ≤ 9223372036854775807) : Ev Try.prog (.call 7 [.c (.sl 0 0 t.length cap 1), .c (.val (.int .i64 ((m : Nat) : Int)))] [.row false (.a8 (t))]) (.val (.c (.val (.bool (true)))) [.row false (.a8 (t))]) := by
  refine c_call Try.func7 rfl Try.ntmps7 rfl LEN_ ?_
  refine S_ ?_
  refine c_region ?_
  refine s_val (v_assignC rfl) rfl ?_
  refine s_nil ?_
  by_cases hc1 : 3000 < t.length
  · -- it is so
    refine S_ ?_
    refine c_region ?_
    refine s_val (v_moveC rfl) rfl ?_
    refine s_val (v_lenS rfl Try.underlying22) rfl ?_
    refine s_val (v_gtrN (b := 3000) rfl rfl) rfl ?_
    refine s_val (v_moveC rfl) rfl ?_
    refine s_no GO_ rfl ?_
    refine s_no GO_ rfl ?_
    refine s_val (v_pickT rfl PK_ rfl) rfl ?_
    refine s_val (v_moveC rfl) rfl ?_
    refine s_no GO_ rfl ?_
    refine s_no GO_ rfl ?_
    refine s_val (v_pickT rfl PK_ rfl) rfl ?_
    refine s_nil ?_
    refine S_ ?_
    refine c_region ?_
    refine s_val (v_assignC rfl) rfl ?_
    refine s_nil ?_
    refine S_ ?_
    exact k_1 (by first | exact r_tmpC rfl | exact r_tmpA rfl) (by first | kernel_rfl | rfl)
  · -- it is not so
    refine S_ ?_
    refine c_region ?_
    refine s_val (v_moveC rfl) rfl ?_
    refine s_val (v_lenS rfl Try.underlying22) rfl ?_
    refine s_val (v_gtrN (b := 3000) rfl rfl) rfl ?_
    refine s_val (v_moveC rfl) rfl ?_
    refine s_go GO_ ?_
    refine s_val (v_moveC rfl) rfl ?_
    refine s_go GO_ ?_
    refine s_val (v_lssN (b := 0) rfl rfl) rfl ?_
    refine s_val (v_pickF rfl PK_ rfl) rfl ?_
    refine s_val (v_moveC rfl) rfl ?_
    refine s_go GO_ ?_
    refine s_val (v_moveC rfl) rfl ?_
    refine s_go GO_ ?_
    refine s_val (v_gtrN (b := 100) rfl rfl) rfl ?_
    refine s_val (v_pickF rfl PK_ rfl) rfl ?_
    refine s_nil ?_
    refine Q_ ?_
    by_cases hc2 : 100 < m
    · try simp only [if_pos hc2] at *
      refine c_condT rfl (decide_eq_true hc2) ?_
      refine S_ ?_
      refine c_region ?_
      refine s_val (v_assignC rfl) rfl ?_
      refine s_nil ?_
      refine S_ ?_
      exact k_1 (by first | exact r_tmpC rfl | exact r_tmpA rfl) (by first | kernel_rfl | rfl)
    · try simp only [if_neg hc2] at *
      refine c_condF rfl (decide_eq_false hc2) ?_
      refine S_ ?_
      refine c_region ?_
      refine s_val (v_moveC rfl) rfl ?_
      refine s_evN (e_callR (sha256_evS t t.length cap HYP_ HYP_) ok_9 rfl rfl rfl VAL_) APP_ rfl ?_
      refine s_val (v_moveC rfl) rfl ?_
      refine s_evN (e_callR (rf256_evAS t t.length cap HYP_ HYP_) ok_10 rfl rfl rfl VAL_) APP_ rfl ?_
      refine s_memN (m_alloc al_24 LEN_) APP_ rfl ?_
      refine s_memN (m_alloc al_24 LEN_) APP_ rfl ?_
      refine s_storeR rfl rfl rfl rfl sz_24 EQ_ EQ_ SET_ ?_
      refine s_storeR rfl rfl rfl rfl sz_24 EQ_ EQ_ SET_ ?_
      refine s_nil ?_
      have hQ3 : (sha256 t).length = 32 := LQ_
      refine S_ ?_
      refine c_region ?_
      refine s_val (v_moveC rfl) rfl ?_
      refine s_evN (e_callR (sha512_evS t t.length cap HYP_ HYP_) ok_11 rfl rfl rfl VAL_) APP_ rfl ?_
      refine s_val (v_moveC rfl) rfl ?_
      refine s_evN (e_callR (rf512_evAS t t.length cap HYP_ HYP_) ok_12 rfl rfl rfl VAL_) APP_ rfl ?_
      refine s_memN (m_alloc al_26 LEN_) APP_ rfl ?_
      refine s_memN (m_alloc al_26 LEN_) APP_ rfl ?_
      refine s_storeR rfl rfl rfl rfl sz_26 EQ_ EQ_ SET_ ?_
      refine s_storeR rfl rfl rfl rfl sz_26 EQ_ EQ_ SET_ ?_
      refine s_nil ?_
      have hQ4 : (sha512 t).length = 64 := LQ_
      refine S_ ?_
      refine c_region ?_
      refine s_val (v_assignC rfl) rfl ?_
      refine s_nil ?_
      refine S_ ?_
      refine c_loopC [1, 5, 6, 7, 8, 9] (fun (zz : Nat × List (BitVec 8) × List (BitVec 8)) => ⟨53, keepT [1, 5, 6, 7, 8, 9] [.c (.val (.int .i64 (((m : Nat) : Int)))), .c (.ptr 1 0), .c (.ptr 2 0), .c (.ptr 3 0), .c (.ptr 4 0), .c (.val (.int .i64 (((zz.1 : Nat) : Int))))], [.row false (.a8 (t)), .row true (.a8 (zz.2.1)), .row true (.a8 (zz.2.1)), .row true (.a8 (zz.2.2)), .row true (.a8 (zz.2.2))]⟩) (fun j6 => (j6, shaChains_L6 t j6)) (m) (by kernel_rfl) ?_ ?_
      · intro j6 hj6
        try dsimp only
        have hX5 : (shaChains_L6 t j6).1.length = 32 := by rw [shaChains_L6_len0 t _]; try omega
        have hX6 : (shaChains_L6 t j6).2.length = 64 := by rw [shaChains_L6_len1 t _]; try omega
        rw [shaChains_L6.eq_2, shaChains_L6_S]
        generalize shaChains_L6 t j6 = Z7 at *
        obtain ⟨X5, X6⟩ := Z7
        try dsimp only at *
        refine S_ ?_
        refine c_region ?_
        refine s_val (v_moveC rfl) rfl ?_
        refine s_val (v_moveC rfl) rfl ?_
        refine s_val (v_lssN rfl rfl) rfl ?_
        refine s_nil ?_
        refine S_ ?_
        refine c_draw 4 mixed (by kernel_rfl) rfl rfl rfl ?_
        refine h_val (v_slA1 (l := 0) (h := 32) (len := 32) (cp := 32) rfl Try.underlying24 sz_5 rfl rfl rfl (by omega) (by omega) FIT_ rfl rfl) rfl ?_
        refine h_evN (e_callR (sha256_evS X5 32 32 HYP_ HYP_) ok_9 rfl rfl rfl VAL_) APP_ rfl ?_
        refine h_val (v_slA1 (l := 0) (h := 32) (len := 32) (cp := 32) rfl Try.underlying24 sz_5 rfl rfl rfl (by omega) (by omega) FIT_ rfl rfl) rfl ?_
        refine h_evN (e_callR (rf256_evAS X5 32 32 HYP_ HYP_) ok_10 rfl rfl rfl VAL_) APP_ rfl ?_
        refine h_nil ?_
        refine s_storeR rfl rfl rfl rfl sz_24 EQ_ EQ_ SET_ ?_
        refine s_storeR rfl rfl rfl rfl sz_24 EQ_ EQ_ SET_ ?_
        refine s_nil ?_
        have hQ8 : (sha256 X5).length = 32 := LQ_
        refine S_ ?_
        refine c_draw 4 mixed (by kernel_rfl) rfl rfl rfl ?_
        refine h_val (v_slA1 (l := 0) (h := 64) (len := 64) (cp := 64) rfl Try.underlying26 sz_5 rfl rfl rfl (by omega) (by omega) FIT_ rfl rfl) rfl ?_
        refine h_evN (e_callR (sha512_evS X6 64 64 HYP_ HYP_) ok_11 rfl rfl rfl VAL_) APP_ rfl ?_
        refine h_val (v_slA1 (l := 0) (h := 64) (len := 64) (cp := 64) rfl Try.underlying26 sz_5 rfl rfl rfl (by omega) (by omega) FIT_ rfl rfl) rfl ?_
        refine h_evN (e_callR (rf512_evAS X6 64 64 HYP_ HYP_) ok_12 rfl rfl rfl VAL_) APP_ rfl ?_
        refine h_nil ?_
        refine s_storeR rfl rfl rfl rfl sz_26 EQ_ EQ_ SET_ ?_
        refine s_storeR rfl rfl rfl rfl sz_26 EQ_ EQ_ SET_ ?_
        refine s_nil ?_
        have hQ9 : (sha512 X6).length = 64 := LQ_
        refine S_ ?_
        refine c_region ?_
        refine s_val (v_moveC rfl) rfl ?_
        refine s_val (v_addN (b := 1) rfl rfl (by omega)) rfl ?_
        refine s_val (v_assignC rfl) rfl ?_
        refine s_nil ?_
        exact ⟨(j6 + 1, _), by kernel_rfl, rfl⟩
      · try dsimp only
        have hY10 : (shaChains_L6 t m).1.length = 32 := by rw [shaChains_L6_len0 t _]; try omega
        have hY11 : (shaChains_L6 t m).2.length = 64 := by rw [shaChains_L6_len1 t _]; try omega
        generalize shaChains_L6 t m = Z12 at *
        obtain ⟨Y10, Y11⟩ := Z12
        try dsimp only at *
        refine S_ ?_
        refine c_region ?_
        refine s_val (v_moveC rfl) rfl ?_
        refine s_val (v_moveC rfl) rfl ?_
        refine s_val (v_lssN rfl rfl) rfl ?_
        refine s_nil ?_
        refine S_ ?_
        refine c_draw 12 mixed (by kernel_rfl) rfl rfl rfl ?_
        refine h_val (v_slA1 (l := 0) (h := 32) (len := 32) (cp := 32) rfl Try.underlying24 sz_5 rfl rfl rfl (by omega) (by omega) FIT_ rfl rfl) rfl ?_
        refine h_val (v_slA1 (l := 0) (h := 32) (len := 32) (cp := 32) rfl Try.underlying24 sz_5 rfl rfl rfl (by omega) (by omega) FIT_ rfl rfl) rfl ?_
        refine h_evN (e_callR (bytes_ev Y10 Y10 0 0 32 32 32 HYP_ HYP_ HYP_ (fun _ _ => rfl)) ok_13 rfl rfl rfl VAL_) APP_ rfl ?_
        refine h_val (v_moveC rfl) rfl ?_
        refine h_go GO_ ?_
        refine h_val (v_slA1 (l := 0) (h := 64) (len := 64) (cp := 64) rfl Try.underlying26 sz_5 rfl rfl rfl (by omega) (by omega) FIT_ rfl rfl) rfl ?_
        refine h_go GO_ ?_
        refine h_val (v_slA1 (l := 0) (h := 64) (len := 64) (cp := 64) rfl Try.underlying26 sz_5 rfl rfl rfl (by omega) (by omega) FIT_ rfl rfl) rfl ?_
        refine h_go GO_ ?_
        refine h_evN (e_callR (bytes_ev Y11 Y11 0 0 64 64 64 HYP_ HYP_ HYP_ (fun _ _ => rfl)) ok_13 rfl rfl rfl VAL_) APP_ rfl ?_
        refine h_val (v_pickT rfl PK_ rfl) rfl ?_
        refine h_val (v_moveC rfl) rfl ?_
        refine h_go GO_ ?_
        refine h_evN (e_callR (wakes_ev) ok_14 rfl rfl rfl VAL_) APP_ rfl ?_
        refine h_val (v_pickT rfl PK_ rfl) rfl ?_
        refine h_val (v_assignC rfl) rfl ?_
        refine h_nil ?_
        refine s_nil ?_
        refine S_ ?_
        exact k_1 (by first | exact r_tmpC rfl | exact r_tmpA rfl) (by first | kernel_rfl | rfl)
end Go.Proofs.Ytgjilodkdgcoaaa
