/- trystlaw01.ShaRuns, trystlaw01.ShaRuns (Drawn up by a program.) -/
import Derived.Test.YtgjilodkdgcoaaaSExact
namespace Go.Proofs.Ytgjilodkdgcoaaa
open Go.RowKit

set_option maxRecDepth 100000 in
set_option maxHeartbeats 2000000 in
theorem shaRunsN_ev (c : BitVec 8) (z : Int) (hz : z < 0) : Ev Try.prog (.call 4 [.c (.val (U8 c)), .c (.val (.int .i64 z))] []) (.val (.c (.val (.bool (true)))) []) := by
  refine c_call Try.func4 rfl Try.ntmps4 rfl LEN_ ?_
  refine S_ ?_
  refine c_region ?_
  refine s_val (v_assignC rfl) rfl ?_
  refine s_nil ?_
  refine S_ ?_
  refine c_region ?_
  refine s_val (v_moveC rfl) rfl ?_
  refine s_val (v_lssI rfl rfl) rfl ?_
  refine s_val (v_moveC rfl) rfl ?_
  refine s_no GO_ rfl ?_
  refine s_no GO_ rfl ?_
  refine s_val (v_pickT rfl PK_ rfl) rfl ?_
  refine s_nil ?_
  refine S_ ?_
  refine c_region ?_
  refine s_val (v_assignC rfl) rfl ?_
  refine s_nil ?_
  refine S_ ?_
  exact k_1 (by first | exact r_tmpC rfl | exact r_tmpA rfl) (by first | kernel_rfl | rfl)

def shaRuns_L5_S (c : BitVec 8) (X2 : List (BitVec 8)) (j5 : Nat) : List (BitVec 8) := put X2 j5 c
def shaRuns_L5 (c : BitVec 8) (n : Nat) : Nat → List (BitVec 8)
  | 0 => zer8 n
  | j5 + 1 => shaRuns_L5_S c (shaRuns_L5 c n j5) j5
@[simp] theorem shaRuns_L5_len (c : BitVec 8) (n : Nat) (j5 : Nat) : (shaRuns_L5 c n j5).length = n := by
  induction j5 with
  | zero => simp [shaRuns_L5, *]
  | succ j5 ih => rw [shaRuns_L5.eq_2, shaRuns_L5_S]; first | (simp [ih]; done) | (simp [ih]; omega) | (simp [*]; done) | (split <;> first | (simp [ih]; done) | (simp [ih]; omega) | (simp [*]; done))
set_option maxRecDepth 100000 in
set_option maxHeartbeats 2000000 in
theorem shaRuns_ev (c : BitVec 8) (n : Nat) (hn : n ≤ 9223372036854775807) : Ev Try.prog (.call 4 [.c (.val (U8 c)), .c (.val (.int .i64 ((n : Nat) : Int)))] []) (.val (.c (.val (.bool (true)))) []) := by
  refine c_call Try.func4 rfl Try.ntmps4 rfl LEN_ ?_
  refine S_ ?_
  refine c_region ?_
  refine s_val (v_assignC rfl) rfl ?_
  refine s_nil ?_
  refine S_ ?_
  refine c_region ?_
  refine s_val (v_moveC rfl) rfl ?_
  refine s_val (v_lssN (b := 0) rfl rfl) rfl ?_
  refine s_val (v_moveC rfl) rfl ?_
  refine s_go GO_ ?_
  refine s_val (v_moveC rfl) rfl ?_
  refine s_go GO_ ?_
  refine s_val (v_gtrN (b := 3000) rfl rfl) rfl ?_
  refine s_val (v_pickF rfl PK_ rfl) rfl ?_
  refine s_nil ?_
  refine Q_ ?_
  by_cases hc1 : 3000 < n
  · try simp only [if_pos hc1] at *
    refine c_condT rfl (decide_eq_true hc1) ?_
    refine S_ ?_
    refine c_region ?_
    refine s_val (v_assignC rfl) rfl ?_
    refine s_nil ?_
    refine S_ ?_
    exact k_1 (by first | exact r_tmpC rfl | exact r_tmpA rfl) (by first | kernel_rfl | rfl)
  · try simp only [if_neg hc1] at *
    refine c_condF rfl (decide_eq_false hc1) ?_
    refine S_ ?_
    refine c_region ?_
    refine s_val (v_moveC rfl) rfl ?_
    refine s_memN (m_make8 Try.underlying22 rfl rfl el_5 rep_5 (by omega) (by omega) (by omega) LEN_) APP_ rfl ?_
    refine s_val (v_assignC rfl) rfl ?_
    refine s_nil ?_
    refine S_ ?_
    refine c_region ?_
    refine s_val (v_assignC rfl) rfl ?_
    refine s_nil ?_
    refine S_ ?_
    refine c_loopC [0, 1, 5, 6] (fun (zz : Nat × List (BitVec 8)) => ⟨47, keepT [0, 1, 5, 6] [.c (.val (U8 (c))), .c (.val (.int .i64 (((n : Nat) : Int)))), .c (.sl 0 0 n n 1), .c (.val (.int .i64 (((zz.1 : Nat) : Int))))], [.row true (.a8 (zz.2))]⟩) (fun j5 => (j5, shaRuns_L5 c n j5)) (n) (by kernel_rfl) ?_ ?_
    · intro j5 hj5
      try dsimp only
      have hX2 : (shaRuns_L5 c n j5).length = n := by rw [shaRuns_L5_len c n _]; try omega
      rw [shaRuns_L5.eq_2, shaRuns_L5_S]
      generalize shaRuns_L5 c n j5 = X2 at *
      refine S_ ?_
      refine c_region ?_
      refine s_val (v_moveC rfl) rfl ?_
      refine s_val (v_moveC rfl) rfl ?_
      refine s_val (v_lssN rfl rfl) rfl ?_
      refine s_nil ?_
      refine S_ ?_
      refine c_region ?_
      refine s_val (v_moveC rfl) rfl ?_
      refine s_val (v_moveC rfl) rfl ?_
      refine s_val (v_moveC rfl) rfl ?_
      refine s_val (v_idxS1 rfl rfl Try.underlying22 sz_5 (by omega)) rfl ?_
      refine s_store8 rfl rfl rfl sz_5 LT_ SET_ ?_
      refine s_nil ?_
      refine S_ ?_
      refine c_region ?_
      refine s_val (v_moveC rfl) rfl ?_
      refine s_val (v_addN (b := 1) rfl rfl (by omega)) rfl ?_
      refine s_val (v_assignC rfl) rfl ?_
      refine s_nil ?_
      exact ⟨(j5 + 1, _), by kernel_rfl, rfl⟩
    · try dsimp only
      have hY3 : (shaRuns_L5 c n n).length = n := by rw [shaRuns_L5_len c n _]; try omega
      generalize shaRuns_L5 c n n = Y3 at *
      refine S_ ?_
      refine c_region ?_
      refine s_val (v_moveC rfl) rfl ?_
      refine s_val (v_moveC rfl) rfl ?_
      refine s_val (v_lssN rfl rfl) rfl ?_
      refine s_nil ?_
      refine S_ ?_
      refine c_region ?_
      refine s_val (v_moveC rfl) rfl ?_
      refine s_evN (e_callR (sha256_evS Y3 n n HYP_ HYP_) ok_9 rfl rfl rfl VAL_) APP_ rfl ?_
      refine s_val (v_moveC rfl) rfl ?_
      refine s_evN (e_callR (rf256_evAS Y3 n n HYP_ HYP_) ok_10 rfl rfl rfl VAL_) APP_ rfl ?_
      refine s_memN (m_alloc al_24 LEN_) APP_ rfl ?_
      refine s_memN (m_alloc al_24 LEN_) APP_ rfl ?_
      refine s_storeR rfl rfl rfl rfl sz_24 EQ_ EQ_ SET_ ?_
      refine s_storeR rfl rfl rfl rfl sz_24 EQ_ EQ_ SET_ ?_
      refine s_nil ?_
      have hQ4 : (sha256 Y3).length = 32 := LQ_
      refine S_ ?_
      refine c_region ?_
      refine s_val (v_moveC rfl) rfl ?_
      refine s_evN (e_callR (sha512_evS Y3 n n HYP_ HYP_) ok_11 rfl rfl rfl VAL_) APP_ rfl ?_
      refine s_val (v_moveC rfl) rfl ?_
      refine s_evN (e_callR (rf512_evAS Y3 n n HYP_ HYP_) ok_12 rfl rfl rfl VAL_) APP_ rfl ?_
      refine s_memN (m_alloc al_26 LEN_) APP_ rfl ?_
      refine s_memN (m_alloc al_26 LEN_) APP_ rfl ?_
      refine s_storeR rfl rfl rfl rfl sz_26 EQ_ EQ_ SET_ ?_
      refine s_storeR rfl rfl rfl rfl sz_26 EQ_ EQ_ SET_ ?_
      refine s_nil ?_
      have hQ5 : (sha512 Y3).length = 64 := LQ_
      refine S_ ?_
      refine c_draw 12 mixed (by kernel_rfl) rfl rfl rfl ?_
      refine h_val (v_slA1 (l := 0) (h := 32) (len := 32) (cp := 32) rfl Try.underlying24 sz_5 rfl rfl rfl (by omega) (by omega) FIT_ rfl rfl) rfl ?_
      refine h_val (v_slA1 (l := 0) (h := 32) (len := 32) (cp := 32) rfl Try.underlying24 sz_5 rfl rfl rfl (by omega) (by omega) FIT_ rfl rfl) rfl ?_
      refine h_evN (e_callR (bytes_ev (sha256 Y3) (sha256 Y3) 0 0 32 32 32 HYP_ HYP_ HYP_ (fun _ _ => rfl)) ok_13 rfl rfl rfl VAL_) APP_ rfl ?_
      refine h_val (v_moveC rfl) rfl ?_
      refine h_go GO_ ?_
      refine h_val (v_slA1 (l := 0) (h := 64) (len := 64) (cp := 64) rfl Try.underlying26 sz_5 rfl rfl rfl (by omega) (by omega) FIT_ rfl rfl) rfl ?_
      refine h_go GO_ ?_
      refine h_val (v_slA1 (l := 0) (h := 64) (len := 64) (cp := 64) rfl Try.underlying26 sz_5 rfl rfl rfl (by omega) (by omega) FIT_ rfl rfl) rfl ?_
      refine h_go GO_ ?_
      refine h_evN (e_callR (bytes_ev (sha512 Y3) (sha512 Y3) 0 0 64 64 64 HYP_ HYP_ HYP_ (fun _ _ => rfl)) ok_13 rfl rfl rfl VAL_) APP_ rfl ?_
      refine h_val (v_pickT rfl PK_ rfl) rfl ?_
      refine h_val (v_moveC rfl) rfl ?_
      refine h_go GO_ ?_
      refine h_evN (e_callR (wakes_ev) ok_14 rfl rfl rfl VAL_) APP_ rfl ?_
      refine h_val (v_pickT rfl PK_ rfl) rfl ?_
      refine h_val (v_assignC rfl) rfl ?_
      refine h_nil ?_
      refine s_nil ?_
      refine S_ ?_
      exact k_1 (by first | exact r_tmpC rfl | exact r_tmpA rfl) (by first | kernel_rfl | rfl)
end Go.Proofs.Ytgjilodkdgcoaaa
