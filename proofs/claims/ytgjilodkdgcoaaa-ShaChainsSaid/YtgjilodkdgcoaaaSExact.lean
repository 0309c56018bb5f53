/- trystlaw01.ShaExact (Drawn up by a program.) -/
import Derived.Test.YtgjilodkdgcoaaaSWakes
import Derived.Test.YtgjilodkdgcoaaaPKeep
namespace Go.Proofs.Ytgjilodkdgcoaaa
open Go.RowKit
theorem rf256_evA (b : List (BitVec 8)) (o n cap : Nat) (hb : o + n ≤ b.length) (hn : n ≤ 2199023255552) : Ev Try.prog (.call 10 [.c (.sl 0 o n cap 1)] [.row false (.a8 b)]) (.val (.agg (.a8 (sha256 (cut b o n)))) [.row false (.a8 b)]) := by
  have h := rf256_ev b o n cap hb hn
  rw [sha256_same] at h
  exact h
theorem rf256_evAS (b : List (BitVec 8)) (n cap : Nat) (hb : b.length = n) (hn : n ≤ 2199023255552) : Ev Try.prog (.call 10 [.c (.sl 0 0 n cap 1)] [.row false (.a8 b)]) (.val (.agg (.a8 (sha256 b))) [.row false (.a8 b)]) := by
  have h := rf256_evA b 0 n cap (by omega) hn
  rw [cut_all hb] at h
  exact h
theorem rf512_evA (b : List (BitVec 8)) (o n cap : Nat) (hb : o + n ≤ b.length) (hn : n ≤ 2199023255552) : Ev Try.prog (.call 12 [.c (.sl 0 o n cap 1)] [.row false (.a8 b)]) (.val (.agg (.a8 (sha512 (cut b o n)))) [.row false (.a8 b)]) := by
  have h := rf512_ev b o n cap hb hn
  rw [sha512_same _ (by rw [cut_length]; omega)] at h
  exact h
theorem rf512_evAS (b : List (BitVec 8)) (n cap : Nat) (hb : b.length = n) (hn : n ≤ 2199023255552) : Ev Try.prog (.call 12 [.c (.sl 0 0 n cap 1)] [.row false (.a8 b)]) (.val (.agg (.a8 (sha512 b))) [.row false (.a8 b)]) := by
  have h := rf512_evA b 0 n cap (by omega) hn
  rw [cut_all hb] at h
  exact h

set_option maxRecDepth 100000 in
set_option maxHeartbeats 2000000 in
theorem shaExact_ev (t : List (BitVec 8)) (cap : Nat)  : Ev Try.prog (.call 3 [.c (.sl 0 0 t.length cap 1)] [.row false (.a8 (t))]) (.val (.c (.val (.bool (true)))) [.row false (.a8 (t))]) := by
  refine c_call Try.func3 rfl Try.ntmps3 rfl LEN_ ?_
  refine S_ ?_
  refine c_region ?_
  refine s_val (v_assignC rfl) rfl ?_
  refine s_nil ?_
  refine S_ ?_
  refine c_region ?_
  refine s_val (v_moveC rfl) rfl ?_
  refine s_val (v_lenS rfl Try.underlying22) rfl ?_
  refine s_val (v_gtrN (b := 3000) rfl rfl) rfl ?_
  refine s_nil ?_
  refine Q_ ?_
  by_cases hc1 : 3000 < t.length
  · try simp only [if_pos hc1] at *
    refine c_condT rfl (decide_eq_true hc1) ?_
    refine S_ ?_
    refine c_region ?_
    refine s_val (v_assignC rfl) rfl ?_
    refine s_nil ?_
    refine S_ ?_
    exact k_1 (by first | exact r_tmpC rfl | exact r_tmpA rfl) (by first | kernel_rfl | rfl)
  · try simp only [if_neg hc1] at *
    refine c_condF rfl (decide_eq_false hc1) ?_
    refine S_ ?_
    refine c_region ?_
    refine s_val (v_moveC rfl) rfl ?_
    refine s_evN (e_callR (twin_ev t t.length cap HYP_ HYP_) ok_8 rfl rfl rfl VAL_) APP_ rfl ?_
    refine s_val (v_assignC rfl) rfl ?_
    refine s_nil ?_
    refine S_ ?_
    refine c_region ?_
    refine s_val (v_moveC rfl) rfl ?_
    refine s_evN (e_callR (sha256_evS t t.length t.length HYP_ HYP_) ok_9 rfl rfl rfl VAL_) APP_ rfl ?_
    refine s_val (v_moveC rfl) rfl ?_
    refine s_evN (e_callR (rf256_evAS t t.length cap HYP_ HYP_) ok_10 rfl rfl rfl VAL_) APP_ rfl ?_
    refine s_memN (m_alloc al_24 LEN_) APP_ rfl ?_
    refine s_memN (m_alloc al_24 LEN_) APP_ rfl ?_
    refine s_storeR rfl rfl rfl rfl sz_24 EQ_ EQ_ SET_ ?_
    refine s_storeR rfl rfl rfl rfl sz_24 EQ_ EQ_ SET_ ?_
    refine s_nil ?_
    have hQ2 : (sha256 t).length = 32 := LQ_
    refine S_ ?_
    refine c_region ?_
    refine s_val (v_moveC rfl) rfl ?_
    refine s_evN (e_callR (sha512_evS t t.length t.length HYP_ HYP_) ok_11 rfl rfl rfl VAL_) APP_ rfl ?_
    refine s_val (v_moveC rfl) rfl ?_
    refine s_evN (e_callR (rf512_evAS t t.length cap HYP_ HYP_) ok_12 rfl rfl rfl VAL_) APP_ rfl ?_
    refine s_memN (m_alloc al_26 LEN_) APP_ rfl ?_
    refine s_memN (m_alloc al_26 LEN_) APP_ rfl ?_
    refine s_storeR rfl rfl rfl rfl sz_26 EQ_ EQ_ SET_ ?_
    refine s_storeR rfl rfl rfl rfl sz_26 EQ_ EQ_ SET_ ?_
    refine s_nil ?_
    have hQ3 : (sha512 t).length = 64 := LQ_
    refine S_ ?_
    refine c_draw 17 mixed (by kernel_rfl) rfl rfl rfl ?_
    refine h_val (v_slA1 (l := 0) (h := 32) (len := 32) (cp := 32) rfl Try.underlying24 sz_5 rfl rfl rfl (by omega) (by omega) FIT_ rfl rfl) rfl ?_
    refine h_val (v_slA1 (l := 0) (h := 32) (len := 32) (cp := 32) rfl Try.underlying24 sz_5 rfl rfl rfl (by omega) (by omega) FIT_ rfl rfl) rfl ?_
    refine h_evN (e_callR (bytes_ev (sha256 t) (sha256 t) 0 0 32 32 32 HYP_ HYP_ HYP_ (fun _ _ => rfl)) ok_13 rfl rfl rfl VAL_) APP_ rfl ?_
    refine h_val (v_moveC rfl) rfl ?_
    refine h_go GO_ ?_
    refine h_val (v_slA1 (l := 0) (h := 64) (len := 64) (cp := 64) rfl Try.underlying26 sz_5 rfl rfl rfl (by omega) (by omega) FIT_ rfl rfl) rfl ?_
    refine h_go GO_ ?_
    refine h_val (v_slA1 (l := 0) (h := 64) (len := 64) (cp := 64) rfl Try.underlying26 sz_5 rfl rfl rfl (by omega) (by omega) FIT_ rfl rfl) rfl ?_
    refine h_go GO_ ?_
    refine h_evN (e_callR (bytes_ev (sha512 t) (sha512 t) 0 0 64 64 64 HYP_ HYP_ HYP_ (fun _ _ => rfl)) ok_13 rfl rfl rfl VAL_) APP_ rfl ?_
    refine h_val (v_pickT rfl PK_ rfl) rfl ?_
    refine h_val (v_moveC rfl) rfl ?_
    refine h_go GO_ ?_
    refine h_val (v_moveC rfl) rfl ?_
    refine h_go GO_ ?_
    refine h_val (v_moveC rfl) rfl ?_
    refine h_go GO_ ?_
    refine h_evN (e_callR (bytes_ev t t 0 0 t.length t.length cap HYP_ HYP_ HYP_ (fun _ _ => rfl)) ok_13 rfl rfl rfl VAL_) APP_ rfl ?_
    refine h_val (v_pickT rfl PK_ rfl) rfl ?_
    refine h_val (v_moveC rfl) rfl ?_
    refine h_go GO_ ?_
    refine h_evN (e_callR (wakes_ev) ok_14 rfl rfl rfl VAL_) APP_ rfl ?_
    refine h_val (v_pickT rfl PK_ rfl) rfl ?_
    refine h_val (v_assignC rfl) rfl ?_
    refine h_nil ?_
    refine s_nil ?_
    refine S_ ?_
    exact k_1 (by first | exact r_tmpC rfl | exact r_tmpA rfl) (by first | kernel_rfl | rfl)
end Go.Proofs.Ytgjilodkdgcoaaa
