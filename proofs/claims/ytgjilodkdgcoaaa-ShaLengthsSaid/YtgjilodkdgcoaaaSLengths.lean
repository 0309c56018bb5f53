/- trystlaw01.ShaLengths (Drawn up by a program.) -/
import Derived.Test.YtgjilodkdgcoaaaSExact
namespace Go.Proofs.Ytgjilodkdgcoaaa
open Go.RowKit

set_option maxRecDepth 100000 in
set_option maxHeartbeats 2000000 in
theorem shaLengths_ev   : Ev Try.prog (.call 6 [] []) (.val (.c (.val (.bool (true)))) []) := by
  refine c_call Try.func6 rfl Try.ntmps6 rfl LEN_ ?_
  refine S_ ?_
  refine c_region ?_
  refine s_val (v_assignC rfl) rfl ?_
  refine s_nil ?_
  refine S_ ?_
  refine c_region ?_
  refine s_memN (m_make8 (a := 270) (b := 270) Try.underlying22 rfl rfl el_5 rep_5 (by omega) (by omega) (by omega) LEN_) APP_ rfl ?_
  refine s_val (v_assignC rfl) rfl ?_
  refine s_nil ?_
  refine S_ ?_
  refine c_region ?_
  refine s_val (v_assignC rfl) rfl ?_
  refine s_nil ?_
  refine S_ ?_
  refine c_loopC [1, 2] (fun (zz : Nat) => ⟨39, keepT [1, 2] [.c (.sl 0 0 270 270 1), .c (.val (.int .i64 (((zz : Nat) : Int))))], [.row true (.a8 (zer8 270))]⟩) (fun j3 => j3) (271) (by kernel_rfl) ?_ ?_
  · intro j3 hj3
    try dsimp only
    refine S_ ?_
    refine c_region ?_
    refine s_val (v_moveC rfl) rfl ?_
    refine s_val (v_leqN (b := 270) rfl rfl) rfl ?_
    refine s_nil ?_
    refine S_ ?_
    refine c_draw 10 mixed (by kernel_rfl) rfl rfl rfl ?_
    refine h_val (v_moveC rfl) rfl ?_
    refine h_val (v_moveC rfl) rfl ?_
    refine h_val (v_slS0 rfl Try.underlying22 sz_5 rfl (by omega)) rfl ?_
    refine h_evN (e_callR (sha256_ev (zer8 270) 0 j3 270 HYP_ HYP_) ok_9 rfl rfl rfl VAL_) APP_ rfl ?_
    refine h_val (v_moveC rfl) rfl ?_
    refine h_val (v_moveC rfl) rfl ?_
    refine h_val (v_slS0 rfl Try.underlying22 sz_5 rfl (by omega)) rfl ?_
    refine h_evN (e_callR (rf256_evA (zer8 270) 0 j3 270 HYP_ HYP_) ok_10 rfl rfl rfl VAL_) APP_ rfl ?_
    refine h_memN (m_alloc al_24 LEN_) APP_ rfl ?_
    refine h_memN (m_alloc al_24 LEN_) APP_ rfl ?_
    refine h_nil ?_
    refine s_storeR rfl rfl rfl rfl sz_24 EQ_ EQ_ SET_ ?_
    refine s_storeR rfl rfl rfl rfl sz_24 EQ_ EQ_ SET_ ?_
    refine s_nil ?_
    have hQ1 : (sha256 (cut (zer8 270) 0 j3)).length = 32 := LQ_
    refine S_ ?_
    refine c_draw 10 mixed (by kernel_rfl) rfl rfl rfl ?_
    refine h_val (v_moveC rfl) rfl ?_
    refine h_val (v_moveC rfl) rfl ?_
    refine h_val (v_slS0 rfl Try.underlying22 sz_5 rfl (by omega)) rfl ?_
    refine h_evN (e_callR (sha512_ev (zer8 270) 0 j3 270 HYP_ HYP_) ok_11 rfl rfl rfl VAL_) APP_ rfl ?_
    refine h_val (v_moveC rfl) rfl ?_
    refine h_val (v_moveC rfl) rfl ?_
    refine h_val (v_slS0 rfl Try.underlying22 sz_5 rfl (by omega)) rfl ?_
    refine h_evN (e_callR (rf512_evA (zer8 270) 0 j3 270 HYP_ HYP_) ok_12 rfl rfl rfl VAL_) APP_ rfl ?_
    refine h_memN (m_alloc al_26 LEN_) APP_ rfl ?_
    refine h_memN (m_alloc al_26 LEN_) APP_ rfl ?_
    refine h_nil ?_
    refine s_storeR rfl rfl rfl rfl sz_26 EQ_ EQ_ SET_ ?_
    refine s_storeR rfl rfl rfl rfl sz_26 EQ_ EQ_ SET_ ?_
    refine s_nil ?_
    have hQ2 : (sha512 (cut (zer8 270) 0 j3)).length = 64 := LQ_
    refine S_ ?_
    refine c_draw 10 mixed (by kernel_rfl) rfl rfl rfl ?_
    refine h_val (v_slA1 (l := 0) (h := 32) (len := 32) (cp := 32) rfl Try.underlying24 sz_5 rfl rfl rfl (by omega) (by omega) FIT_ rfl rfl) rfl ?_
    refine h_val (v_slA1 (l := 0) (h := 32) (len := 32) (cp := 32) rfl Try.underlying24 sz_5 rfl rfl rfl (by omega) (by omega) FIT_ rfl rfl) rfl ?_
    refine h_evN (e_callR (bytes_ev (sha256 (cut (zer8 270) 0 j3)) (sha256 (cut (zer8 270) 0 j3)) 0 0 32 32 32 HYP_ HYP_ HYP_ (fun _ _ => rfl)) ok_13 rfl rfl rfl VAL_) APP_ rfl ?_
    refine h_val (v_unnotB rfl) rfl ?_
    refine h_val (v_moveC rfl) rfl ?_
    refine h_go GO_ ?_
    refine h_val (v_slA1 (l := 0) (h := 64) (len := 64) (cp := 64) rfl Try.underlying26 sz_5 rfl rfl rfl (by omega) (by omega) FIT_ rfl rfl) rfl ?_
    refine h_go GO_ ?_
    refine h_val (v_slA1 (l := 0) (h := 64) (len := 64) (cp := 64) rfl Try.underlying26 sz_5 rfl rfl rfl (by omega) (by omega) FIT_ rfl rfl) rfl ?_
    refine h_go GO_ ?_
    refine h_evN (e_callR (bytes_ev (sha512 (cut (zer8 270) 0 j3)) (sha512 (cut (zer8 270) 0 j3)) 0 0 64 64 64 HYP_ HYP_ HYP_ (fun _ _ => rfl)) ok_13 rfl rfl rfl VAL_) APP_ rfl ?_
    refine h_go GO_ ?_
    refine h_val (v_unnotB rfl) rfl ?_
    refine h_val (v_pickF rfl PK_ rfl) rfl ?_
    refine h_nil ?_
    refine s_nil ?_
    refine S_ ?_
    refine c_region ?_
    refine s_val (v_moveC rfl) rfl ?_
    refine s_val (v_addN (b := 1) rfl rfl (by omega)) rfl ?_
    refine s_val (v_assignC rfl) rfl ?_
    refine s_nil ?_
    exact ⟨j3 + 1, by kernel_rfl, rfl⟩
  · try dsimp only
    refine S_ ?_
    refine c_region ?_
    refine s_val (v_moveC rfl) rfl ?_
    refine s_val (v_leqN (b := 270) rfl rfl) rfl ?_
    refine s_nil ?_
    refine S_ ?_
    refine c_region ?_
    refine s_evN (e_callR (wakes_ev) ok_14 rfl rfl rfl VAL_) APP_ rfl ?_
    refine s_val (v_assignC rfl) rfl ?_
    refine s_nil ?_
    refine S_ ?_
    exact k_1 (by first | exact r_tmpC rfl | exact r_tmpA rfl) (by first | kernel_rfl | rfl)
end Go.Proofs.Ytgjilodkdgcoaaa
