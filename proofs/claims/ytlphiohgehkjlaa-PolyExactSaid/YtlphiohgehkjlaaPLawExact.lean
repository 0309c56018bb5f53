/- The walk of trystlaw04.PolyExact. -/
import Derived.Test.YtlphiohgehkjlaaPRefTag
import Derived.Test.YtlphiohgehkjlaaPKeep
import Derived.Test.YtlphiohgehkjlaaPWakes
namespace Go.Proofs.Ytlphiohgehkjlaa
open Go.RowKit
attribute [local irreducible] polyTag
theorem polyTag_length (key t : List (BitVec 8)) : (polyTag key t).length = 16 := by with_unfolding_all exact tagEnd_length _ _
set_option maxRecDepth 100000 in
set_option maxHeartbeats 1000000 in
theorem polyExact_ev (key t : List (BitVec 8)) (n cap : Nat) (hk : key.length = 32) (ht : t.length = n) (hlaw : polyTag key t = refTag key t) :
    Ev Try.prog (.call 3 [.agg (.a8 key), .c (.sl 0 0 n cap 1)] [.row false (.a8 t)]) (.val (.c (.val (.bool true))) [.row false (.a8 t)]) := by
  have hl1 := polyTag_length key t
  have hl2 := refTag_length key t
  refine c_call Try.func3 rfl Try.ntmps3 rfl (by first | exact (rfl : _ = 0) | exact (rfl : _ = 1) | exact (rfl : _ = 2) | exact (rfl : _ = 3) | exact (rfl : _ = 4) | exact (rfl : _ = 5) | exact (rfl : _ = 6) | exact (rfl : _ = 7) | exact (rfl : _ = 8) | exact (rfl : _ = 9) | exact (rfl : _ = 10) | exact (rfl : _ = 11) | exact (rfl : _ = 12)) ?_
  repeat (first
    | refine c_seq ?_
    | refine c_block ?_
    | refine c_skip ?_
    | refine c_exit ?_
    | refine c_ret ?_
    | refine c_label ?_
    | refine c_scope ?_
    | refine c_condT rfl (by first | rfl | (apply decide_eq_true; omega)) ?_
    | refine c_condF rfl (by first | rfl | (apply decide_eq_false; omega)) ?_)
  refine c_region ?_
  refine s_memN (m_box (by first | rfl) (by first | exact (rfl : _ = 0) | exact (rfl : _ = 1) | exact (rfl : _ = 2) | exact (rfl : _ = 3) | exact (rfl : _ = 4) | exact (rfl : _ = 5) | exact (rfl : _ = 6) | exact (rfl : _ = 7) | exact (rfl : _ = 8) | exact (rfl : _ = 9) | exact (rfl : _ = 10) | exact (rfl : _ = 11) | exact (rfl : _ = 12))) (by first | exact (rfl : _ = []) | exact (rfl : _ = [_]) | exact (rfl : _ = [_, _]) | exact (rfl : _ = [_, _, _]) | exact (rfl : _ = [_, _, _, _]) | exact (rfl : _ = [_, _, _, _, _]) | exact (rfl : _ = [_, _, _, _, _, _]) | exact (rfl : _ = [_, _, _, _, _, _, _]) | exact (rfl : _ = [_, _, _, _, _, _, _, _]) | exact (rfl : _ = [_, _, _, _, _, _, _, _, _]) | exact (rfl : _ = [_, _, _, _, _, _, _, _, _, _]) | exact (rfl : _ = [_, _, _, _, _, _, _, _, _, _, _]) | exact (rfl : _ = [_, _, _, _, _, _, _, _, _, _, _, _])) rfl ?_
  refine s_val (v_assignC rfl) rfl ?_
  refine s_nil ?_
  repeat (first
    | refine c_seq ?_
    | refine c_block ?_
    | refine c_skip ?_
    | refine c_exit ?_
    | refine c_ret ?_
    | refine c_label ?_
    | refine c_scope ?_
    | refine c_condT rfl (by first | rfl | (apply decide_eq_true; omega)) ?_
    | refine c_condF rfl (by first | rfl | (apply decide_eq_false; omega)) ?_)
  refine c_region ?_
  first
    | refine s_val (v_moveC rfl) rfl ?_
    | refine s_val (v_moveA rfl) rfl ?_
    | refine s_val (v_moveT rfl) rfl ?_
  first
    | refine s_val (v_lenS rfl Try.underlying23) rfl ?_
    | refine s_val (v_lenN rfl Try.underlying23) rfl ?_
    | refine s_val (v_lenE rfl Try.underlying23) rfl ?_
  first
    | refine s_val (v_gtrN (b := 1000) rfl rfl) rfl ?_
    | refine s_val (v_gtrI rfl rfl) rfl ?_
  refine s_nil ?_
  repeat (first
    | refine c_seq ?_
    | refine c_block ?_
    | refine c_skip ?_
    | refine c_label ?_
    | refine c_scope ?_)
  by_cases hbig : 1000 < n
  · refine c_condT rfl (decide_eq_true hbig) ?_
    repeat (first
      | refine c_seq ?_
      | refine c_block ?_
      | refine c_skip ?_
      | refine c_exit ?_
      | refine c_ret ?_
      | refine c_label ?_
      | refine c_scope ?_
      | refine c_condT rfl (by first | rfl | (apply decide_eq_true; omega)) ?_
      | refine c_condF rfl (by first | rfl | (apply decide_eq_false; omega)) ?_)
    refine c_region ?_
    refine s_val (v_assignC rfl) rfl ?_
    refine s_nil ?_
    repeat (first
      | refine c_seq ?_
      | refine c_block ?_
      | refine c_skip ?_
      | refine c_exit ?_
      | refine c_ret ?_
      | refine c_label ?_
      | refine c_scope ?_
      | refine c_condT rfl (by first | rfl | (apply decide_eq_true; omega)) ?_
      | refine c_condF rfl (by first | rfl | (apply decide_eq_false; omega)) ?_)
    exact k_1 (by first | exact r_tmpC rfl | exact r_tmpA rfl) (by first | kernel_rfl | rfl)
  · refine c_condF rfl (decide_eq_false hbig) ?_
    repeat (first
      | refine c_seq ?_
      | refine c_block ?_
      | refine c_skip ?_
      | refine c_exit ?_
      | refine c_ret ?_
      | refine c_label ?_
      | refine c_scope ?_
      | refine c_condT rfl (by first | rfl | (apply decide_eq_true; omega)) ?_
      | refine c_condF rfl (by first | rfl | (apply decide_eq_false; omega)) ?_)
    refine c_region ?_
    first
      | refine s_val (v_moveC rfl) rfl ?_
      | refine s_val (v_moveA rfl) rfl ?_
      | refine s_val (v_moveT rfl) rfl ?_
    refine s_evN (e_callR (v' := .c (.sl 2 0 n n 1)) (news := [.row true (.a8 t)]) (twin_ev t n cap ht (by omega)) ok_7 rfl rfl rfl rfl) (rfl : _ = [_, _, _]) rfl ?_
    first
      | refine s_val (v_assignC rfl) rfl ?_
      | refine s_val (v_assignA rfl) rfl ?_
      | refine s_val (v_assignT rfl) rfl ?_
    refine s_nil ?_
    repeat (first
      | refine c_seq ?_
      | refine c_block ?_
      | refine c_skip ?_
      | refine c_exit ?_
      | refine c_ret ?_
      | refine c_label ?_
      | refine c_scope ?_
      | refine c_condT rfl (by first | rfl | (apply decide_eq_true; omega)) ?_
      | refine c_condF rfl (by first | rfl | (apply decide_eq_false; omega)) ?_)
    refine c_draw 8 mixed (by kernel_rfl) rfl rfl rfl ?_
    refine h_val (v_loadR rfl rfl row_22 sz_22 (by show List.length _ = _; first | assumption | omega | (simp only [put_length]; first | assumption | omega) | (simp; done) | (simp; assumption) | (simp; omega) | rfl | simp only [zer64_length] | simp only [zer8_length] | simp only [zer32_length] | simp only [zeri_length]) (by decide)) rfl ?_
    first
      | refine h_val (v_moveC rfl) rfl ?_
      | refine h_val (v_moveA rfl) rfl ?_
      | refine h_val (v_moveT rfl) rfl ?_
    refine h_evN (e_callR (polyTag_ev key t n n hk ht (by omega)) ok_8 rfl rfl rfl (by first | exact (rfl : _ = AV.c (.val _)) | exact (rfl : _ = AV.agg (.a64 _)) | exact (rfl : _ = AV.agg (.a8 _)) | exact (rfl : _ = AV.agg (.a32 _)) | exact (rfl : _ = AV.c .nsl) | exact (rfl : _ = AV.c (.sl 0 _ _ _ _)) | exact (rfl : _ = AV.c (.sl 1 _ _ _ _)) | exact (rfl : _ = AV.c (.sl 2 _ _ _ _)) | exact (rfl : _ = AV.c (.sl 3 _ _ _ _)) | exact (rfl : _ = AV.c (.sl 4 _ _ _ _)) | exact (rfl : _ = AV.c (.sl 5 _ _ _ _)) | exact (rfl : _ = AV.c (.sl 6 _ _ _ _)) | exact (rfl : _ = AV.c (.sl 7 _ _ _ _)) | exact (rfl : _ = AV.c (.sl 8 _ _ _ _)) | exact (rfl : _ = AV.c (.sl 9 _ _ _ _)) | exact rfl)) (by first | exact (rfl : _ = []) | exact (rfl : _ = [_]) | exact (rfl : _ = [_, _]) | exact (rfl : _ = [_, _, _]) | exact (rfl : _ = [_, _, _, _]) | exact (rfl : _ = [_, _, _, _, _]) | exact (rfl : _ = [_, _, _, _, _, _]) | exact (rfl : _ = [_, _, _, _, _, _, _]) | exact (rfl : _ = [_, _, _, _, _, _, _, _]) | exact (rfl : _ = [_, _, _, _, _, _, _, _, _]) | exact (rfl : _ = [_, _, _, _, _, _, _, _, _, _]) | exact (rfl : _ = [_, _, _, _, _, _, _, _, _, _, _]) | exact (rfl : _ = [_, _, _, _, _, _, _, _, _, _, _, _])) rfl ?_
    refine h_val (v_loadR rfl rfl row_22 sz_22 (by show List.length _ = _; first | assumption | omega | (simp only [put_length]; first | assumption | omega) | (simp; done) | (simp; assumption) | (simp; omega) | rfl | simp only [zer64_length] | simp only [zer8_length] | simp only [zer32_length] | simp only [zeri_length]) (by decide)) rfl ?_
    first
      | refine h_val (v_moveC rfl) rfl ?_
      | refine h_val (v_moveA rfl) rfl ?_
      | refine h_val (v_moveT rfl) rfl ?_
    refine h_evN (e_callR (refTag_ev key t n cap hk ht (by omega)) ok_9 rfl rfl rfl (by first | exact (rfl : _ = AV.c (.val _)) | exact (rfl : _ = AV.agg (.a64 _)) | exact (rfl : _ = AV.agg (.a8 _)) | exact (rfl : _ = AV.agg (.a32 _)) | exact (rfl : _ = AV.c .nsl) | exact (rfl : _ = AV.c (.sl 0 _ _ _ _)) | exact (rfl : _ = AV.c (.sl 1 _ _ _ _)) | exact (rfl : _ = AV.c (.sl 2 _ _ _ _)) | exact (rfl : _ = AV.c (.sl 3 _ _ _ _)) | exact (rfl : _ = AV.c (.sl 4 _ _ _ _)) | exact (rfl : _ = AV.c (.sl 5 _ _ _ _)) | exact (rfl : _ = AV.c (.sl 6 _ _ _ _)) | exact (rfl : _ = AV.c (.sl 7 _ _ _ _)) | exact (rfl : _ = AV.c (.sl 8 _ _ _ _)) | exact (rfl : _ = AV.c (.sl 9 _ _ _ _)) | exact rfl)) (by first | exact (rfl : _ = []) | exact (rfl : _ = [_]) | exact (rfl : _ = [_, _]) | exact (rfl : _ = [_, _, _]) | exact (rfl : _ = [_, _, _, _]) | exact (rfl : _ = [_, _, _, _, _]) | exact (rfl : _ = [_, _, _, _, _, _]) | exact (rfl : _ = [_, _, _, _, _, _, _]) | exact (rfl : _ = [_, _, _, _, _, _, _, _]) | exact (rfl : _ = [_, _, _, _, _, _, _, _, _]) | exact (rfl : _ = [_, _, _, _, _, _, _, _, _, _]) | exact (rfl : _ = [_, _, _, _, _, _, _, _, _, _, _]) | exact (rfl : _ = [_, _, _, _, _, _, _, _, _, _, _, _])) rfl ?_
    refine h_memN (m_alloc al_25 (by first | exact (rfl : _ = 0) | exact (rfl : _ = 1) | exact (rfl : _ = 2) | exact (rfl : _ = 3) | exact (rfl : _ = 4) | exact (rfl : _ = 5) | exact (rfl : _ = 6) | exact (rfl : _ = 7) | exact (rfl : _ = 8) | exact (rfl : _ = 9) | exact (rfl : _ = 10) | exact (rfl : _ = 11) | exact (rfl : _ = 12))) (by first | exact (rfl : _ = []) | exact (rfl : _ = [_]) | exact (rfl : _ = [_, _]) | exact (rfl : _ = [_, _, _]) | exact (rfl : _ = [_, _, _, _]) | exact (rfl : _ = [_, _, _, _, _]) | exact (rfl : _ = [_, _, _, _, _, _]) | exact (rfl : _ = [_, _, _, _, _, _, _]) | exact (rfl : _ = [_, _, _, _, _, _, _, _]) | exact (rfl : _ = [_, _, _, _, _, _, _, _, _]) | exact (rfl : _ = [_, _, _, _, _, _, _, _, _, _]) | exact (rfl : _ = [_, _, _, _, _, _, _, _, _, _, _]) | exact (rfl : _ = [_, _, _, _, _, _, _, _, _, _, _, _])) rfl ?_
    refine h_memN (m_alloc al_25 (by first | exact (rfl : _ = 0) | exact (rfl : _ = 1) | exact (rfl : _ = 2) | exact (rfl : _ = 3) | exact (rfl : _ = 4) | exact (rfl : _ = 5) | exact (rfl : _ = 6) | exact (rfl : _ = 7) | exact (rfl : _ = 8) | exact (rfl : _ = 9) | exact (rfl : _ = 10) | exact (rfl : _ = 11) | exact (rfl : _ = 12))) (by first | exact (rfl : _ = []) | exact (rfl : _ = [_]) | exact (rfl : _ = [_, _]) | exact (rfl : _ = [_, _, _]) | exact (rfl : _ = [_, _, _, _]) | exact (rfl : _ = [_, _, _, _, _]) | exact (rfl : _ = [_, _, _, _, _, _]) | exact (rfl : _ = [_, _, _, _, _, _, _]) | exact (rfl : _ = [_, _, _, _, _, _, _, _]) | exact (rfl : _ = [_, _, _, _, _, _, _, _, _]) | exact (rfl : _ = [_, _, _, _, _, _, _, _, _, _]) | exact (rfl : _ = [_, _, _, _, _, _, _, _, _, _, _]) | exact (rfl : _ = [_, _, _, _, _, _, _, _, _, _, _, _])) rfl ?_
    refine h_nil ?_
    refine s_storeR rfl rfl rfl rfl sz_25 (by show List.length _ = _; first | assumption | omega | (simp only [put_length]; first | assumption | omega) | (simp; done) | (simp; assumption) | (simp; omega) | rfl | simp only [zer64_length] | simp only [zer8_length] | simp only [zer32_length] | simp only [zeri_length]) (by show List.length _ = _; first | assumption | omega | (simp only [put_length]; first | assumption | omega) | (simp; done) | (simp; assumption) | (simp; omega) | rfl | simp only [zer64_length] | simp only [zer8_length] | simp only [zer32_length] | simp only [zeri_length]) (by first | exact (rfl : _ = []) | exact (rfl : _ = [_]) | exact (rfl : _ = [_, _]) | exact (rfl : _ = [_, _, _]) | exact (rfl : _ = [_, _, _, _]) | exact (rfl : _ = [_, _, _, _, _]) | exact (rfl : _ = [_, _, _, _, _, _]) | exact (rfl : _ = [_, _, _, _, _, _, _]) | exact (rfl : _ = [_, _, _, _, _, _, _, _]) | exact (rfl : _ = [_, _, _, _, _, _, _, _, _]) | exact (rfl : _ = [_, _, _, _, _, _, _, _, _, _]) | exact (rfl : _ = [_, _, _, _, _, _, _, _, _, _, _]) | exact (rfl : _ = [_, _, _, _, _, _, _, _, _, _, _, _])) ?_
    refine s_storeR rfl rfl rfl rfl sz_25 (by show List.length _ = _; first | assumption | omega | (simp only [put_length]; first | assumption | omega) | (simp; done) | (simp; assumption) | (simp; omega) | rfl | simp only [zer64_length] | simp only [zer8_length] | simp only [zer32_length] | simp only [zeri_length]) (by show List.length _ = _; first | assumption | omega | (simp only [put_length]; first | assumption | omega) | (simp; done) | (simp; assumption) | (simp; omega) | rfl | simp only [zer64_length] | simp only [zer8_length] | simp only [zer32_length] | simp only [zeri_length]) (by first | exact (rfl : _ = []) | exact (rfl : _ = [_]) | exact (rfl : _ = [_, _]) | exact (rfl : _ = [_, _, _]) | exact (rfl : _ = [_, _, _, _]) | exact (rfl : _ = [_, _, _, _, _]) | exact (rfl : _ = [_, _, _, _, _, _]) | exact (rfl : _ = [_, _, _, _, _, _, _]) | exact (rfl : _ = [_, _, _, _, _, _, _, _]) | exact (rfl : _ = [_, _, _, _, _, _, _, _, _]) | exact (rfl : _ = [_, _, _, _, _, _, _, _, _, _]) | exact (rfl : _ = [_, _, _, _, _, _, _, _, _, _, _]) | exact (rfl : _ = [_, _, _, _, _, _, _, _, _, _, _, _])) ?_
    refine s_nil ?_
    rw [hlaw] at *
    repeat (first
      | refine c_seq ?_
      | refine c_block ?_
      | refine c_skip ?_
      | refine c_exit ?_
      | refine c_ret ?_
      | refine c_label ?_
      | refine c_scope ?_
      | refine c_condT rfl (by first | rfl | (apply decide_eq_true; omega)) ?_
      | refine c_condF rfl (by first | rfl | (apply decide_eq_false; omega)) ?_)
    refine c_draw 12 mixed (by kernel_rfl) rfl rfl rfl ?_
    first
      | refine h_val (v_slA1 (l := 0) (h := 16) (len := 16) (cp := 16) rfl Try.underlying25 sz_5 rfl rfl rfl (by omega) (by omega) (by show _ ≤ List.length _; first | omega | (simp only [put_length]; omega) | (simp only [zer8_length]; omega)) rfl rfl) rfl ?_
      | refine h_val (v_slA (l := 0) (h := 16) rfl Try.underlying25 sz_5 rfl rfl rfl (by omega) (by omega) (by show _ ≤ List.length _; first | omega | (simp only [put_length]; omega) | (simp only [zer8_length]; omega))) rfl ?_
    first
      | refine h_val (v_slA1 (l := 0) (h := 16) (len := 16) (cp := 16) rfl Try.underlying25 sz_5 rfl rfl rfl (by omega) (by omega) (by show _ ≤ List.length _; first | omega | (simp only [put_length]; omega) | (simp only [zer8_length]; omega)) rfl rfl) rfl ?_
      | refine h_val (v_slA (l := 0) (h := 16) rfl Try.underlying25 sz_5 rfl rfl rfl (by omega) (by omega) (by show _ ≤ List.length _; first | omega | (simp only [put_length]; omega) | (simp only [zer8_length]; omega))) rfl ?_
    refine h_evN (e_callR (bytes_ev _ _ 0 0 16 16 16 (by omega) (by omega) (by omega) (fun _ _ => rfl)) ok_10 rfl rfl rfl (by first | exact (rfl : _ = AV.c (.val _)) | exact (rfl : _ = AV.agg (.a64 _)) | exact (rfl : _ = AV.agg (.a8 _)) | exact (rfl : _ = AV.agg (.a32 _)) | exact (rfl : _ = AV.c .nsl) | exact (rfl : _ = AV.c (.sl 0 _ _ _ _)) | exact (rfl : _ = AV.c (.sl 1 _ _ _ _)) | exact (rfl : _ = AV.c (.sl 2 _ _ _ _)) | exact (rfl : _ = AV.c (.sl 3 _ _ _ _)) | exact (rfl : _ = AV.c (.sl 4 _ _ _ _)) | exact (rfl : _ = AV.c (.sl 5 _ _ _ _)) | exact (rfl : _ = AV.c (.sl 6 _ _ _ _)) | exact (rfl : _ = AV.c (.sl 7 _ _ _ _)) | exact (rfl : _ = AV.c (.sl 8 _ _ _ _)) | exact (rfl : _ = AV.c (.sl 9 _ _ _ _)) | exact rfl)) (by first | exact (rfl : _ = []) | exact (rfl : _ = [_]) | exact (rfl : _ = [_, _]) | exact (rfl : _ = [_, _, _]) | exact (rfl : _ = [_, _, _, _]) | exact (rfl : _ = [_, _, _, _, _]) | exact (rfl : _ = [_, _, _, _, _, _]) | exact (rfl : _ = [_, _, _, _, _, _, _]) | exact (rfl : _ = [_, _, _, _, _, _, _, _]) | exact (rfl : _ = [_, _, _, _, _, _, _, _, _]) | exact (rfl : _ = [_, _, _, _, _, _, _, _, _, _]) | exact (rfl : _ = [_, _, _, _, _, _, _, _, _, _, _]) | exact (rfl : _ = [_, _, _, _, _, _, _, _, _, _, _, _])) rfl ?_
    first
      | refine h_val (v_moveC rfl) rfl ?_
      | refine h_val (v_moveA rfl) rfl ?_
      | refine h_val (v_moveT rfl) rfl ?_
    refine h_go rfl ?_
    first
      | refine h_val (v_moveC rfl) rfl ?_
      | refine h_val (v_moveA rfl) rfl ?_
      | refine h_val (v_moveT rfl) rfl ?_
    refine h_go rfl ?_
    first
      | refine h_val (v_moveC rfl) rfl ?_
      | refine h_val (v_moveA rfl) rfl ?_
      | refine h_val (v_moveT rfl) rfl ?_
    refine h_go rfl ?_
    refine h_evN (e_callR (bytes_ev t t 0 0 n n cap (by omega) (by omega) (by omega) (fun _ _ => rfl)) ok_10 rfl rfl rfl (by first | exact (rfl : _ = AV.c (.val _)) | exact (rfl : _ = AV.agg (.a64 _)) | exact (rfl : _ = AV.agg (.a8 _)) | exact (rfl : _ = AV.agg (.a32 _)) | exact (rfl : _ = AV.c .nsl) | exact (rfl : _ = AV.c (.sl 0 _ _ _ _)) | exact (rfl : _ = AV.c (.sl 1 _ _ _ _)) | exact (rfl : _ = AV.c (.sl 2 _ _ _ _)) | exact (rfl : _ = AV.c (.sl 3 _ _ _ _)) | exact (rfl : _ = AV.c (.sl 4 _ _ _ _)) | exact (rfl : _ = AV.c (.sl 5 _ _ _ _)) | exact (rfl : _ = AV.c (.sl 6 _ _ _ _)) | exact (rfl : _ = AV.c (.sl 7 _ _ _ _)) | exact (rfl : _ = AV.c (.sl 8 _ _ _ _)) | exact (rfl : _ = AV.c (.sl 9 _ _ _ _)) | exact rfl)) (by first | exact (rfl : _ = []) | exact (rfl : _ = [_]) | exact (rfl : _ = [_, _]) | exact (rfl : _ = [_, _, _]) | exact (rfl : _ = [_, _, _, _]) | exact (rfl : _ = [_, _, _, _, _]) | exact (rfl : _ = [_, _, _, _, _, _]) | exact (rfl : _ = [_, _, _, _, _, _, _]) | exact (rfl : _ = [_, _, _, _, _, _, _, _]) | exact (rfl : _ = [_, _, _, _, _, _, _, _, _]) | exact (rfl : _ = [_, _, _, _, _, _, _, _, _, _]) | exact (rfl : _ = [_, _, _, _, _, _, _, _, _, _, _]) | exact (rfl : _ = [_, _, _, _, _, _, _, _, _, _, _, _])) rfl ?_
    first
      | refine h_val (v_pickT rfl (by first | rfl | assumption) rfl) rfl ?_
      | refine h_val (v_pickF rfl (by first | rfl | assumption) rfl) rfl ?_
    first
      | refine h_val (v_moveC rfl) rfl ?_
      | refine h_val (v_moveA rfl) rfl ?_
      | refine h_val (v_moveT rfl) rfl ?_
    refine h_go rfl ?_
    refine h_evN (e_callR (wakes_ev) ok_11 rfl rfl rfl (by first | exact (rfl : _ = AV.c (.val _)) | exact (rfl : _ = AV.agg (.a64 _)) | exact (rfl : _ = AV.agg (.a8 _)) | exact (rfl : _ = AV.agg (.a32 _)) | exact (rfl : _ = AV.c .nsl) | exact (rfl : _ = AV.c (.sl 0 _ _ _ _)) | exact (rfl : _ = AV.c (.sl 1 _ _ _ _)) | exact (rfl : _ = AV.c (.sl 2 _ _ _ _)) | exact (rfl : _ = AV.c (.sl 3 _ _ _ _)) | exact (rfl : _ = AV.c (.sl 4 _ _ _ _)) | exact (rfl : _ = AV.c (.sl 5 _ _ _ _)) | exact (rfl : _ = AV.c (.sl 6 _ _ _ _)) | exact (rfl : _ = AV.c (.sl 7 _ _ _ _)) | exact (rfl : _ = AV.c (.sl 8 _ _ _ _)) | exact (rfl : _ = AV.c (.sl 9 _ _ _ _)) | exact rfl)) (by first | exact (rfl : _ = []) | exact (rfl : _ = [_]) | exact (rfl : _ = [_, _]) | exact (rfl : _ = [_, _, _]) | exact (rfl : _ = [_, _, _, _]) | exact (rfl : _ = [_, _, _, _, _]) | exact (rfl : _ = [_, _, _, _, _, _]) | exact (rfl : _ = [_, _, _, _, _, _, _]) | exact (rfl : _ = [_, _, _, _, _, _, _, _]) | exact (rfl : _ = [_, _, _, _, _, _, _, _, _]) | exact (rfl : _ = [_, _, _, _, _, _, _, _, _, _]) | exact (rfl : _ = [_, _, _, _, _, _, _, _, _, _, _]) | exact (rfl : _ = [_, _, _, _, _, _, _, _, _, _, _, _])) rfl ?_
    first
      | refine h_val (v_pickT rfl (by first | rfl | assumption) rfl) rfl ?_
      | refine h_val (v_pickF rfl (by first | rfl | assumption) rfl) rfl ?_
    first
      | refine h_val (v_assignC rfl) rfl ?_
      | refine h_val (v_assignA rfl) rfl ?_
      | refine h_val (v_assignT rfl) rfl ?_
    refine h_nil ?_
    refine s_nil ?_
    repeat (first
      | refine c_seq ?_
      | refine c_block ?_
      | refine c_skip ?_
      | refine c_exit ?_
      | refine c_ret ?_
      | refine c_label ?_
      | refine c_scope ?_
      | refine c_condT rfl (by first | rfl | (apply decide_eq_true; omega)) ?_
      | refine c_condF rfl (by first | rfl | (apply decide_eq_false; omega)) ?_)
    exact k_1 (by first | exact r_tmpC rfl | exact r_tmpA rfl) (by first | kernel_rfl | rfl)
end Go.Proofs.Ytlphiohgehkjlaa
