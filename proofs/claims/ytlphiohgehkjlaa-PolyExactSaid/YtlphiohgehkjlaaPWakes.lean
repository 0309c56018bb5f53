/- The walk of trystlaw04's wakes. -/
import Derived.Test.YtlphiohgehkjlaaPTag
namespace Go.Proofs.Ytlphiohgehkjlaa
open Go.RowKit
def wkKey : List (BitVec 8) := [133#8, 214#8, 190#8, 120#8, 87#8, 85#8, 109#8, 51#8, 127#8, 68#8, 82#8, 254#8, 66#8, 213#8, 6#8, 168#8, 1#8, 3#8, 128#8, 138#8, 251#8, 13#8, 178#8, 253#8, 74#8, 191#8, 246#8, 175#8, 65#8, 73#8, 245#8, 27#8]
def wkText : List (BitVec 8) := [67#8, 114#8, 121#8, 112#8, 116#8, 111#8, 103#8, 114#8, 97#8, 112#8, 104#8, 105#8, 99#8, 32#8, 70#8, 111#8, 114#8, 117#8, 109#8, 32#8, 82#8, 101#8, 115#8, 101#8, 97#8, 114#8, 99#8, 104#8, 32#8, 71#8, 114#8, 111#8, 117#8, 112#8]
def wkTag : List (BitVec 8) := [0xa8#8, 0x06#8, 0x1d#8, 0xc1#8, 0x30#8, 0x51#8, 0x36#8, 0xc6#8, 0xc2#8, 0x2b#8, 0x8b#8, 0xaf#8, 0x0c#8, 0x01#8, 0x27#8, 0xa9#8]
theorem wk_tag : polyTag wkKey wkText = wkTag := by kernel_rfl
set_option maxRecDepth 100000 in
set_option maxHeartbeats 1000000 in
theorem wakes_ev : Ev Try.prog (.call 11 [] []) (.val (.c (.val (.bool true))) []) := by
  have hT := polyTag_ev wkKey wkText 34 34 rfl rfl (by decide)
  rw [wk_tag] at hT
  refine c_call Try.func11 rfl Try.ntmps11 rfl (by first | exact (rfl : _ = 0) | exact (rfl : _ = 1) | exact (rfl : _ = 2) | exact (rfl : _ = 3) | exact (rfl : _ = 4) | exact (rfl : _ = 5) | exact (rfl : _ = 6) | exact (rfl : _ = 7) | exact (rfl : _ = 8) | exact (rfl : _ = 9) | exact (rfl : _ = 10) | exact (rfl : _ = 11) | exact (rfl : _ = 12)) ?_
  repeat (first
    | refine c_seq ?_
    | refine c_block ?_
    | refine c_skip ?_
    | refine c_exit ?_
    | refine c_ret ?_
    | refine c_label ?_
    | refine c_scope ?_
    | refine c_condT rfl (by first | rfl | (apply decide_eq_true; omega)) ?_
    | refine c_condF rfl (by first | rfl | (apply decide_eq_false; omega)) ?_)
  refine c_region ?_
  refine s_val (v_assignC rfl) rfl ?_
  refine s_nil ?_
  repeat (first
    | refine c_seq ?_
    | refine c_block ?_
    | refine c_skip ?_
    | refine c_exit ?_
    | refine c_ret ?_
    | refine c_label ?_
    | refine c_scope ?_
    | refine c_condT rfl (by first | rfl | (apply decide_eq_true; omega)) ?_
    | refine c_condF rfl (by first | rfl | (apply decide_eq_false; omega)) ?_)
  refine c_region ?_
  refine s_val (v_bld8 (l := [133#8, 214#8, 190#8, 120#8, 87#8, 85#8, 109#8, 51#8, 127#8, 68#8, 82#8, 254#8, 66#8, 213#8, 6#8, 168#8, 1#8, 3#8, 128#8, 138#8, 251#8, 13#8, 178#8, 253#8, 74#8, 191#8, 246#8, 175#8, 65#8, 73#8, 245#8, 27#8]) zc_22 Try.underlying22 sz_5 rfl rfl (by decide)) rfl ?_
  refine s_memN (m_alloc al_22 (by first | exact (rfl : _ = 0) | exact (rfl : _ = 1) | exact (rfl : _ = 2) | exact (rfl : _ = 3) | exact (rfl : _ = 4) | exact (rfl : _ = 5) | exact (rfl : _ = 6) | exact (rfl : _ = 7) | exact (rfl : _ = 8) | exact (rfl : _ = 9) | exact (rfl : _ = 10) | exact (rfl : _ = 11) | exact (rfl : _ = 12))) (by first | exact (rfl : _ = []) | exact (rfl : _ = [_]) | exact (rfl : _ = [_, _]) | exact (rfl : _ = [_, _, _]) | exact (rfl : _ = [_, _, _, _]) | exact (rfl : _ = [_, _, _, _, _]) | exact (rfl : _ = [_, _, _, _, _, _]) | exact (rfl : _ = [_, _, _, _, _, _, _]) | exact (rfl : _ = [_, _, _, _, _, _, _, _]) | exact (rfl : _ = [_, _, _, _, _, _, _, _, _]) | exact (rfl : _ = [_, _, _, _, _, _, _, _, _, _]) | exact (rfl : _ = [_, _, _, _, _, _, _, _, _, _, _]) | exact (rfl : _ = [_, _, _, _, _, _, _, _, _, _, _, _])) rfl ?_
  refine s_storeR rfl rfl rfl rfl sz_22 (by show List.length _ = _; first | assumption | omega | (simp only [put_length]; first | assumption | omega) | (simp; done) | (simp; assumption) | (simp; omega) | rfl | simp only [zer64_length] | simp only [zer8_length] | simp only [zer32_length] | simp only [zeri_length]) (by show List.length _ = _; first | assumption | omega | (simp only [put_length]; first | assumption | omega) | (simp; done) | (simp; assumption) | (simp; omega) | rfl | simp only [zer64_length] | simp only [zer8_length] | simp only [zer32_length] | simp only [zeri_length]) (by first | exact (rfl : _ = []) | exact (rfl : _ = [_]) | exact (rfl : _ = [_, _]) | exact (rfl : _ = [_, _, _]) | exact (rfl : _ = [_, _, _, _]) | exact (rfl : _ = [_, _, _, _, _]) | exact (rfl : _ = [_, _, _, _, _, _]) | exact (rfl : _ = [_, _, _, _, _, _, _]) | exact (rfl : _ = [_, _, _, _, _, _, _, _]) | exact (rfl : _ = [_, _, _, _, _, _, _, _, _]) | exact (rfl : _ = [_, _, _, _, _, _, _, _, _, _]) | exact (rfl : _ = [_, _, _, _, _, _, _, _, _, _, _]) | exact (rfl : _ = [_, _, _, _, _, _, _, _, _, _, _, _])) ?_
  refine s_nil ?_
  repeat (first
    | refine c_seq ?_
    | refine c_block ?_
    | refine c_skip ?_
    | refine c_exit ?_
    | refine c_ret ?_
    | refine c_label ?_
    | refine c_scope ?_
    | refine c_condT rfl (by first | rfl | (apply decide_eq_true; omega)) ?_
    | refine c_condF rfl (by first | rfl | (apply decide_eq_false; omega)) ?_)
  refine c_region ?_
  refine s_val (v_loadR rfl rfl row_22 sz_22 (by show List.length _ = _; first | assumption | omega | (simp only [put_length]; first | assumption | omega) | (simp; done) | (simp; assumption) | (simp; omega) | rfl | simp only [zer64_length] | simp only [zer8_length] | simp only [zer32_length] | simp only [zeri_length]) (by decide)) rfl ?_
  refine s_memN (m_bs8 (l := [67#8, 114#8, 121#8, 112#8, 116#8, 111#8, 103#8, 114#8, 97#8, 112#8, 104#8, 105#8, 99#8, 32#8, 70#8, 111#8, 114#8, 117#8, 109#8, 32#8, 82#8, 101#8, 115#8, 101#8, 97#8, 114#8, 99#8, 104#8, 32#8, 71#8, 114#8, 111#8, 117#8, 112#8]) Try.underlying23 el_5 rfl rfl (by decide) (by decide) (by first | exact (rfl : _ = 0) | exact (rfl : _ = 1) | exact (rfl : _ = 2) | exact (rfl : _ = 3) | exact (rfl : _ = 4) | exact (rfl : _ = 5) | exact (rfl : _ = 6) | exact (rfl : _ = 7) | exact (rfl : _ = 8) | exact (rfl : _ = 9) | exact (rfl : _ = 10) | exact (rfl : _ = 11) | exact (rfl : _ = 12))) (by first | exact (rfl : _ = []) | exact (rfl : _ = [_]) | exact (rfl : _ = [_, _]) | exact (rfl : _ = [_, _, _]) | exact (rfl : _ = [_, _, _, _]) | exact (rfl : _ = [_, _, _, _, _]) | exact (rfl : _ = [_, _, _, _, _, _]) | exact (rfl : _ = [_, _, _, _, _, _, _]) | exact (rfl : _ = [_, _, _, _, _, _, _, _]) | exact (rfl : _ = [_, _, _, _, _, _, _, _, _]) | exact (rfl : _ = [_, _, _, _, _, _, _, _, _, _]) | exact (rfl : _ = [_, _, _, _, _, _, _, _, _, _, _]) | exact (rfl : _ = [_, _, _, _, _, _, _, _, _, _, _, _])) rfl ?_
  refine s_mark rfl Try.underlying23 Try.underlying5 rfl rfl (by decide) (by first | exact (rfl : _ = 0) | exact (rfl : _ = 1) | exact (rfl : _ = 2) | exact (rfl : _ = 3) | exact (rfl : _ = 4) | exact (rfl : _ = 5) | exact (rfl : _ = 6) | exact (rfl : _ = 7) | exact (rfl : _ = 8) | exact (rfl : _ = 9) | exact (rfl : _ = 10) | exact (rfl : _ = 11) | exact (rfl : _ = 12)) (by first | exact (rfl : _ = []) | exact (rfl : _ = [_]) | exact (rfl : _ = [_, _]) | exact (rfl : _ = [_, _, _]) | exact (rfl : _ = [_, _, _, _]) | exact (rfl : _ = [_, _, _, _, _]) | exact (rfl : _ = [_, _, _, _, _, _]) | exact (rfl : _ = [_, _, _, _, _, _, _]) | exact (rfl : _ = [_, _, _, _, _, _, _, _]) | exact (rfl : _ = [_, _, _, _, _, _, _, _, _]) | exact (rfl : _ = [_, _, _, _, _, _, _, _, _, _]) | exact (rfl : _ = [_, _, _, _, _, _, _, _, _, _, _]) | exact (rfl : _ = [_, _, _, _, _, _, _, _, _, _, _, _])) rfl ?_
  refine s_evN (e_callR (hT) ok_8 rfl rfl rfl (by first | exact (rfl : _ = AV.c (.val _)) | exact (rfl : _ = AV.agg (.a64 _)) | exact (rfl : _ = AV.agg (.a8 _)) | exact (rfl : _ = AV.agg (.a32 _)) | exact (rfl : _ = AV.c .nsl) | exact (rfl : _ = AV.c (.sl 0 _ _ _ _)) | exact (rfl : _ = AV.c (.sl 1 _ _ _ _)) | exact (rfl : _ = AV.c (.sl 2 _ _ _ _)) | exact (rfl : _ = AV.c (.sl 3 _ _ _ _)) | exact (rfl : _ = AV.c (.sl 4 _ _ _ _)) | exact (rfl : _ = AV.c (.sl 5 _ _ _ _)) | exact (rfl : _ = AV.c (.sl 6 _ _ _ _)) | exact (rfl : _ = AV.c (.sl 7 _ _ _ _)) | exact (rfl : _ = AV.c (.sl 8 _ _ _ _)) | exact (rfl : _ = AV.c (.sl 9 _ _ _ _)) | exact rfl)) (by first | exact (rfl : _ = []) | exact (rfl : _ = [_]) | exact (rfl : _ = [_, _]) | exact (rfl : _ = [_, _, _]) | exact (rfl : _ = [_, _, _, _]) | exact (rfl : _ = [_, _, _, _, _]) | exact (rfl : _ = [_, _, _, _, _, _]) | exact (rfl : _ = [_, _, _, _, _, _, _]) | exact (rfl : _ = [_, _, _, _, _, _, _, _]) | exact (rfl : _ = [_, _, _, _, _, _, _, _, _]) | exact (rfl : _ = [_, _, _, _, _, _, _, _, _, _]) | exact (rfl : _ = [_, _, _, _, _, _, _, _, _, _, _]) | exact (rfl : _ = [_, _, _, _, _, _, _, _, _, _, _, _])) rfl ?_
  refine s_memN (m_alloc al_25 (by first | exact (rfl : _ = 0) | exact (rfl : _ = 1) | exact (rfl : _ = 2) | exact (rfl : _ = 3) | exact (rfl : _ = 4) | exact (rfl : _ = 5) | exact (rfl : _ = 6) | exact (rfl : _ = 7) | exact (rfl : _ = 8) | exact (rfl : _ = 9) | exact (rfl : _ = 10) | exact (rfl : _ = 11) | exact (rfl : _ = 12))) (by first | exact (rfl : _ = []) | exact (rfl : _ = [_]) | exact (rfl : _ = [_, _]) | exact (rfl : _ = [_, _, _]) | exact (rfl : _ = [_, _, _, _]) | exact (rfl : _ = [_, _, _, _, _]) | exact (rfl : _ = [_, _, _, _, _, _]) | exact (rfl : _ = [_, _, _, _, _, _, _]) | exact (rfl : _ = [_, _, _, _, _, _, _, _]) | exact (rfl : _ = [_, _, _, _, _, _, _, _, _]) | exact (rfl : _ = [_, _, _, _, _, _, _, _, _, _]) | exact (rfl : _ = [_, _, _, _, _, _, _, _, _, _, _]) | exact (rfl : _ = [_, _, _, _, _, _, _, _, _, _, _, _])) rfl ?_
  refine s_storeR rfl rfl rfl rfl sz_25 (by show List.length _ = _; first | assumption | omega | (simp only [put_length]; first | assumption | omega) | (simp; done) | (simp; assumption) | (simp; omega) | rfl | simp only [zer64_length] | simp only [zer8_length] | simp only [zer32_length] | simp only [zeri_length]) (by show List.length _ = _; first | assumption | omega | (simp only [put_length]; first | assumption | omega) | (simp; done) | (simp; assumption) | (simp; omega) | rfl | simp only [zer64_length] | simp only [zer8_length] | simp only [zer32_length] | simp only [zeri_length]) (by first | exact (rfl : _ = []) | exact (rfl : _ = [_]) | exact (rfl : _ = [_, _]) | exact (rfl : _ = [_, _, _]) | exact (rfl : _ = [_, _, _, _]) | exact (rfl : _ = [_, _, _, _, _]) | exact (rfl : _ = [_, _, _, _, _, _]) | exact (rfl : _ = [_, _, _, _, _, _, _]) | exact (rfl : _ = [_, _, _, _, _, _, _, _]) | exact (rfl : _ = [_, _, _, _, _, _, _, _, _]) | exact (rfl : _ = [_, _, _, _, _, _, _, _, _, _]) | exact (rfl : _ = [_, _, _, _, _, _, _, _, _, _, _]) | exact (rfl : _ = [_, _, _, _, _, _, _, _, _, _, _, _])) ?_
  refine s_nil ?_
  repeat (first
    | refine c_seq ?_
    | refine c_block ?_
    | refine c_skip ?_
    | refine c_exit ?_
    | refine c_ret ?_
    | refine c_label ?_
    | refine c_scope ?_
    | refine c_condT rfl (by first | rfl | (apply decide_eq_true; omega)) ?_
    | refine c_condF rfl (by first | rfl | (apply decide_eq_false; omega)) ?_)
  refine c_region ?_
  first
    | refine s_val (v_idxA1 (j := 0) rfl rfl Try.underlying25 sz_5 (by omega)) rfl ?_
    | refine s_val (v_idxA (j := 0) rfl rfl Try.underlying25 sz_5 (by omega)) rfl ?_
  refine s_val (v_load8 rfl rfl row_5 (by first | omega | (simp only [put_length]; omega) | (simp only [zer64_length]; omega) | (simp only [zer8_length]; omega) | (simp only [zer32_length]; omega) | (simp only [zeri_length]; omega) | (simp only [puti_length]; omega) | decide)) rfl ?_
  refine s_val (v_eql8 (b := 168#8) rfl rfl) rfl ?_
  first
    | refine s_val (v_moveC rfl) rfl ?_
    | refine s_val (v_moveA rfl) rfl ?_
    | refine s_val (v_moveT rfl) rfl ?_
  refine s_go rfl ?_
  first
    | refine s_val (v_idxA1 (j := 1) rfl rfl Try.underlying25 sz_5 (by omega)) rfl ?_
    | refine s_val (v_idxA (j := 1) rfl rfl Try.underlying25 sz_5 (by omega)) rfl ?_
  refine s_go rfl ?_
  refine s_val (v_load8 rfl rfl row_5 (by first | omega | (simp only [put_length]; omega) | (simp only [zer64_length]; omega) | (simp only [zer8_length]; omega) | (simp only [zer32_length]; omega) | (simp only [zeri_length]; omega) | (simp only [puti_length]; omega) | decide)) rfl ?_
  refine s_go rfl ?_
  refine s_val (v_eql8 (b := 6#8) rfl rfl) rfl ?_
  first
    | refine s_val (v_pickT rfl (by first | rfl | assumption) rfl) rfl ?_
    | refine s_val (v_pickF rfl (by first | rfl | assumption) rfl) rfl ?_
  first
    | refine s_val (v_moveC rfl) rfl ?_
    | refine s_val (v_moveA rfl) rfl ?_
    | refine s_val (v_moveT rfl) rfl ?_
  refine s_go rfl ?_
  first
    | refine s_val (v_idxA1 (j := 2) rfl rfl Try.underlying25 sz_5 (by omega)) rfl ?_
    | refine s_val (v_idxA (j := 2) rfl rfl Try.underlying25 sz_5 (by omega)) rfl ?_
  refine s_go rfl ?_
  refine s_val (v_load8 rfl rfl row_5 (by first | omega | (simp only [put_length]; omega) | (simp only [zer64_length]; omega) | (simp only [zer8_length]; omega) | (simp only [zer32_length]; omega) | (simp only [zeri_length]; omega) | (simp only [puti_length]; omega) | decide)) rfl ?_
  refine s_go rfl ?_
  refine s_val (v_eql8 (b := 29#8) rfl rfl) rfl ?_
  first
    | refine s_val (v_pickT rfl (by first | rfl | assumption) rfl) rfl ?_
    | refine s_val (v_pickF rfl (by first | rfl | assumption) rfl) rfl ?_
  first
    | refine s_val (v_moveC rfl) rfl ?_
    | refine s_val (v_moveA rfl) rfl ?_
    | refine s_val (v_moveT rfl) rfl ?_
  refine s_go rfl ?_
  first
    | refine s_val (v_idxA1 (j := 15) rfl rfl Try.underlying25 sz_5 (by omega)) rfl ?_
    | refine s_val (v_idxA (j := 15) rfl rfl Try.underlying25 sz_5 (by omega)) rfl ?_
  refine s_go rfl ?_
  refine s_val (v_load8 rfl rfl row_5 (by first | omega | (simp only [put_length]; omega) | (simp only [zer64_length]; omega) | (simp only [zer8_length]; omega) | (simp only [zer32_length]; omega) | (simp only [zeri_length]; omega) | (simp only [puti_length]; omega) | decide)) rfl ?_
  refine s_go rfl ?_
  refine s_val (v_eql8 (b := 169#8) rfl rfl) rfl ?_
  first
    | refine s_val (v_pickT rfl (by first | rfl | assumption) rfl) rfl ?_
    | refine s_val (v_pickF rfl (by first | rfl | assumption) rfl) rfl ?_
  first
    | refine s_val (v_assignC rfl) rfl ?_
    | refine s_val (v_assignA rfl) rfl ?_
    | refine s_val (v_assignT rfl) rfl ?_
  refine s_nil ?_
  repeat (first
    | refine c_seq ?_
    | refine c_block ?_
    | refine c_skip ?_
    | refine c_exit ?_
    | refine c_ret ?_
    | refine c_label ?_
    | refine c_scope ?_
    | refine c_condT rfl (by first | rfl | (apply decide_eq_true; omega)) ?_
    | refine c_condF rfl (by first | rfl | (apply decide_eq_false; omega)) ?_)
  exact k_1 (by first | exact r_tmpC rfl | exact r_tmpA rfl) (by first | kernel_rfl | rfl)
end Go.Proofs.Ytlphiohgehkjlaa
