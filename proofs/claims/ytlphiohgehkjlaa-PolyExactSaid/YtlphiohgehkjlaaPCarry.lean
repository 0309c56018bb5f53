/- The walk of poly.carried. -/
import Derived.Test.YtlphiohgehkjlaaAvTy
namespace Go.Proofs.Ytlphiohgehkjlaa
open Go.RowKit
/-- What has been carried on, word by word: the words, and what is over. -/
def carrySt (l : List (BitVec 64)) : Nat → List (BitVec 64) × BitVec 64
  | 0 => (l, 0#64)
  | k + 1 => (put (carrySt l k).1 k ((nth (carrySt l k).1 k + (carrySt l k).2) &&& 67108863#64), (nth (carrySt l k).1 k + (carrySt l k).2) >>> 26)
theorem carrySt_succ (l : List (BitVec 64)) (k : Nat) : carrySt l (k + 1) = (put (carrySt l k).1 k ((nth (carrySt l k).1 k + (carrySt l k).2) &&& 67108863#64), (nth (carrySt l k).1 k + (carrySt l k).2) >>> 26) := rfl
theorem carrySt_length (l : List (BitVec 64)) (k : Nat) : (carrySt l k).1.length = l.length := by
  induction k with
  | zero => rfl
  | succ k ih => simp [carrySt, ih]
def carriedL (l : List (BitVec 64)) : List (BitVec 64) := put (carrySt l 5).1 0 (nth (carrySt l 5).1 0 + 5#64 * (carrySt l 5).2)
set_option maxRecDepth 100000 in
theorem carried_ev (l : List (BitVec 64)) (hl : l.length = 5) : Ev Try.prog (.call 17 [.agg (.a64 l)] []) (.val (.agg (.a64 (carriedL l))) []) := by
  refine c_call Try.func17 rfl Try.ntmps17 rfl (by first | exact (rfl : _ = 0) | exact (rfl : _ = 1) | exact (rfl : _ = 2) | exact (rfl : _ = 3) | exact (rfl : _ = 4) | exact (rfl : _ = 5) | exact (rfl : _ = 6) | exact (rfl : _ = 7) | exact (rfl : _ = 8) | exact (rfl : _ = 9) | exact (rfl : _ = 10) | exact (rfl : _ = 11) | exact (rfl : _ = 12)) ?_
  repeat (first
    | refine c_seq ?_
    | refine c_block ?_
    | refine c_skip ?_
    | refine c_exit ?_
    | refine c_ret ?_
    | refine c_label ?_
    | refine c_scope ?_
    | refine c_condT rfl (by first | rfl | (apply decide_eq_true; omega)) ?_
    | refine c_condF rfl (by first | rfl | (apply decide_eq_false; omega)) ?_)
  refine c_region ?_
  refine s_memN (m_box (by first | rfl) (by first | exact (rfl : _ = 0) | exact (rfl : _ = 1) | exact (rfl : _ = 2) | exact (rfl : _ = 3) | exact (rfl : _ = 4) | exact (rfl : _ = 5) | exact (rfl : _ = 6) | exact (rfl : _ = 7) | exact (rfl : _ = 8) | exact (rfl : _ = 9) | exact (rfl : _ = 10) | exact (rfl : _ = 11) | exact (rfl : _ = 12))) (by first | exact (rfl : _ = []) | exact (rfl : _ = [_]) | exact (rfl : _ = [_, _]) | exact (rfl : _ = [_, _, _]) | exact (rfl : _ = [_, _, _, _]) | exact (rfl : _ = [_, _, _, _, _]) | exact (rfl : _ = [_, _, _, _, _, _]) | exact (rfl : _ = [_, _, _, _, _, _, _]) | exact (rfl : _ = [_, _, _, _, _, _, _, _]) | exact (rfl : _ = [_, _, _, _, _, _, _, _, _]) | exact (rfl : _ = [_, _, _, _, _, _, _, _, _, _]) | exact (rfl : _ = [_, _, _, _, _, _, _, _, _, _, _]) | exact (rfl : _ = [_, _, _, _, _, _, _, _, _, _, _, _])) rfl ?_
  refine s_memN (m_alloc al_38 (by first | exact (rfl : _ = 0) | exact (rfl : _ = 1) | exact (rfl : _ = 2) | exact (rfl : _ = 3) | exact (rfl : _ = 4) | exact (rfl : _ = 5) | exact (rfl : _ = 6) | exact (rfl : _ = 7) | exact (rfl : _ = 8) | exact (rfl : _ = 9) | exact (rfl : _ = 10) | exact (rfl : _ = 11) | exact (rfl : _ = 12))) (by first | exact (rfl : _ = []) | exact (rfl : _ = [_]) | exact (rfl : _ = [_, _]) | exact (rfl : _ = [_, _, _]) | exact (rfl : _ = [_, _, _, _]) | exact (rfl : _ = [_, _, _, _, _]) | exact (rfl : _ = [_, _, _, _, _, _]) | exact (rfl : _ = [_, _, _, _, _, _, _]) | exact (rfl : _ = [_, _, _, _, _, _, _, _]) | exact (rfl : _ = [_, _, _, _, _, _, _, _, _]) | exact (rfl : _ = [_, _, _, _, _, _, _, _, _, _]) | exact (rfl : _ = [_, _, _, _, _, _, _, _, _, _, _]) | exact (rfl : _ = [_, _, _, _, _, _, _, _, _, _, _, _])) rfl ?_
  refine s_nil ?_
  repeat (first
    | refine c_seq ?_
    | refine c_block ?_
    | refine c_skip ?_
    | refine c_exit ?_
    | refine c_ret ?_
    | refine c_label ?_
    | refine c_scope ?_
    | refine c_condT rfl (by first | rfl | (apply decide_eq_true; omega)) ?_
    | refine c_condF rfl (by first | rfl | (apply decide_eq_false; omega)) ?_)
  refine c_region ?_
  refine s_val (v_assignC rfl) rfl ?_
  refine s_nil ?_
  repeat (first
    | refine c_seq ?_
    | refine c_block ?_
    | refine c_skip ?_
    | refine c_exit ?_
    | refine c_ret ?_
    | refine c_label ?_
    | refine c_scope ?_
    | refine c_condT rfl (by first | rfl | (apply decide_eq_true; omega)) ?_
    | refine c_condF rfl (by first | rfl | (apply decide_eq_false; omega)) ?_)
  refine c_region ?_
  refine s_val (v_moveC rfl) rfl ?_
  refine s_nil ?_
  refine c_clean [5, 3, 1, 2] rfl ?_
  repeat (first
    | refine c_seq ?_
    | refine c_block ?_
    | refine c_skip ?_
    | refine c_exit ?_
    | refine c_ret ?_
    | refine c_label ?_
    | refine c_scope ?_
    | refine c_condT rfl (by first | rfl | (apply decide_eq_true; omega)) ?_
    | refine c_condF rfl (by first | rfl | (apply decide_eq_false; omega)) ?_)
  refine c_loop [5, 3, 1, 2] (fun (x : Nat × BitVec 64 × List (BitVec 64)) => ⟨31, keepT [5, 3, 1, 2] [.c (.val (.int .i64 x.1)), .c (.val (U64 x.2.1)), .c (.ptr 0 0), .c (.ptr 1 0)], [.row true (.a64 x.2.2), .row true (.a64 (zer64 5))]⟩) (fun j => (j, (carrySt l j).2, (carrySt l j).1)) 5 rfl ?r ?e
  case r =>
    intro j hj
    have h1 : (carrySt l j).1.length = 5 := by rw [carrySt_length, hl]
    generalize hS : (carrySt l j).1 = S at *
    generalize hC : (carrySt l j).2 = C at *
    dsimp only
    repeat (first
      | refine c_seq ?_
      | refine c_block ?_
      | refine c_skip ?_
      | refine c_exit ?_
      | refine c_ret ?_
      | refine c_label ?_
      | refine c_scope ?_
      | refine c_condT rfl (by first | rfl | (apply decide_eq_true; omega)) ?_
      | refine c_condF rfl (by first | rfl | (apply decide_eq_false; omega)) ?_)
    refine c_region ?_
    first
      | refine s_val (v_lssN (b := 5) rfl rfl) rfl ?_
      | refine s_val (v_lssI rfl rfl) rfl ?_
    refine s_nil ?_
    repeat (first
      | refine c_seq ?_
      | refine c_block ?_
      | refine c_skip ?_
      | refine c_exit ?_
      | refine c_ret ?_
      | refine c_label ?_
      | refine c_scope ?_
      | refine c_condT rfl (by first | rfl | (apply decide_eq_true; omega)) ?_
      | refine c_condF rfl (by first | rfl | (apply decide_eq_false; omega)) ?_)
    refine c_region ?_
    first
      | refine s_val (v_moveC rfl) rfl ?_
      | refine s_val (v_moveA rfl) rfl ?_
      | refine s_val (v_moveT rfl) rfl ?_
    first
      | refine s_val (v_assignC rfl) rfl ?_
      | refine s_val (v_assignA rfl) rfl ?_
      | refine s_val (v_assignT rfl) rfl ?_
    refine s_nil ?_
    repeat (first
      | refine c_seq ?_
      | refine c_block ?_
      | refine c_skip ?_
      | refine c_exit ?_
      | refine c_ret ?_
      | refine c_label ?_
      | refine c_scope ?_
      | refine c_condT rfl (by first | rfl | (apply decide_eq_true; omega)) ?_
      | refine c_condF rfl (by first | rfl | (apply decide_eq_false; omega)) ?_)
    refine c_region ?_
    first
      | refine s_val (v_moveC rfl) rfl ?_
      | refine s_val (v_moveA rfl) rfl ?_
      | refine s_val (v_moveT rfl) rfl ?_
    first
      | refine s_val (v_idxA1 rfl rfl Try.underlying38 sz_36 (by omega)) rfl ?_
      | refine s_val (v_idxA rfl rfl Try.underlying38 sz_36 (by omega)) rfl ?_
    refine s_val (v_load64 rfl rfl row_36 (by first | omega | (simp only [put_length]; omega) | (simp only [zer64_length]; omega) | (simp only [zer8_length]; omega) | (simp only [zer32_length]; omega) | (simp only [zeri_length]; omega) | (simp only [puti_length]; omega))) rfl ?_
    first
      | refine s_val (v_moveC rfl) rfl ?_
      | refine s_val (v_moveA rfl) rfl ?_
      | refine s_val (v_moveT rfl) rfl ?_
    refine s_val (v_add64 rfl rfl) rfl ?_
    first
      | refine s_val (v_idxA1 rfl rfl Try.underlying38 sz_36 (by omega)) rfl ?_
      | refine s_val (v_idxA rfl rfl Try.underlying38 sz_36 (by omega)) rfl ?_
    refine s_store64 rfl rfl rfl sz_36 (by first | omega | (simp only [put_length]; omega) | (simp only [zer64_length]; omega) | (simp only [zer8_length]; omega) | (simp only [zer32_length]; omega) | (simp only [zeri_length]; omega) | (simp only [puti_length]; omega)) (by first | exact (rfl : _ = []) | exact (rfl : _ = [_]) | exact (rfl : _ = [_, _]) | exact (rfl : _ = [_, _, _]) | exact (rfl : _ = [_, _, _, _]) | exact (rfl : _ = [_, _, _, _, _]) | exact (rfl : _ = [_, _, _, _, _, _]) | exact (rfl : _ = [_, _, _, _, _, _, _]) | exact (rfl : _ = [_, _, _, _, _, _, _, _]) | exact (rfl : _ = [_, _, _, _, _, _, _, _, _]) | exact (rfl : _ = [_, _, _, _, _, _, _, _, _, _]) | exact (rfl : _ = [_, _, _, _, _, _, _, _, _, _, _]) | exact (rfl : _ = [_, _, _, _, _, _, _, _, _, _, _, _])) ?_
    refine s_nil ?_
    repeat (first
      | refine c_seq ?_
      | refine c_block ?_
      | refine c_skip ?_
      | refine c_exit ?_
      | refine c_ret ?_
      | refine c_label ?_
      | refine c_scope ?_
      | refine c_condT rfl (by first | rfl | (apply decide_eq_true; omega)) ?_
      | refine c_condF rfl (by first | rfl | (apply decide_eq_false; omega)) ?_)
    refine c_region ?_
    first
      | refine s_val (v_moveC rfl) rfl ?_
      | refine s_val (v_moveA rfl) rfl ?_
      | refine s_val (v_moveT rfl) rfl ?_
    first
      | refine s_val (v_idxA1 rfl rfl Try.underlying38 sz_36 (by omega)) rfl ?_
      | refine s_val (v_idxA rfl rfl Try.underlying38 sz_36 (by omega)) rfl ?_
    refine s_val (v_load64 rfl rfl row_36 (by first | omega | (simp only [put_length]; omega) | (simp only [zer64_length]; omega) | (simp only [zer8_length]; omega) | (simp only [zer32_length]; omega) | (simp only [zeri_length]; omega) | (simp only [puti_length]; omega))) rfl ?_
    refine s_val (v_shr64n (j := 26) rfl rfl) rfl ?_
    first
      | refine s_val (v_assignC rfl) rfl ?_
      | refine s_val (v_assignA rfl) rfl ?_
      | refine s_val (v_assignT rfl) rfl ?_
    refine s_nil ?_
    repeat (first
      | refine c_seq ?_
      | refine c_block ?_
      | refine c_skip ?_
      | refine c_exit ?_
      | refine c_ret ?_
      | refine c_label ?_
      | refine c_scope ?_
      | refine c_condT rfl (by first | rfl | (apply decide_eq_true; omega)) ?_
      | refine c_condF rfl (by first | rfl | (apply decide_eq_false; omega)) ?_)
    refine c_region ?_
    first
      | refine s_val (v_moveC rfl) rfl ?_
      | refine s_val (v_moveA rfl) rfl ?_
      | refine s_val (v_moveT rfl) rfl ?_
    first
      | refine s_val (v_idxA1 rfl rfl Try.underlying38 sz_36 (by omega)) rfl ?_
      | refine s_val (v_idxA rfl rfl Try.underlying38 sz_36 (by omega)) rfl ?_
    refine s_val (v_load64 rfl rfl row_36 (by first | omega | (simp only [put_length]; omega) | (simp only [zer64_length]; omega) | (simp only [zer8_length]; omega) | (simp only [zer32_length]; omega) | (simp only [zeri_length]; omega) | (simp only [puti_length]; omega))) rfl ?_
    refine s_val (v_and64 (b := 67108863#64) rfl rfl) rfl ?_
    first
      | refine s_val (v_idxA1 rfl rfl Try.underlying38 sz_36 (by omega)) rfl ?_
      | refine s_val (v_idxA rfl rfl Try.underlying38 sz_36 (by omega)) rfl ?_
    refine s_store64 rfl rfl rfl sz_36 (by first | omega | (simp only [put_length]; omega) | (simp only [zer64_length]; omega) | (simp only [zer8_length]; omega) | (simp only [zer32_length]; omega) | (simp only [zeri_length]; omega) | (simp only [puti_length]; omega)) (by first | exact (rfl : _ = []) | exact (rfl : _ = [_]) | exact (rfl : _ = [_, _]) | exact (rfl : _ = [_, _, _]) | exact (rfl : _ = [_, _, _, _]) | exact (rfl : _ = [_, _, _, _, _]) | exact (rfl : _ = [_, _, _, _, _, _]) | exact (rfl : _ = [_, _, _, _, _, _, _]) | exact (rfl : _ = [_, _, _, _, _, _, _, _]) | exact (rfl : _ = [_, _, _, _, _, _, _, _, _]) | exact (rfl : _ = [_, _, _, _, _, _, _, _, _, _]) | exact (rfl : _ = [_, _, _, _, _, _, _, _, _, _, _]) | exact (rfl : _ = [_, _, _, _, _, _, _, _, _, _, _, _])) ?_
    refine s_nil ?_
    repeat (first
      | refine c_seq ?_
      | refine c_block ?_
      | refine c_skip ?_
      | refine c_exit ?_
      | refine c_ret ?_
      | refine c_label ?_
      | refine c_scope ?_
      | refine c_condT rfl (by first | rfl | (apply decide_eq_true; omega)) ?_
      | refine c_condF rfl (by first | rfl | (apply decide_eq_false; omega)) ?_)
    refine c_region ?_
    first
      | refine s_val (v_addN (b := 1) rfl rfl (by omega)) rfl ?_
      | refine s_val (v_addI rfl rfl (by omega)) rfl ?_
    first
      | refine s_val (v_moveC rfl) rfl ?_
      | refine s_val (v_moveA rfl) rfl ?_
      | refine s_val (v_moveT rfl) rfl ?_
    refine s_nil ?_
    refine ⟨(_, _, _), rfl, ?_⟩
    simp only [carrySt, hS, hC, set_put, put_again, nth_put _ _ _ _ (show j < S.length by omega), if_true]
  case e =>
    have h1 : (carrySt l 5).1.length = 5 := by rw [carrySt_length, hl]
    have hE : carriedL l = put (carrySt l 5).1 0 (nth (carrySt l 5).1 0 + 5#64 * (carrySt l 5).2) := rfl
    generalize hS : (carrySt l 5).1 = S at *
    generalize hC : (carrySt l 5).2 = C at *
    rw [hE]
    dsimp only
    repeat (first
      | refine c_seq ?_
      | refine c_block ?_
      | refine c_skip ?_
      | refine c_exit ?_
      | refine c_ret ?_
      | refine c_label ?_
      | refine c_scope ?_
      | refine c_condT rfl (by first | rfl | (apply decide_eq_true; omega)) ?_
      | refine c_condF rfl (by first | rfl | (apply decide_eq_false; omega)) ?_)
    refine c_region ?_
    first
      | refine s_val (v_lssN (b := 5) rfl rfl) rfl ?_
      | refine s_val (v_lssI rfl rfl) rfl ?_
    refine s_nil ?_
    repeat (first
      | refine c_seq ?_
      | refine c_block ?_
      | refine c_skip ?_
      | refine c_exit ?_
      | refine c_ret ?_
      | refine c_label ?_
      | refine c_scope ?_
      | refine c_condT rfl (by first | rfl | (apply decide_eq_true; omega)) ?_
      | refine c_condF rfl (by first | rfl | (apply decide_eq_false; omega)) ?_)
    repeat (first
      | refine c_seq ?_
      | refine c_block ?_
      | refine c_skip ?_
      | refine c_exit ?_
      | refine c_ret ?_
      | refine c_label ?_
      | refine c_scope ?_
      | refine c_condT rfl (by first | rfl | (apply decide_eq_true; omega)) ?_
      | refine c_condF rfl (by first | rfl | (apply decide_eq_false; omega)) ?_)
    refine c_region ?_
    first
      | refine s_val (v_idxA1 (j := 0) rfl rfl Try.underlying38 sz_36 (by omega)) rfl ?_
      | refine s_val (v_idxA (j := 0) rfl rfl Try.underlying38 sz_36 (by omega)) rfl ?_
    refine s_val (v_load64 rfl rfl row_36 (by first | omega | (simp only [put_length]; omega) | (simp only [zer64_length]; omega) | (simp only [zer8_length]; omega) | (simp only [zer32_length]; omega) | (simp only [zeri_length]; omega) | (simp only [puti_length]; omega))) rfl ?_
    first
      | refine s_val (v_moveC rfl) rfl ?_
      | refine s_val (v_moveA rfl) rfl ?_
      | refine s_val (v_moveT rfl) rfl ?_
    refine s_val (v_mul64 (a := 5#64) rfl rfl) rfl ?_
    refine s_val (v_add64 rfl rfl) rfl ?_
    first
      | refine s_val (v_idxA1 (j := 0) rfl rfl Try.underlying38 sz_36 (by omega)) rfl ?_
      | refine s_val (v_idxA (j := 0) rfl rfl Try.underlying38 sz_36 (by omega)) rfl ?_
    refine s_store64 rfl rfl rfl sz_36 (by first | omega | (simp only [put_length]; omega) | (simp only [zer64_length]; omega) | (simp only [zer8_length]; omega) | (simp only [zer32_length]; omega) | (simp only [zeri_length]; omega) | (simp only [puti_length]; omega)) (by first | exact (rfl : _ = []) | exact (rfl : _ = [_]) | exact (rfl : _ = [_, _]) | exact (rfl : _ = [_, _, _]) | exact (rfl : _ = [_, _, _, _]) | exact (rfl : _ = [_, _, _, _, _]) | exact (rfl : _ = [_, _, _, _, _, _]) | exact (rfl : _ = [_, _, _, _, _, _, _]) | exact (rfl : _ = [_, _, _, _, _, _, _, _]) | exact (rfl : _ = [_, _, _, _, _, _, _, _, _]) | exact (rfl : _ = [_, _, _, _, _, _, _, _, _, _]) | exact (rfl : _ = [_, _, _, _, _, _, _, _, _, _, _]) | exact (rfl : _ = [_, _, _, _, _, _, _, _, _, _, _, _])) ?_
    refine s_nil ?_
    repeat (first
      | refine c_seq ?_
      | refine c_block ?_
      | refine c_skip ?_
      | refine c_exit ?_
      | refine c_ret ?_
      | refine c_label ?_
      | refine c_scope ?_
      | refine c_condT rfl (by first | rfl | (apply decide_eq_true; omega)) ?_
      | refine c_condF rfl (by first | rfl | (apply decide_eq_false; omega)) ?_)
    refine c_region ?_
    refine s_val (v_loadR rfl rfl row_38 sz_38 (by show List.length _ = _; first | assumption | omega | (simp only [put_length]; first | assumption | omega) | (simp; done) | (simp; assumption) | (simp; omega) | simp only [zer64_length] | simp only [zer8_length] | simp only [zer32_length] | simp only [zeri_length]) (by decide)) rfl ?_
    refine s_storeR rfl rfl rfl rfl sz_38 (by show List.length _ = _; first | assumption | omega | (simp only [put_length]; first | assumption | omega) | (simp; done) | (simp; assumption) | (simp; omega) | simp only [zer64_length] | simp only [zer8_length] | simp only [zer32_length] | simp only [zeri_length]) (by show List.length _ = _; first | assumption | omega | (simp only [put_length]; first | assumption | omega) | (simp; done) | (simp; assumption) | (simp; omega) | simp only [zer64_length] | simp only [zer8_length] | simp only [zer32_length] | simp only [zeri_length]) (by first | exact (rfl : _ = []) | exact (rfl : _ = [_]) | exact (rfl : _ = [_, _]) | exact (rfl : _ = [_, _, _]) | exact (rfl : _ = [_, _, _, _]) | exact (rfl : _ = [_, _, _, _, _]) | exact (rfl : _ = [_, _, _, _, _, _]) | exact (rfl : _ = [_, _, _, _, _, _, _]) | exact (rfl : _ = [_, _, _, _, _, _, _, _]) | exact (rfl : _ = [_, _, _, _, _, _, _, _, _]) | exact (rfl : _ = [_, _, _, _, _, _, _, _, _, _]) | exact (rfl : _ = [_, _, _, _, _, _, _, _, _, _, _]) | exact (rfl : _ = [_, _, _, _, _, _, _, _, _, _, _, _])) ?_
    refine s_nil ?_
    repeat (first
      | refine c_seq ?_
      | refine c_block ?_
      | refine c_skip ?_
      | refine c_exit ?_
      | refine c_ret ?_
      | refine c_label ?_
      | refine c_scope ?_
      | refine c_condT rfl (by first | rfl | (apply decide_eq_true; omega)) ?_
      | refine c_condF rfl (by first | rfl | (apply decide_eq_false; omega)) ?_)
    exact k_1 (r_row rfl rfl row_38 sz_38 (by show List.length _ = _; first | assumption | omega | (simp only [put_length]; first | assumption | omega) | (simp; done) | (simp; assumption) | (simp; omega) | simp only [zer64_length] | simp only [zer8_length] | simp only [zer32_length] | simp only [zeri_length]) (by decide)) (by first | kernel_rfl | rfl)
theorem carriedL_eq (l : List (BitVec 64)) : carriedL l = put (carrySt l 5).1 0 (nth (carrySt l 5).1 0 + 5#64 * (carrySt l 5).2) := rfl
@[simp] theorem carriedL_length (l : List (BitVec 64)) : (carriedL l).length = l.length := by simp [carriedL, carrySt_length]
attribute [irreducible] carriedL
end Go.Proofs.Ytlphiohgehkjlaa
