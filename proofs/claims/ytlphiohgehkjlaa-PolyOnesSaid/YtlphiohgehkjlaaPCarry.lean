/- The walk of poly.carried. -/
import Derived.Test.YtlphiohgehkjlaaAvTy
namespace Go.Proofs.Ytlphiohgehkjlaa
open Go.RowKit
/-- What has been carried on, word by word: the words, and what is over. -/
def carrySt (l : List (BitVec 64)) : Nat → List (BitVec 64) × BitVec 64
  | 0 => (l, 0#64)
  | k + 1 => (put (carrySt l k).1 k ((nth (carrySt l k).1 k + (carrySt l k).2) &&& 67108863#64), (nth (carrySt l k).1 k + (carrySt l k).2) >>> 26)
theorem carrySt_succ (l : List (BitVec 64)) (k : Nat) : carrySt l (k + 1) = (put (carrySt l k).1 k ((nth (carrySt l k).1 k + (carrySt l k).2) &&& 67108863#64), (nth (carrySt l k).1 k + (carrySt l k).2) >>> 26) := rfl
theorem carrySt_length (l : List (BitVec 64)) (k : Nat) : (carrySt l k).1.length = l.length := by
  induction k with
  | zero => rfl
  | succ k ih => simp [carrySt, ih]
def carriedL (l : List (BitVec 64)) : List (BitVec 64) := put (carrySt l 5).1 0 (nth (carrySt l 5).1 0 + 5#64 * (carrySt l 5).2)
set_option maxRecDepth 100000 in
theorem carried_ev (l : List (BitVec 64)) (hl : l.length = 5) : Ev Try.prog (.call 17 [.agg (.a64 l)] []) (.val (.agg (.a64 (carriedL l))) []) := by
  refine c_call Try.func17 rfl Try.ntmps17 rfl LEN_ ?_
  refine S_ ?_
  refine c_region ?_
  refine s_memN (m_box BX_ LEN_) APP_ rfl ?_
  refine s_memN (m_alloc al_38 LEN_) APP_ rfl ?_
  refine s_nil ?_
  refine S_ ?_
  refine c_region ?_
  refine s_val (v_assignC rfl) rfl ?_
  refine s_nil ?_
  refine S_ ?_
  refine c_region ?_
  refine s_val (v_moveC rfl) rfl ?_
  refine s_nil ?_
  refine c_clean [5, 3, 1, 2] rfl ?_
  refine S_ ?_
  refine c_loop [5, 3, 1, 2] (fun (x : Nat × BitVec 64 × List (BitVec 64)) => ⟨31, keepT [5, 3, 1, 2] [.c (.val (.int .i64 x.1)), .c (.val (U64 x.2.1)), .c (.ptr 0 0), .c (.ptr 1 0)], [.row true (.a64 x.2.2), .row true (.a64 (zer64 5))]⟩) (fun j => (j, (carrySt l j).2, (carrySt l j).1)) 5 rfl ?r ?e
  case r =>
    intro j hj
    have h1 : (carrySt l j).1.length = 5 := by rw [carrySt_length, hl]
    generalize hS : (carrySt l j).1 = S at *
    generalize hC : (carrySt l j).2 = C at *
    dsimp only
    refine S_ ?_
    refine c_region ?_
    first
      | refine s_val (v_lssN (b := 5) rfl rfl) rfl ?_
      | refine s_val (v_lssI rfl rfl) rfl ?_
    refine s_nil ?_
    refine S_ ?_
    refine c_region ?_
    first
      | refine s_val (v_moveC rfl) rfl ?_
      | refine s_val (v_moveA rfl) rfl ?_
      | refine s_val (v_moveT rfl) rfl ?_
    first
      | refine s_val (v_assignC rfl) rfl ?_
      | refine s_val (v_assignA rfl) rfl ?_
      | refine s_val (v_assignT rfl) rfl ?_
    refine s_nil ?_
    refine S_ ?_
    refine c_region ?_
    first
      | refine s_val (v_moveC rfl) rfl ?_
      | refine s_val (v_moveA rfl) rfl ?_
      | refine s_val (v_moveT rfl) rfl ?_
    first
      | refine s_val (v_idxA1 rfl rfl Try.underlying38 sz_36 (by omega)) rfl ?_
      | refine s_val (v_idxA rfl rfl Try.underlying38 sz_36 (by omega)) rfl ?_
    refine s_val (v_load64 rfl rfl row_36 LT_) rfl ?_
    first
      | refine s_val (v_moveC rfl) rfl ?_
      | refine s_val (v_moveA rfl) rfl ?_
      | refine s_val (v_moveT rfl) rfl ?_
    refine s_val (v_add64 rfl rfl) rfl ?_
    first
      | refine s_val (v_idxA1 rfl rfl Try.underlying38 sz_36 (by omega)) rfl ?_
      | refine s_val (v_idxA rfl rfl Try.underlying38 sz_36 (by omega)) rfl ?_
    refine s_store64 rfl rfl rfl sz_36 LT_ SET_ ?_
    refine s_nil ?_
    refine S_ ?_
    refine c_region ?_
    first
      | refine s_val (v_moveC rfl) rfl ?_
      | refine s_val (v_moveA rfl) rfl ?_
      | refine s_val (v_moveT rfl) rfl ?_
    first
      | refine s_val (v_idxA1 rfl rfl Try.underlying38 sz_36 (by omega)) rfl ?_
      | refine s_val (v_idxA rfl rfl Try.underlying38 sz_36 (by omega)) rfl ?_
    refine s_val (v_load64 rfl rfl row_36 LT_) rfl ?_
    refine s_val (v_shr64n (j := 26) rfl rfl) rfl ?_
    first
      | refine s_val (v_assignC rfl) rfl ?_
      | refine s_val (v_assignA rfl) rfl ?_
      | refine s_val (v_assignT rfl) rfl ?_
    refine s_nil ?_
    refine S_ ?_
    refine c_region ?_
    first
      | refine s_val (v_moveC rfl) rfl ?_
      | refine s_val (v_moveA rfl) rfl ?_
      | refine s_val (v_moveT rfl) rfl ?_
    first
      | refine s_val (v_idxA1 rfl rfl Try.underlying38 sz_36 (by omega)) rfl ?_
      | refine s_val (v_idxA rfl rfl Try.underlying38 sz_36 (by omega)) rfl ?_
    refine s_val (v_load64 rfl rfl row_36 LT_) rfl ?_
    refine s_val (v_and64 (b := 67108863#64) rfl rfl) rfl ?_
    first
      | refine s_val (v_idxA1 rfl rfl Try.underlying38 sz_36 (by omega)) rfl ?_
      | refine s_val (v_idxA rfl rfl Try.underlying38 sz_36 (by omega)) rfl ?_
    refine s_store64 rfl rfl rfl sz_36 LT_ SET_ ?_
    refine s_nil ?_
    refine S_ ?_
    refine c_region ?_
    first
      | refine s_val (v_addN (b := 1) rfl rfl (by omega)) rfl ?_
      | refine s_val (v_addI rfl rfl (by omega)) rfl ?_
    first
      | refine s_val (v_moveC rfl) rfl ?_
      | refine s_val (v_moveA rfl) rfl ?_
      | refine s_val (v_moveT rfl) rfl ?_
    refine s_nil ?_
    refine ⟨(_, _, _), rfl, ?_⟩
    simp only [carrySt, hS, hC, set_put, put_again, nth_put _ _ _ _ (show j < S.length by omega), if_true]
  case e =>
    have h1 : (carrySt l 5).1.length = 5 := by rw [carrySt_length, hl]
    have hE : carriedL l = put (carrySt l 5).1 0 (nth (carrySt l 5).1 0 + 5#64 * (carrySt l 5).2) := rfl
    generalize hS : (carrySt l 5).1 = S at *
    generalize hC : (carrySt l 5).2 = C at *
    rw [hE]
    dsimp only
    refine S_ ?_
    refine c_region ?_
    first
      | refine s_val (v_lssN (b := 5) rfl rfl) rfl ?_
      | refine s_val (v_lssI rfl rfl) rfl ?_
    refine s_nil ?_
    refine S_ ?_
    refine S_ ?_
    refine c_region ?_
    first
      | refine s_val (v_idxA1 (j := 0) rfl rfl Try.underlying38 sz_36 (by omega)) rfl ?_
      | refine s_val (v_idxA (j := 0) rfl rfl Try.underlying38 sz_36 (by omega)) rfl ?_
    refine s_val (v_load64 rfl rfl row_36 LT_) rfl ?_
    first
      | refine s_val (v_moveC rfl) rfl ?_
      | refine s_val (v_moveA rfl) rfl ?_
      | refine s_val (v_moveT rfl) rfl ?_
    refine s_val (v_mul64 (a := 5#64) rfl rfl) rfl ?_
    refine s_val (v_add64 rfl rfl) rfl ?_
    first
      | refine s_val (v_idxA1 (j := 0) rfl rfl Try.underlying38 sz_36 (by omega)) rfl ?_
      | refine s_val (v_idxA (j := 0) rfl rfl Try.underlying38 sz_36 (by omega)) rfl ?_
    refine s_store64 rfl rfl rfl sz_36 LT_ SET_ ?_
    refine s_nil ?_
    refine S_ ?_
    refine c_region ?_
    refine s_val (v_loadR rfl rfl row_38 sz_38 EQ_ (by decide)) rfl ?_
    refine s_storeR rfl rfl rfl rfl sz_38 EQ_ EQ_ SET_ ?_
    refine s_nil ?_
    refine S_ ?_
    exact k_1 (r_row rfl rfl row_38 sz_38 EQ_ (by decide)) (by first | kernel_rfl | rfl)
theorem carriedL_eq (l : List (BitVec 64)) : carriedL l = put (carrySt l 5).1 0 (nth (carrySt l 5).1 0 + 5#64 * (carrySt l 5).2) := rfl
@[simp] theorem carriedL_length (l : List (BitVec 64)) : (carriedL l).length = l.length := by simp [carriedL, carrySt_length]
attribute [irreducible] carriedL
end Go.Proofs.Ytlphiohgehkjlaa
