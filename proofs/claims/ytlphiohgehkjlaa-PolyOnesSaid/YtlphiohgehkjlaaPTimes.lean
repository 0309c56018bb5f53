/- The walk of poly.times. -/
import Derived.Test.YtlphiohgehkjlaaPCarry
namespace Go.Proofs.Ytlphiohgehkjlaa
open Go.RowKit
/-- One product of two words, laid where it belongs. -/
def mulStep (a b s : List (BitVec 64)) (i j : Nat) : List (BitVec 64) :=
  put s ((i + j) % 5) (nth s ((i + j) % 5) + if 5 ≤ i + j then nth a i * nth b j * 5#64 else nth a i * nth b j)
def mulRow (a b s : List (BitVec 64)) (i : Nat) : Nat → List (BitVec 64)
  | 0 => s
  | j + 1 => mulStep a b (mulRow a b s i j) i j
def mulAll (a b : List (BitVec 64)) : Nat → List (BitVec 64)
  | 0 => zer64 5
  | i + 1 => mulRow a b (mulAll a b i) i 5
theorem mulRow_length (a b s : List (BitVec 64)) (i : Nat) : ∀ j, (mulRow a b s i j).length = s.length
  | 0 => rfl
  | j + 1 => by simp [mulRow, mulStep, mulRow_length a b s i j]
theorem mulAll_length (a b : List (BitVec 64)) : ∀ i, (mulAll a b i).length = 5
  | 0 => rfl
  | i + 1 => by rw [mulAll, mulRow_length, mulAll_length a b i]
def timesL (a b : List (BitVec 64)) : List (BitVec 64) := carriedL (carriedL (mulAll a b 5))
theorem timesL_eq (a b : List (BitVec 64)) : timesL a b = carriedL (carriedL (mulAll a b 5)) := rfl
@[simp] theorem timesL_length (a b : List (BitVec 64)) : (timesL a b).length = 5 := by rw [timesL, carriedL_length, carriedL_length, mulAll_length]
attribute [irreducible] timesL
set_option maxRecDepth 100000 in
set_option maxHeartbeats 1000000 in
theorem times_ev (a b : List (BitVec 64)) (ha : a.length = 5) (hb : b.length = 5) : Ev Try.prog (.call 13 [.agg (.a64 a), .agg (.a64 b)] []) (.val (.agg (.a64 (timesL a b))) []) := by
  refine c_call Try.func13 rfl Try.ntmps13 rfl LEN_ ?_
  refine S_ ?_
  refine c_region ?_
  refine s_memN (m_box BX_ LEN_) APP_ rfl ?_
  refine s_memN (m_box BX_ LEN_) APP_ rfl ?_
  refine s_memN (m_alloc al_38 LEN_) APP_ rfl ?_
  refine s_nil ?_
  refine S_ ?_
  refine c_region ?_
  refine s_memN (m_alloc al_38 LEN_) APP_ rfl ?_
  refine s_nil ?_
  refine S_ ?_
  refine c_region ?_
  refine s_val (v_moveC rfl) rfl ?_
  refine s_nil ?_
  refine S_ ?_
  refine c_loopC [2, 3, 5, 9, 4] (fun (x : Nat × List (BitVec 64)) => ⟨42, keepT [2, 3, 5, 9, 4] [.c (.ptr 0 0), .c (.ptr 1 0), .c (.ptr 2 0), .c (.val (.int .i64 (x.1))), .c (.ptr 3 0)], [.row true (.a64 (a)), .row true (.a64 (b)), .row true (.a64 (x.2)), .row true (.a64 (zer64 5))]⟩) (fun j => (j, mulAll a b j)) (5) (by kernel_rfl) ?_ ?_
  · intro i hi
    have h1 : (mulAll a b i).length = 5 := mulAll_length a b i
    simp only [mulAll]
    generalize mulAll a b i = S at *
    refine S_ ?_
    refine c_region ?_
    first
      | refine s_val (v_lssN (b := 5) rfl rfl) rfl ?_
      | refine s_val (v_lssI rfl rfl) rfl ?_
    refine s_nil ?_
    refine S_ ?_
    refine c_region ?_
    first
      | refine s_val (v_moveC rfl) rfl ?_
      | refine s_val (v_moveA rfl) rfl ?_
      | refine s_val (v_moveT rfl) rfl ?_
    first
      | refine s_val (v_assignC rfl) rfl ?_
      | refine s_val (v_assignA rfl) rfl ?_
      | refine s_val (v_assignT rfl) rfl ?_
    refine s_nil ?_
    refine S_ ?_
    refine c_region ?_
    refine s_val (v_moveC rfl) rfl ?_
    refine s_nil ?_
    refine S_ ?_
    refine c_loopC [2, 3, 5, 9, 4, 6, 12] (fun (x : Nat × List (BitVec 64)) => ⟨42, keepT [2, 3, 5, 9, 4, 6, 12] [.c (.ptr 0 0), .c (.ptr 1 0), .c (.ptr 2 0), .c (.val (.int .i64 (i))), .c (.ptr 3 0), .c (.val (.int .i64 (i))), .c (.val (.int .i64 (x.1)))], [.row true (.a64 (a)), .row true (.a64 (b)), .row true (.a64 (x.2)), .row true (.a64 (zer64 5))]⟩) (fun j => (j, mulRow a b S i j)) (5) (by kernel_rfl) ?_ ?_
    · intro j hj
      have h2 : (mulRow a b S i j).length = 5 := by rw [mulRow_length, h1]
      simp only [mulRow]
      generalize mulRow a b S i j = U at *
      unfold mulStep
      refine S_ ?_
      refine c_region ?_
      first
        | refine s_val (v_lssN (b := 5) rfl rfl) rfl ?_
        | refine s_val (v_lssI rfl rfl) rfl ?_
      refine s_nil ?_
      refine S_ ?_
      refine c_region ?_
      first
        | refine s_val (v_moveC rfl) rfl ?_
        | refine s_val (v_moveA rfl) rfl ?_
        | refine s_val (v_moveT rfl) rfl ?_
      first
        | refine s_val (v_assignC rfl) rfl ?_
        | refine s_val (v_assignA rfl) rfl ?_
        | refine s_val (v_assignT rfl) rfl ?_
      refine s_nil ?_
      refine S_ ?_
      refine c_draw 8 mixed (by kernel_rfl) rfl rfl rfl ?_
      first
        | refine h_val (v_moveC rfl) rfl ?_
        | refine h_val (v_moveA rfl) rfl ?_
        | refine h_val (v_moveT rfl) rfl ?_
      first
        | refine h_val (v_idxA1 rfl rfl Try.underlying38 sz_36 (by omega)) rfl ?_
        | refine h_val (v_idxA rfl rfl Try.underlying38 sz_36 (by omega)) rfl ?_
      refine h_val (v_load64 rfl rfl row_36 LT_) rfl ?_
      first
        | refine h_val (v_moveC rfl) rfl ?_
        | refine h_val (v_moveA rfl) rfl ?_
        | refine h_val (v_moveT rfl) rfl ?_
      first
        | refine h_val (v_idxA1 rfl rfl Try.underlying38 sz_36 (by omega)) rfl ?_
        | refine h_val (v_idxA rfl rfl Try.underlying38 sz_36 (by omega)) rfl ?_
      refine h_val (v_load64 rfl rfl row_36 LT_) rfl ?_
      refine h_val (v_mul64 rfl rfl) rfl ?_
      first
        | refine h_val (v_assignC rfl) rfl ?_
        | refine h_val (v_assignA rfl) rfl ?_
        | refine h_val (v_assignT rfl) rfl ?_
      refine h_nil ?_
      refine s_nil ?_
      refine S_ ?_
      refine c_region ?_
      first
        | refine s_val (v_moveC rfl) rfl ?_
        | refine s_val (v_moveA rfl) rfl ?_
        | refine s_val (v_moveT rfl) rfl ?_
      first
        | refine s_val (v_moveC rfl) rfl ?_
        | refine s_val (v_moveA rfl) rfl ?_
        | refine s_val (v_moveT rfl) rfl ?_
      first
        | refine s_val (v_addN rfl rfl (by omega)) rfl ?_
        | refine s_val (v_addI rfl rfl (by omega)) rfl ?_
      first
        | refine s_val (v_geqN (b := 5) rfl rfl) rfl ?_
        | refine s_val (v_geqI rfl rfl) rfl ?_
      refine s_nil ?_
      by_cases h5 : 5 ≤ i + j
      · rw [if_pos h5]
        refine S_ ?_
        refine c_region ?_
        first
          | refine s_val (v_moveC rfl) rfl ?_
          | refine s_val (v_moveA rfl) rfl ?_
          | refine s_val (v_moveT rfl) rfl ?_
        refine s_val (v_mul64 (b := 5#64) rfl rfl) rfl ?_
        first
          | refine s_val (v_assignC rfl) rfl ?_
          | refine s_val (v_assignA rfl) rfl ?_
          | refine s_val (v_assignT rfl) rfl ?_
        refine s_nil ?_
        refine S_ ?_
        refine c_region ?_
        first
          | refine s_val (v_moveC rfl) rfl ?_
          | refine s_val (v_moveA rfl) rfl ?_
          | refine s_val (v_moveT rfl) rfl ?_
        first
          | refine s_val (v_moveC rfl) rfl ?_
          | refine s_val (v_moveA rfl) rfl ?_
          | refine s_val (v_moveT rfl) rfl ?_
        first
          | refine s_val (v_addN rfl rfl (by omega)) rfl ?_
          | refine s_val (v_addI rfl rfl (by omega)) rfl ?_
        refine s_val (v_remN (b := 5) rfl rfl (by omega) (by omega)) rfl ?_
        first
          | refine s_val (v_idxA1 rfl rfl Try.underlying38 sz_36 (by omega)) rfl ?_
          | refine s_val (v_idxA rfl rfl Try.underlying38 sz_36 (by omega)) rfl ?_
        refine s_val (v_load64 rfl rfl row_36 LT_) rfl ?_
        first
          | refine s_val (v_moveC rfl) rfl ?_
          | refine s_val (v_moveA rfl) rfl ?_
          | refine s_val (v_moveT rfl) rfl ?_
        refine s_val (v_add64 rfl rfl) rfl ?_
        first
          | refine s_val (v_idxA1 rfl rfl Try.underlying38 sz_36 (by omega)) rfl ?_
          | refine s_val (v_idxA rfl rfl Try.underlying38 sz_36 (by omega)) rfl ?_
        refine s_store64 rfl rfl rfl sz_36 LT_ SET_ ?_
        refine s_nil ?_
        refine S_ ?_
        refine c_region ?_
        first
          | refine s_val (v_addN (b := 1) rfl rfl (by omega)) rfl ?_
          | refine s_val (v_addI rfl rfl (by omega)) rfl ?_
        first
          | refine s_val (v_moveC rfl) rfl ?_
          | refine s_val (v_moveA rfl) rfl ?_
          | refine s_val (v_moveT rfl) rfl ?_
        refine s_nil ?_
        exact ⟨_, by kernel_rfl, rfl⟩
      · rw [if_neg h5]
        refine S_ ?_
        refine c_region ?_
        first
          | refine s_val (v_moveC rfl) rfl ?_
          | refine s_val (v_moveA rfl) rfl ?_
          | refine s_val (v_moveT rfl) rfl ?_
        first
          | refine s_val (v_moveC rfl) rfl ?_
          | refine s_val (v_moveA rfl) rfl ?_
          | refine s_val (v_moveT rfl) rfl ?_
        first
          | refine s_val (v_addN rfl rfl (by omega)) rfl ?_
          | refine s_val (v_addI rfl rfl (by omega)) rfl ?_
        refine s_val (v_remN (b := 5) rfl rfl (by omega) (by omega)) rfl ?_
        first
          | refine s_val (v_idxA1 rfl rfl Try.underlying38 sz_36 (by omega)) rfl ?_
          | refine s_val (v_idxA rfl rfl Try.underlying38 sz_36 (by omega)) rfl ?_
        refine s_val (v_load64 rfl rfl row_36 LT_) rfl ?_
        first
          | refine s_val (v_moveC rfl) rfl ?_
          | refine s_val (v_moveA rfl) rfl ?_
          | refine s_val (v_moveT rfl) rfl ?_
        refine s_val (v_add64 rfl rfl) rfl ?_
        first
          | refine s_val (v_idxA1 rfl rfl Try.underlying38 sz_36 (by omega)) rfl ?_
          | refine s_val (v_idxA rfl rfl Try.underlying38 sz_36 (by omega)) rfl ?_
        refine s_store64 rfl rfl rfl sz_36 LT_ SET_ ?_
        refine s_nil ?_
        refine S_ ?_
        refine c_region ?_
        first
          | refine s_val (v_addN (b := 1) rfl rfl (by omega)) rfl ?_
          | refine s_val (v_addI rfl rfl (by omega)) rfl ?_
        first
          | refine s_val (v_moveC rfl) rfl ?_
          | refine s_val (v_moveA rfl) rfl ?_
          | refine s_val (v_moveT rfl) rfl ?_
        refine s_nil ?_
        exact ⟨_, by kernel_rfl, rfl⟩
    · dsimp only
      have h3 : (mulRow a b S i 5).length = 5 := by rw [mulRow_length, h1]
      refine S_ ?_
      refine c_region ?_
      first
        | refine s_val (v_lssN (b := 5) rfl rfl) rfl ?_
        | refine s_val (v_lssI rfl rfl) rfl ?_
      refine s_nil ?_
      refine S_ ?_
      refine c_region ?_
      first
        | refine s_val (v_addN (b := 1) rfl rfl (by omega)) rfl ?_
        | refine s_val (v_addI rfl rfl (by omega)) rfl ?_
      first
        | refine s_val (v_moveC rfl) rfl ?_
        | refine s_val (v_moveA rfl) rfl ?_
        | refine s_val (v_moveT rfl) rfl ?_
      refine s_nil ?_
      exact ⟨_, by kernel_rfl, rfl⟩
  · dsimp only
    have h1 : (mulAll a b 5).length = 5 := mulAll_length a b 5
    rw [timesL_eq]
    generalize mulAll a b 5 = S at *
    refine S_ ?_
    refine c_region ?_
    first
      | refine s_val (v_lssN (b := 5) rfl rfl) rfl ?_
      | refine s_val (v_lssI rfl rfl) rfl ?_
    refine s_nil ?_
    refine S_ ?_
    refine c_region ?_
    refine s_val (v_loadR rfl rfl row_38 sz_38 EQ_ (by decide)) rfl ?_
    refine s_evN (e_callR (carried_ev _ h1) ok_17 rfl rfl rfl VAL_) APP_ rfl ?_
    refine s_evN (e_callR (carried_ev _ (by rw [carriedL_length]; exact h1)) ok_17 rfl rfl rfl VAL_) APP_ rfl ?_
    refine s_storeR rfl rfl rfl rfl sz_38 EQ_ EQ_ SET_ ?_
    refine s_nil ?_
    refine S_ ?_
    exact k_1 (r_row rfl rfl row_38 sz_38 EQ_ (by decide)) (by first | kernel_rfl | rfl)
end Go.Proofs.Ytlphiohgehkjlaa
