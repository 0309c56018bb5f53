/- The walk of poly.Tag. -/
import Derived.Test.YtlphiohgehkjlaaPWord
import Derived.Test.YtlphiohgehkjlaaPTimes
import Derived.Test.YtlphiohgehkjlaaPTagEnd
namespace Go.Proofs.Ytlphiohgehkjlaa
open Go.RowKit
def clampA (l : List (BitVec 8)) : Nat → List (BitVec 8)
  | 0 => l
  | k + 1 => put (clampA l k) (4 * k + 3) (nth (clampA l k) (4 * k + 3) &&& 15#8)
def clampB (l : List (BitVec 8)) : Nat → List (BitVec 8)
  | 0 => l
  | k + 1 => put (clampB l k) (4 * k + 4) (nth (clampB l k) (4 * k + 4) &&& 252#8)
theorem clampA_length (l : List (BitVec 8)) (k : Nat) : (clampA l k).length = l.length := by
  induction k with
  | zero => rfl
  | succ k ih => simp [clampA, ih]
theorem clampB_length (l : List (BitVec 8)) (k : Nat) : (clampB l k).length = l.length := by
  induction k with
  | zero => rfl
  | succ k ih => simp [clampB, ih]
/-- The first half of the key, as it counts, and a nought. -/
def rBytes (key : List (BitVec 8)) : List (BitVec 8) := clampB (clampA (cut key 0 16) 4) 3 ++ [0#8]
def wordsL (b : List (BitVec 8)) : Nat → List (BitVec 64)
  | 0 => zer64 5
  | k + 1 => put (wordsL b k) k (wordAt b (26 * k))
theorem wordsL_length (b : List (BitVec 8)) (k : Nat) : (wordsL b k).length = 5 := by
  induction k with
  | zero => rfl
  | succ k ih => simp [wordsL, ih]
def hAdd (p : List (BitVec 8)) (h : List (BitVec 64)) : Nat → List (BitVec 64)
  | 0 => h
  | k + 1 => put (hAdd p h k) k (nth (hAdd p h k) k + wordAt p (26 * k))
theorem hAdd_length (p : List (BitVec 8)) (h : List (BitVec 64)) (k : Nat) : (hAdd p h k).length = h.length := by
  induction k with
  | zero => rfl
  | succ k ih => simp [hAdd, ih]
def padL (l : List (BitVec 8)) : Nat → List (BitVec 8)
  | 0 => l
  | k + 1 => padL l k ++ [0#8]
theorem padL_length (l : List (BitVec 8)) (k : Nat) : (padL l k).length = l.length + k := by
  induction k with
  | zero => rfl
  | succ k ih => simp [padL, ih]; omega
/-- The piece from the byte 'i' on, with a byte 1 behind it, and noughts. -/
def piece (t : List (BitVec 8)) (i : Nat) : List (BitVec 8) := cut t i (min (i + 16) t.length - i) ++ [1#8]
def tagSt (r : List (BitVec 64)) (t : List (BitVec 8)) : Nat → List (BitVec 64)
  | 0 => zer64 5
  | q + 1 => timesL (hAdd (padL (piece t (16 * q)) (17 - (piece t (16 * q)).length)) (tagSt r t q) 5) r
theorem tagSt_length (r : List (BitVec 64)) (t : List (BitVec 8)) (q : Nat) : (tagSt r t q).length = 5 := by
  cases q with
  | zero => rfl
  | succ q => rw [tagSt, timesL_length]
def polyTag (key t : List (BitVec 8)) : List (BitVec 8) := tagEnd (tagSt (wordsL (rBytes key) 5) t ((t.length + 15) / 16)) key
theorem three7 {j : Nat} (h : j < 4) : ntn [3, 7, 11, 15] j = 4 * j + 3 := by
  match j, h with
  | 0, _ => rfl
  | 1, _ => rfl
  | 2, _ => rfl
  | 3, _ => rfl
theorem four8 {j : Nat} (h : j < 3) : ntn [4, 8, 12] j = 4 * j + 4 := by
  match j, h with
  | 0, _ => rfl
  | 1, _ => rfl
  | 2, _ => rfl
attribute [local irreducible] wordAt
set_option maxRecDepth 100000 in
set_option maxHeartbeats 2000000 in
theorem polyTag_ev (key t : List (BitVec 8)) (n cap : Nat) (hk : key.length = 32) (ht : t.length = n) (hn : n ≤ 1099511627776) : Ev Try.prog (.call 8 [.agg (.a8 key), .c (.sl 0 0 n cap 1)] [.row false (.a8 t)]) (.val (.agg (.a8 (polyTag key t))) [.row false (.a8 t)]) := by
  have hP : polyTag key t = tagEnd (tagSt (wordsL (clampB (clampA (cut key 0 16) 4) 3 ++ [0#8]) 5) t ((n + 15) / 16)) key := by rw [← ht]; rfl
  have hcut : (cut key 0 16).length = 16 := by rw [cut_length]; omega
  refine c_call Try.func8 rfl Try.ntmps8 rfl LEN_ ?_
  refine S_ ?_
  refine c_region ?_
  refine s_memN (m_box BX_ LEN_) APP_ rfl ?_
  refine s_memN (m_alloc al_25 LEN_) APP_ rfl ?_
  refine s_nil ?_
  refine S_ ?_
  refine c_region ?_
  refine s_memN (m_bs0 Try.underlying23 el_5) APP_ rfl ?_
  first
    | refine s_val (v_slA1 (l := 0) (h := 16) (len := 16) (cp := 32) rfl Try.underlying22 sz_5 rfl rfl rfl (by omega) (by omega) FIT_ rfl rfl) rfl ?_
    | refine s_val (v_slA (l := 0) (h := 16) rfl Try.underlying22 sz_5 rfl rfl rfl (by omega) (by omega) FIT_) rfl ?_
  first
    | refine s_memN (m_appE8 rfl rfl rfl Try.underlying23 Try.underlying23 el_5 EQL_ (by omega) LEN_) APP_ rfl ?_
    | refine s_memN (m_appN8 rfl rfl rfl Try.underlying23 Try.underlying23 el_5 EQL_ (by omega) LEN_) APP_ rfl ?_
    | refine s_app8 rfl rfl rfl rfl Try.underlying23 Try.underlying23 el_5 EQL_ EQL_ (by omega) LEN_ KILL_ rfl ?_
    | refine s_memN (m_appE8c rfl rfl rfl Try.underlying23 Try.underlying23 el_5 LE_ (by omega) LEN_) APP_ rfl ?_
    | refine s_memN (m_appN8c rfl rfl rfl Try.underlying23 Try.underlying23 el_5 LE_ (by omega) LEN_) APP_ rfl ?_
    | refine s_app8c rfl rfl rfl rfl Try.underlying23 Try.underlying23 el_5 EQL_ LE_ (by omega) LEN_ KILL_ rfl ?_
  first
    | refine s_val (v_assignC rfl) rfl ?_
    | refine s_val (v_assignA rfl) rfl ?_
    | refine s_val (v_assignT rfl) rfl ?_
  refine s_nil ?_
  refine S_ ?_
  refine c_region ?_
  refine s_memN (m_bsI (l := natI [3, 7, 11, 15]) Try.underlying30 el_3 rfl rfl (by decide) (by decide) LEN_) APP_ rfl ?_
  first
    | refine s_val (v_lenS rfl Try.underlying30) rfl ?_
    | refine s_val (v_lenN rfl Try.underlying30) rfl ?_
    | refine s_val (v_lenE rfl Try.underlying30) rfl ?_
  refine s_val (v_moveC rfl) rfl ?_
  refine s_nil ?_
  generalize cut key 0 16 = K at *
  refine S_ ?_
  refine c_loopC [2, 4, 5, 19, 20, 21, 1] (fun (x : Nat × List (BitVec 8)) => ⟨101, keepT [2, 4, 5, 19, 20, 21, 1] [.c (.ptr 1 0), .c (.ptr 2 0), .c (.sl 3 0 16 16 1), .c (.sl 4 0 4 4 1), .c (.val (.int .i64 (((4 : Nat) : Int)))), .c (.val (.int .i64 (x.1))), .c (.sl 0 0 n cap 1)], [.row false (.a8 (t)), .row true (.a8 (key)), .row true (.a8 (zer8 16)), .row true (.a8 (x.2)), .row true (.ai (natI [3, 7, 11, 15]))]⟩) (fun j => (j, clampA K j)) (4) (by kernel_rfl) ?_ ?_
  · intro j hj
    have h1 : (clampA K j).length = 16 := by rw [clampA_length, hcut]
    simp only [clampA]
    generalize clampA K j = U at *
    refine S_ ?_
    refine c_region ?_
    first
      | refine s_val (v_lssN rfl rfl) rfl ?_
      | refine s_val (v_lssI rfl rfl) rfl ?_
    refine s_nil ?_
    refine S_ ?_
    refine c_region ?_
    first
      | refine s_val (v_idxS1 rfl rfl Try.underlying30 sz_3 (by omega)) rfl ?_
      | refine s_val (v_idxSo rfl rfl Try.underlying30 sz_3 (by omega)) rfl ?_
      | refine s_val (v_idxS rfl rfl Try.underlying30 sz_3 (by omega)) rfl ?_
    first
      | refine s_val (v_loadN rfl rfl row_3 LT_) rfl ?_
      | refine s_val (v_loadI rfl rfl row_3 LT_) rfl ?_
    first
      | refine s_val (v_assignC rfl) rfl ?_
      | refine s_val (v_assignA rfl) rfl ?_
      | refine s_val (v_assignT rfl) rfl ?_
    refine s_nil ?_
    rw [three7 hj]
    refine S_ ?_
    refine c_region ?_
    first
      | refine s_val (v_moveC rfl) rfl ?_
      | refine s_val (v_moveA rfl) rfl ?_
      | refine s_val (v_moveT rfl) rfl ?_
    first
      | refine s_val (v_moveC rfl) rfl ?_
      | refine s_val (v_moveA rfl) rfl ?_
      | refine s_val (v_moveT rfl) rfl ?_
    first
      | refine s_val (v_idxS1 rfl rfl Try.underlying23 sz_5 (by omega)) rfl ?_
      | refine s_val (v_idxSo rfl rfl Try.underlying23 sz_5 (by omega)) rfl ?_
      | refine s_val (v_idxS rfl rfl Try.underlying23 sz_5 (by omega)) rfl ?_
    refine s_val (v_load8 rfl rfl row_5 LT_) rfl ?_
    refine s_val (v_and8 (b := 15#8) rfl rfl) rfl ?_
    first
      | refine s_val (v_idxS1 rfl rfl Try.underlying23 sz_5 (by omega)) rfl ?_
      | refine s_val (v_idxSo rfl rfl Try.underlying23 sz_5 (by omega)) rfl ?_
      | refine s_val (v_idxS rfl rfl Try.underlying23 sz_5 (by omega)) rfl ?_
    refine s_store8 rfl rfl rfl sz_5 LT_ SET_ ?_
    refine s_nil ?_
    refine S_ ?_
    refine c_region ?_
    first
      | refine s_val (v_addN (b := 1) rfl rfl (by omega)) rfl ?_
      | refine s_val (v_addI rfl rfl (by omega)) rfl ?_
    first
      | refine s_val (v_moveC rfl) rfl ?_
      | refine s_val (v_moveA rfl) rfl ?_
      | refine s_val (v_moveT rfl) rfl ?_
    refine s_nil ?_
    exact ⟨_, by kernel_rfl, rfl⟩
  · have h1 : (clampA K 4).length = 16 := by rw [clampA_length, hcut]
    generalize clampA K 4 = U at *
    dsimp only
    refine S_ ?_
    refine c_region ?_
    first
      | refine s_val (v_lssN rfl rfl) rfl ?_
      | refine s_val (v_lssI rfl rfl) rfl ?_
    refine s_nil ?_
    refine S_ ?_
    refine c_region ?_
    refine s_memN (m_bsI (l := natI [4, 8, 12]) Try.underlying30 el_3 rfl rfl (by decide) (by decide) LEN_) APP_ rfl ?_
    first
      | refine s_val (v_lenS rfl Try.underlying30) rfl ?_
      | refine s_val (v_lenN rfl Try.underlying30) rfl ?_
      | refine s_val (v_lenE rfl Try.underlying30) rfl ?_
    refine s_val (v_moveC rfl) rfl ?_
    refine s_nil ?_
    refine S_ ?_
    refine c_loopC [2, 4, 5, 32, 33, 34, 1] (fun (x : Nat × List (BitVec 8)) => ⟨101, keepT [2, 4, 5, 32, 33, 34, 1] [.c (.ptr 1 0), .c (.ptr 2 0), .c (.sl 3 0 16 16 1), .c (.sl 4 0 3 3 1), .c (.val (.int .i64 (((3 : Nat) : Int)))), .c (.val (.int .i64 (x.1))), .c (.sl 0 0 n cap 1)], [.row false (.a8 (t)), .row true (.a8 (key)), .row true (.a8 (zer8 16)), .row true (.a8 (x.2)), .row true (.ai (natI [4, 8, 12]))]⟩) (fun j => (j, clampB U j)) (3) (by kernel_rfl) ?_ ?_
    · intro j hj
      have h2 : (clampB U j).length = 16 := by rw [clampB_length, h1]
      simp only [clampB]
      generalize clampB U j = V at *
      refine S_ ?_
      refine c_region ?_
      first
        | refine s_val (v_lssN rfl rfl) rfl ?_
        | refine s_val (v_lssI rfl rfl) rfl ?_
      refine s_nil ?_
      refine S_ ?_
      refine c_region ?_
      first
        | refine s_val (v_idxS1 rfl rfl Try.underlying30 sz_3 (by omega)) rfl ?_
        | refine s_val (v_idxSo rfl rfl Try.underlying30 sz_3 (by omega)) rfl ?_
        | refine s_val (v_idxS rfl rfl Try.underlying30 sz_3 (by omega)) rfl ?_
      first
        | refine s_val (v_loadN rfl rfl row_3 LT_) rfl ?_
        | refine s_val (v_loadI rfl rfl row_3 LT_) rfl ?_
      first
        | refine s_val (v_assignC rfl) rfl ?_
        | refine s_val (v_assignA rfl) rfl ?_
        | refine s_val (v_assignT rfl) rfl ?_
      refine s_nil ?_
      rw [four8 hj]
      refine S_ ?_
      refine c_region ?_
      first
        | refine s_val (v_moveC rfl) rfl ?_
        | refine s_val (v_moveA rfl) rfl ?_
        | refine s_val (v_moveT rfl) rfl ?_
      first
        | refine s_val (v_moveC rfl) rfl ?_
        | refine s_val (v_moveA rfl) rfl ?_
        | refine s_val (v_moveT rfl) rfl ?_
      first
        | refine s_val (v_idxS1 rfl rfl Try.underlying23 sz_5 (by omega)) rfl ?_
        | refine s_val (v_idxSo rfl rfl Try.underlying23 sz_5 (by omega)) rfl ?_
        | refine s_val (v_idxS rfl rfl Try.underlying23 sz_5 (by omega)) rfl ?_
      refine s_val (v_load8 rfl rfl row_5 LT_) rfl ?_
      refine s_val (v_and8 (b := 252#8) rfl rfl) rfl ?_
      first
        | refine s_val (v_idxS1 rfl rfl Try.underlying23 sz_5 (by omega)) rfl ?_
        | refine s_val (v_idxSo rfl rfl Try.underlying23 sz_5 (by omega)) rfl ?_
        | refine s_val (v_idxS rfl rfl Try.underlying23 sz_5 (by omega)) rfl ?_
      refine s_store8 rfl rfl rfl sz_5 LT_ SET_ ?_
      refine s_nil ?_
      refine S_ ?_
      refine c_region ?_
      first
        | refine s_val (v_addN (b := 1) rfl rfl (by omega)) rfl ?_
        | refine s_val (v_addI rfl rfl (by omega)) rfl ?_
      first
        | refine s_val (v_moveC rfl) rfl ?_
        | refine s_val (v_moveA rfl) rfl ?_
        | refine s_val (v_moveT rfl) rfl ?_
      refine s_nil ?_
      exact ⟨_, by kernel_rfl, rfl⟩
    · have h2 : (clampB U 3).length = 16 := by rw [clampB_length, h1]
      generalize clampB U 3 = V at *
      dsimp only
      refine S_ ?_
      refine c_region ?_
      first
        | refine s_val (v_lssN rfl rfl) rfl ?_
        | refine s_val (v_lssI rfl rfl) rfl ?_
      refine s_nil ?_
      refine S_ ?_
      refine c_region ?_
      refine s_memN (m_alloc al_38 LEN_) APP_ rfl ?_
      refine s_memN (m_alloc al_38 LEN_) APP_ rfl ?_
      refine s_nil ?_
      refine S_ ?_
      refine c_region ?_
      first
        | refine s_val (v_moveC rfl) rfl ?_
        | refine s_val (v_moveA rfl) rfl ?_
        | refine s_val (v_moveT rfl) rfl ?_
      refine s_memN (m_bs8 (l := [0#8]) Try.underlying23 el_5 rfl rfl (by decide) (by decide) LEN_) APP_ rfl ?_
      first
        | refine s_memN (m_appE8 rfl rfl rfl Try.underlying23 Try.underlying23 el_5 EQL_ (by omega) LEN_) APP_ rfl ?_
        | refine s_memN (m_appN8 rfl rfl rfl Try.underlying23 Try.underlying23 el_5 EQL_ (by omega) LEN_) APP_ rfl ?_
        | refine s_app8 rfl rfl rfl rfl Try.underlying23 Try.underlying23 el_5 EQL_ EQL_ (by omega) LEN_ KILL_ rfl ?_
        | refine s_memN (m_appE8c rfl rfl rfl Try.underlying23 Try.underlying23 el_5 LE_ (by omega) LEN_) APP_ rfl ?_
        | refine s_memN (m_appN8c rfl rfl rfl Try.underlying23 Try.underlying23 el_5 LE_ (by omega) LEN_) APP_ rfl ?_
        | refine s_app8c rfl rfl rfl rfl Try.underlying23 Try.underlying23 el_5 EQL_ LE_ (by omega) LEN_ KILL_ rfl ?_
      first
        | refine s_val (v_assignC rfl) rfl ?_
        | refine s_val (v_assignA rfl) rfl ?_
        | refine s_val (v_assignT rfl) rfl ?_
      refine s_nil ?_
      refine S_ ?_
      refine c_region ?_
      refine s_val (v_moveC rfl) rfl ?_
      refine s_nil ?_
      have h3 : (V ++ [0#8]).length = 17 := by simp [h2]
      generalize V ++ [0#8] = W at *
      refine S_ ?_
      refine c_loopC [2, 4, 5, 10, 11, 48, 1] (fun (x : Nat × List (BitVec 64)) => ⟨101, keepT [2, 4, 5, 10, 11, 48, 1] [.c (.ptr 1 0), .c (.ptr 2 0), .c (.sl 3 0 17 17 1), .c (.ptr 4 0), .c (.ptr 5 0), .c (.val (.int .i64 (x.1))), .c (.sl 0 0 n cap 1)], [.row false (.a8 (t)), .row true (.a8 (key)), .row true (.a8 (zer8 16)), .row true (.a8 (W)), .row true (.a64 (x.2)), .row true (.a64 (zer64 5))]⟩) (fun j => (j, wordsL W j)) (5) (by kernel_rfl) ?_ ?_
      · intro j hj
        have h4 : (wordsL W j).length = 5 := wordsL_length W j
        simp only [wordsL]
        generalize wordsL W j = X at *
        refine S_ ?_
        refine c_region ?_
        first
          | refine s_val (v_lssN (b := 5) rfl rfl) rfl ?_
          | refine s_val (v_lssI rfl rfl) rfl ?_
        refine s_nil ?_
        refine S_ ?_
        refine c_region ?_
        first
          | refine s_val (v_moveC rfl) rfl ?_
          | refine s_val (v_moveA rfl) rfl ?_
          | refine s_val (v_moveT rfl) rfl ?_
        first
          | refine s_val (v_assignC rfl) rfl ?_
          | refine s_val (v_assignA rfl) rfl ?_
          | refine s_val (v_assignT rfl) rfl ?_
        refine s_nil ?_
        refine S_ ?_
        refine c_region ?_
        first
          | refine s_val (v_moveC rfl) rfl ?_
          | refine s_val (v_moveA rfl) rfl ?_
          | refine s_val (v_moveT rfl) rfl ?_
        first
          | refine s_val (v_moveC rfl) rfl ?_
          | refine s_val (v_moveA rfl) rfl ?_
          | refine s_val (v_moveT rfl) rfl ?_
        first
          | refine s_val (v_moveC rfl) rfl ?_
          | refine s_val (v_moveA rfl) rfl ?_
          | refine s_val (v_moveT rfl) rfl ?_
        refine s_val (v_mulN (a := 26) rfl rfl (by omega)) rfl ?_
        refine s_evN (e_callR (word26_ev W 17 _ _ h3 (by omega) (by omega)) ok_12 rfl rfl rfl VAL_) APP_ rfl ?_
        first
          | refine s_val (v_idxA1 rfl rfl Try.underlying38 sz_36 (by omega)) rfl ?_
          | refine s_val (v_idxA rfl rfl Try.underlying38 sz_36 (by omega)) rfl ?_
        refine s_store64 rfl rfl rfl sz_36 LT_ SET_ ?_
        refine s_nil ?_
        refine S_ ?_
        refine c_region ?_
        first
          | refine s_val (v_addN (b := 1) rfl rfl (by omega)) rfl ?_
          | refine s_val (v_addI rfl rfl (by omega)) rfl ?_
        first
          | refine s_val (v_moveC rfl) rfl ?_
          | refine s_val (v_moveA rfl) rfl ?_
          | refine s_val (v_moveT rfl) rfl ?_
        refine s_nil ?_
        exact ⟨_, by kernel_rfl, rfl⟩
      · have h4 : (wordsL W 5).length = 5 := wordsL_length W 5
        generalize wordsL W 5 = X at *
        dsimp only
        refine S_ ?_
        refine c_region ?_
        first
          | refine s_val (v_lssN (b := 5) rfl rfl) rfl ?_
          | refine s_val (v_lssI rfl rfl) rfl ?_
        refine s_nil ?_
        refine S_ ?_
        refine c_region ?_
        refine s_val (v_assignC rfl) rfl ?_
        refine s_nil ?_
        refine S_ ?_
        refine c_loopC [2, 4, 10, 11, 13, 1] (fun (x : Nat × List (BitVec 64)) => ⟨101, keepT [2, 4, 10, 11, 13, 1] [.c (.ptr 1 0), .c (.ptr 2 0), .c (.ptr 3 0), .c (.ptr 4 0), .c (.val (.int .i64 (x.1))), .c (.sl 0 0 n cap 1)], [.row false (.a8 (t)), .row true (.a8 (key)), .row true (.a8 (zer8 16)), .row true (.a64 (X)), .row true (.a64 (x.2))]⟩) (fun q => (16 * q, tagSt X t q)) ((n + 15) / 16) (by kernel_rfl) ?_ ?_
        · intro q hq
          have h5 : (tagSt X t q).length = 5 := tagSt_length X t q
          have hp : piece t (16 * q) = cut t (16 * q) (min (16 * q + 16) n - 16 * q) ++ [1#8] := by rw [← ht]; rfl
          have hc : (cut t (16 * q) (min (16 * q + 16) n - 16 * q)).length = min (16 * q + 16) n - 16 * q := by rw [cut_length]; omega
          have hz : (cut t (16 * q) (min (16 * q + 16) n - 16 * q) ++ [1#8]).length = min (16 * q + 16) n - 16 * q + 1 := by rw [List.length_append, hc]; rfl
          rw [tagSt, hp, hz]
          generalize tagSt X t q = H at *
          refine S_ ?_
          refine c_region ?_
          first
            | refine s_val (v_moveC rfl) rfl ?_
            | refine s_val (v_moveA rfl) rfl ?_
            | refine s_val (v_moveT rfl) rfl ?_
          first
            | refine s_val (v_moveC rfl) rfl ?_
            | refine s_val (v_moveA rfl) rfl ?_
            | refine s_val (v_moveT rfl) rfl ?_
          first
            | refine s_val (v_lenS rfl Try.underlying23) rfl ?_
            | refine s_val (v_lenN rfl Try.underlying23) rfl ?_
            | refine s_val (v_lenE rfl Try.underlying23) rfl ?_
          first
            | refine s_val (v_lssN rfl rfl) rfl ?_
            | refine s_val (v_lssI rfl rfl) rfl ?_
          refine s_nil ?_
          refine S_ ?_
          refine c_region ?_
          refine s_memN (m_bs0 Try.underlying23 el_5) APP_ rfl ?_
          first
            | refine s_val (v_moveC rfl) rfl ?_
            | refine s_val (v_moveA rfl) rfl ?_
            | refine s_val (v_moveT rfl) rfl ?_
          first
            | refine s_val (v_moveC rfl) rfl ?_
            | refine s_val (v_moveA rfl) rfl ?_
            | refine s_val (v_moveT rfl) rfl ?_
          first
            | refine s_val (v_moveC rfl) rfl ?_
            | refine s_val (v_moveA rfl) rfl ?_
            | refine s_val (v_moveT rfl) rfl ?_
          first
            | refine s_val (v_addN (b := 16) rfl rfl (by omega)) rfl ?_
            | refine s_val (v_addI rfl rfl (by omega)) rfl ?_
          first
            | refine s_val (v_moveC rfl) rfl ?_
            | refine s_val (v_moveA rfl) rfl ?_
            | refine s_val (v_moveT rfl) rfl ?_
          first
            | refine s_val (v_lenS rfl Try.underlying23) rfl ?_
            | refine s_val (v_lenN rfl Try.underlying23) rfl ?_
            | refine s_val (v_lenE rfl Try.underlying23) rfl ?_
          refine s_val (v_minN rfl rfl) rfl ?_
          first
            | refine s_val (v_slS1 rfl Try.underlying23 sz_5 rfl rfl (by omega) (by omega)) rfl ?_
            | refine s_val (v_slSo rfl Try.underlying23 sz_5 rfl rfl (by omega) (by omega)) rfl ?_
          first
            | refine s_memN (m_appE8 rfl rfl rfl Try.underlying23 Try.underlying23 el_5 EQL_ (by omega) LEN_) APP_ rfl ?_
            | refine s_memN (m_appN8 rfl rfl rfl Try.underlying23 Try.underlying23 el_5 EQL_ (by omega) LEN_) APP_ rfl ?_
            | refine s_app8 rfl rfl rfl rfl Try.underlying23 Try.underlying23 el_5 EQL_ EQL_ (by omega) LEN_ KILL_ rfl ?_
            | refine s_memN (m_appE8c rfl rfl rfl Try.underlying23 Try.underlying23 el_5 LE_ (by omega) LEN_) APP_ rfl ?_
            | refine s_memN (m_appN8c rfl rfl rfl Try.underlying23 Try.underlying23 el_5 LE_ (by omega) LEN_) APP_ rfl ?_
            | refine s_app8c rfl rfl rfl rfl Try.underlying23 Try.underlying23 el_5 EQL_ LE_ (by omega) LEN_ KILL_ rfl ?_
          refine s_memN (m_bs8 (l := [1#8]) Try.underlying23 el_5 rfl rfl (by decide) (by decide) LEN_) APP_ rfl ?_
          first
            | refine s_memN (m_appE8 rfl rfl rfl Try.underlying23 Try.underlying23 el_5 EQL_ (by omega) LEN_) APP_ rfl ?_
            | refine s_memN (m_appN8 rfl rfl rfl Try.underlying23 Try.underlying23 el_5 EQL_ (by omega) LEN_) APP_ rfl ?_
            | refine s_app8 rfl rfl rfl rfl Try.underlying23 Try.underlying23 el_5 EQL_ EQL_ (by omega) LEN_ KILL_ rfl ?_
            | refine s_memN (m_appE8c rfl rfl rfl Try.underlying23 Try.underlying23 el_5 LE_ (by omega) LEN_) APP_ rfl ?_
            | refine s_memN (m_appN8c rfl rfl rfl Try.underlying23 Try.underlying23 el_5 LE_ (by omega) LEN_) APP_ rfl ?_
            | refine s_app8c rfl rfl rfl rfl Try.underlying23 Try.underlying23 el_5 EQL_ LE_ (by omega) LEN_ KILL_ rfl ?_
          first
            | refine s_val (v_assignC rfl) rfl ?_
            | refine s_val (v_assignA rfl) rfl ?_
            | refine s_val (v_assignT rfl) rfl ?_
          refine s_nil ?_
          clear hp hc
          have hz1 : min (16 * q + 16) n - 16 * q + 1 ≤ 17 := by omega
          generalize cut t (16 * q) (min (16 * q + 16) n - 16 * q) ++ [1#8] = Z at *
          generalize min (16 * q + 16) n - 16 * q + 1 = z at *
          refine S_ ?_
          refine c_loopC [2, 4, 10, 11, 13, 1, 14] (fun (x : Nat × List (BitVec 8)) => ⟨101, keepT [2, 4, 10, 11, 13, 1, 14] [.c (.ptr 1 0), .c (.ptr 2 0), .c (.ptr 3 0), .c (.ptr 4 0), .c (.val (.int .i64 (((16 * q : Nat) : Int)))), .c (.sl 0 0 n cap 1), .c (.sl 5 0 (z + x.1) (z + x.1) 1)], [.row false (.a8 (t)), .row true (.a8 (key)), .row true (.a8 (zer8 16)), .row true (.a64 (X)), .row true (.a64 (H)), .row true (.a8 (x.2))]⟩) (fun k => (k, padL Z k)) (17 - z) (by kernel_rfl) ?_ ?_
          · intro k hk
            have h6 : (padL Z k).length = z + k := by rw [padL_length, hz]
            simp only [padL]
            generalize padL Z k = Y at *
            refine S_ ?_
            refine c_region ?_
            first
              | refine s_val (v_moveC rfl) rfl ?_
              | refine s_val (v_moveA rfl) rfl ?_
              | refine s_val (v_moveT rfl) rfl ?_
            first
              | refine s_val (v_lenS rfl Try.underlying23) rfl ?_
              | refine s_val (v_lenN rfl Try.underlying23) rfl ?_
              | refine s_val (v_lenE rfl Try.underlying23) rfl ?_
            first
              | refine s_val (v_lssN (b := 17) rfl rfl) rfl ?_
              | refine s_val (v_lssI rfl rfl) rfl ?_
            refine s_nil ?_
            refine S_ ?_
            refine c_region ?_
            first
              | refine s_val (v_moveC rfl) rfl ?_
              | refine s_val (v_moveA rfl) rfl ?_
              | refine s_val (v_moveT rfl) rfl ?_
            refine s_memN (m_bs8 (l := [0#8]) Try.underlying23 el_5 rfl rfl (by decide) (by decide) LEN_) APP_ rfl ?_
            first
              | refine s_memN (m_appE8 rfl rfl rfl Try.underlying23 Try.underlying23 el_5 EQL_ (by omega) LEN_) APP_ rfl ?_
              | refine s_memN (m_appN8 rfl rfl rfl Try.underlying23 Try.underlying23 el_5 EQL_ (by omega) LEN_) APP_ rfl ?_
              | refine s_app8 rfl rfl rfl rfl Try.underlying23 Try.underlying23 el_5 EQL_ EQL_ (by omega) LEN_ KILL_ rfl ?_
              | refine s_memN (m_appE8c rfl rfl rfl Try.underlying23 Try.underlying23 el_5 LE_ (by omega) LEN_) APP_ rfl ?_
              | refine s_memN (m_appN8c rfl rfl rfl Try.underlying23 Try.underlying23 el_5 LE_ (by omega) LEN_) APP_ rfl ?_
              | refine s_app8c rfl rfl rfl rfl Try.underlying23 Try.underlying23 el_5 EQL_ LE_ (by omega) LEN_ KILL_ rfl ?_
            first
              | refine s_val (v_assignC rfl) rfl ?_
              | refine s_val (v_assignA rfl) rfl ?_
              | refine s_val (v_assignT rfl) rfl ?_
            refine s_nil ?_
            exact ⟨_, by kernel_rfl, rfl⟩
          · have h6 : (padL Z (17 - z)).length = z + (17 - z) := by rw [padL_length, hz]
            have hy : z + (17 - z) = 17 := by omega
            dsimp only
            generalize padL Z (17 - z) = Y at *
            generalize z + (17 - z) = y at *
            refine S_ ?_
            refine c_region ?_
            first
              | refine s_val (v_moveC rfl) rfl ?_
              | refine s_val (v_moveA rfl) rfl ?_
              | refine s_val (v_moveT rfl) rfl ?_
            first
              | refine s_val (v_lenS rfl Try.underlying23) rfl ?_
              | refine s_val (v_lenN rfl Try.underlying23) rfl ?_
              | refine s_val (v_lenE rfl Try.underlying23) rfl ?_
            first
              | refine s_val (v_lssN (b := 17) rfl rfl) rfl ?_
              | refine s_val (v_lssI rfl rfl) rfl ?_
            refine s_nil ?_
            refine S_ ?_
            refine c_region ?_
            refine s_val (v_moveC rfl) rfl ?_
            refine s_nil ?_
            refine S_ ?_
            refine c_loopC [2, 4, 10, 11, 13, 1, 14, 82] (fun (x : Nat × List (BitVec 64)) => ⟨101, keepT [2, 4, 10, 11, 13, 1, 14, 82] [.c (.ptr 1 0), .c (.ptr 2 0), .c (.ptr 3 0), .c (.ptr 4 0), .c (.val (.int .i64 (((16 * q : Nat) : Int)))), .c (.sl 0 0 n cap 1), .c (.sl 5 0 y y 1), .c (.val (.int .i64 (x.1)))], [.row false (.a8 (t)), .row true (.a8 (key)), .row true (.a8 (zer8 16)), .row true (.a64 (X)), .row true (.a64 (x.2)), .row true (.a8 (Y))]⟩) (fun i => (i, hAdd Y H i)) (5) (by kernel_rfl) ?_ ?_
            · intro i hi
              have h7 : (hAdd Y H i).length = 5 := by rw [hAdd_length, h5]
              simp only [hAdd]
              generalize hAdd Y H i = G at *
              refine S_ ?_
              refine c_region ?_
              first
                | refine s_val (v_lssN (b := 5) rfl rfl) rfl ?_
                | refine s_val (v_lssI rfl rfl) rfl ?_
              refine s_nil ?_
              refine S_ ?_
              refine c_region ?_
              first
                | refine s_val (v_moveC rfl) rfl ?_
                | refine s_val (v_moveA rfl) rfl ?_
                | refine s_val (v_moveT rfl) rfl ?_
              first
                | refine s_val (v_assignC rfl) rfl ?_
                | refine s_val (v_assignA rfl) rfl ?_
                | refine s_val (v_assignT rfl) rfl ?_
              refine s_nil ?_
              refine S_ ?_
              refine c_draw 8 mixed (by kernel_rfl) rfl rfl rfl ?_
              first
                | refine h_val (v_moveC rfl) rfl ?_
                | refine h_val (v_moveA rfl) rfl ?_
                | refine h_val (v_moveT rfl) rfl ?_
              first
                | refine h_val (v_idxA1 rfl rfl Try.underlying38 sz_36 (by omega)) rfl ?_
                | refine h_val (v_idxA rfl rfl Try.underlying38 sz_36 (by omega)) rfl ?_
              refine h_val (v_load64 rfl rfl row_36 LT_) rfl ?_
              first
                | refine h_val (v_moveC rfl) rfl ?_
                | refine h_val (v_moveA rfl) rfl ?_
                | refine h_val (v_moveT rfl) rfl ?_
              first
                | refine h_val (v_moveC rfl) rfl ?_
                | refine h_val (v_moveA rfl) rfl ?_
                | refine h_val (v_moveT rfl) rfl ?_
              refine h_val (v_mulN (a := 26) rfl rfl (by omega)) rfl ?_
              refine h_evN (e_callR (word26_ev Y y _ _ h6 (by omega) (by omega)) ok_12 rfl rfl rfl VAL_) APP_ rfl ?_
              refine h_val (v_add64 rfl rfl) rfl ?_
              refine h_nil ?_
              first
                | refine s_val (v_idxA1 rfl rfl Try.underlying38 sz_36 (by omega)) rfl ?_
                | refine s_val (v_idxA rfl rfl Try.underlying38 sz_36 (by omega)) rfl ?_
              refine s_store64 rfl rfl rfl sz_36 LT_ SET_ ?_
              refine s_nil ?_
              refine S_ ?_
              refine c_region ?_
              first
                | refine s_val (v_addN (b := 1) rfl rfl (by omega)) rfl ?_
                | refine s_val (v_addI rfl rfl (by omega)) rfl ?_
              first
                | refine s_val (v_moveC rfl) rfl ?_
                | refine s_val (v_moveA rfl) rfl ?_
                | refine s_val (v_moveT rfl) rfl ?_
              refine s_nil ?_
              exact ⟨_, by kernel_rfl, rfl⟩
            · have h7 : (hAdd Y H 5).length = 5 := by rw [hAdd_length, h5]
              dsimp only
              generalize hAdd Y H 5 = G at *
              refine S_ ?_
              refine c_region ?_
              first
                | refine s_val (v_lssN (b := 5) rfl rfl) rfl ?_
                | refine s_val (v_lssI rfl rfl) rfl ?_
              refine s_nil ?_
              refine S_ ?_
              refine c_region ?_
              refine s_val (v_loadR rfl rfl row_38 sz_38 EQ_ (by decide)) rfl ?_
              refine s_val (v_loadR rfl rfl row_38 sz_38 EQ_ (by decide)) rfl ?_
              refine s_evN (e_callR (times_ev G X h7 h4) ok_13 rfl rfl rfl VAL_) APP_ rfl ?_
              refine s_storeR rfl rfl rfl rfl sz_38 EQ_ EQ_ SET_ ?_
              refine s_nil ?_
              refine S_ ?_
              refine c_region ?_
              first
                | refine s_val (v_moveC rfl) rfl ?_
                | refine s_val (v_moveA rfl) rfl ?_
                | refine s_val (v_moveT rfl) rfl ?_
              first
                | refine s_val (v_addN (b := 16) rfl rfl (by omega)) rfl ?_
                | refine s_val (v_addI rfl rfl (by omega)) rfl ?_
              first
                | refine s_val (v_assignC rfl) rfl ?_
                | refine s_val (v_assignA rfl) rfl ?_
                | refine s_val (v_assignT rfl) rfl ?_
              refine s_nil ?_
              exact ⟨(16 * q + 16, _), by kernel_rfl, by rw [Nat.mul_succ]⟩
        · have h5 : (tagSt X t ((n + 15) / 16)).length = 5 := tagSt_length X t _
          rw [hP]
          dsimp only
          generalize tagSt X t ((n + 15) / 16) = H at *
          refine S_ ?_
          refine c_region ?_
          first
            | refine s_val (v_moveC rfl) rfl ?_
            | refine s_val (v_moveA rfl) rfl ?_
            | refine s_val (v_moveT rfl) rfl ?_
          first
            | refine s_val (v_moveC rfl) rfl ?_
            | refine s_val (v_moveA rfl) rfl ?_
            | refine s_val (v_moveT rfl) rfl ?_
          first
            | refine s_val (v_lenS rfl Try.underlying23) rfl ?_
            | refine s_val (v_lenN rfl Try.underlying23) rfl ?_
            | refine s_val (v_lenE rfl Try.underlying23) rfl ?_
          first
            | refine s_val (v_lssN rfl rfl) rfl ?_
            | refine s_val (v_lssI rfl rfl) rfl ?_
          refine s_nil ?_
          refine S_ ?_
          refine c_region ?_
          refine s_val (v_loadR rfl rfl row_38 sz_38 EQ_ (by decide)) rfl ?_
          refine s_val (v_loadR rfl rfl row_22 sz_22 EQ_ (by decide)) rfl ?_
          refine s_evN (e_callR (tag_ev H key h5 hk) ok_14 rfl rfl rfl VAL_) APP_ rfl ?_
          refine s_storeR rfl rfl rfl rfl sz_25 EQ_ EQ_ SET_ ?_
          refine s_nil ?_
          refine S_ ?_
          exact k_1 (r_row rfl rfl row_25 sz_25 EQ_ (by decide)) (by first | kernel_rfl | rfl)
end Go.Proofs.Ytlphiohgehkjlaa
