/- The texts PTag, ATag, AWork, ASeal, AOpen, PlainL, CRfQuarter, CRfBlock, CRfXor, CSame, PPlain, PMul, PBytes, PPieces, PEnd, PRefMod, merged into one. -/
import Derived.Test.YtcjponmaeamjdaaGA3
/- The walk of poly.Tag. -/
namespace Go.Proofs.Ytcjponmaeamjdaa
open Go.RowKit
def clampA (l : List (BitVec 8)) : Nat → List (BitVec 8)
  | 0 => l
  | k + 1 => put (clampA l k) (4 * k + 3) (nth (clampA l k) (4 * k + 3) &&& 15#8)
def clampB (l : List (BitVec 8)) : Nat → List (BitVec 8)
  | 0 => l
  | k + 1 => put (clampB l k) (4 * k + 4) (nth (clampB l k) (4 * k + 4) &&& 252#8)
theorem clampA_length (l : List (BitVec 8)) (k : Nat) : (clampA l k).length = l.length := by
  induction k with
  | zero => rfl
  | succ k ih => simp [clampA, ih]
theorem clampB_length (l : List (BitVec 8)) (k : Nat) : (clampB l k).length = l.length := by
  induction k with
  | zero => rfl
  | succ k ih => simp [clampB, ih]
/-- The first half of the key, as it counts, and a nought. -/
def rBytes (key : List (BitVec 8)) : List (BitVec 8) := clampB (clampA (cut key 0 16) 4) 3 ++ [0#8]
def wordsL (b : List (BitVec 8)) : Nat → List (BitVec 64)
  | 0 => zer64 5
  | k + 1 => put (wordsL b k) k (wordAt b (26 * k))
theorem wordsL_length (b : List (BitVec 8)) (k : Nat) : (wordsL b k).length = 5 := by
  induction k with
  | zero => rfl
  | succ k ih => simp [wordsL, ih]
def hAdd (p : List (BitVec 8)) (h : List (BitVec 64)) : Nat → List (BitVec 64)
  | 0 => h
  | k + 1 => put (hAdd p h k) k (nth (hAdd p h k) k + wordAt p (26 * k))
theorem hAdd_length (p : List (BitVec 8)) (h : List (BitVec 64)) (k : Nat) : (hAdd p h k).length = h.length := by
  induction k with
  | zero => rfl
  | succ k ih => simp [hAdd, ih]
def padL (l : List (BitVec 8)) : Nat → List (BitVec 8)
  | 0 => l
  | k + 1 => padL l k ++ [0#8]
theorem padL_length (l : List (BitVec 8)) (k : Nat) : (padL l k).length = l.length + k := by
  induction k with
  | zero => rfl
  | succ k ih => simp [padL, ih]; omega
/-- The piece from the byte 'i' on, with a byte 1 behind it, and noughts. -/
def piece (t : List (BitVec 8)) (i : Nat) : List (BitVec 8) := cut t i (min (i + 16) t.length - i) ++ [1#8]
def tagSt (r : List (BitVec 64)) (t : List (BitVec 8)) : Nat → List (BitVec 64)
  | 0 => zer64 5
  | q + 1 => timesL (hAdd (padL (piece t (16 * q)) (17 - (piece t (16 * q)).length)) (tagSt r t q) 5) r
theorem tagSt_length (r : List (BitVec 64)) (t : List (BitVec 8)) (q : Nat) : (tagSt r t q).length = 5 := by
  cases q with
  | zero => rfl
  | succ q => rw [tagSt, timesL_length]
def polyTag (key t : List (BitVec 8)) : List (BitVec 8) := tagEnd (tagSt (wordsL (rBytes key) 5) t ((t.length + 15) / 16)) key
theorem three7 {j : Nat} (h : j < 4) : ntn [3, 7, 11, 15] j = 4 * j + 3 := by
  match j, h with
  | 0, _ => rfl
  | 1, _ => rfl
  | 2, _ => rfl
  | 3, _ => rfl
theorem four8 {j : Nat} (h : j < 3) : ntn [4, 8, 12] j = 4 * j + 4 := by
  match j, h with
  | 0, _ => rfl
  | 1, _ => rfl
  | 2, _ => rfl
attribute [local irreducible] wordAt
set_option maxRecDepth 100000 in
set_option maxHeartbeats 2000000 in
theorem polyTag_ev (key t : List (BitVec 8)) (n cap : Nat) (hk : key.length = 32) (ht : t.length = n) (hn : n ≤ 1099511627776) : Ev Try.prog (.call 17 [.agg (.a8 key), .c (.sl 0 0 n cap 1)] [.row false (.a8 t)]) (.val (.agg (.a8 (polyTag key t))) [.row false (.a8 t)]) := by
  have hP : polyTag key t = tagEnd (tagSt (wordsL (clampB (clampA (cut key 0 16) 4) 3 ++ [0#8]) 5) t ((n + 15) / 16)) key := by rw [← ht]; rfl
  have hcut : (cut key 0 16).length = 16 := by rw [cut_length]; omega
  refine c_call Try.func17 rfl Try.ntmps17 rfl LEN_ ?_
  refine S_ ?_
  refine c_region ?_
  refine s_memN (m_box BX_ LEN_) APP_ rfl ?_
  refine s_memN (m_alloc al_42 LEN_) APP_ rfl ?_
  refine s_nil ?_
  refine S_ ?_
  refine c_region ?_
  refine s_memN (m_bs0 Try.underlying24 el_5) APP_ rfl ?_
  first
    | refine s_val (v_slA1 (l := 0) (h := 16) (len := 16) (cp := 32) rfl Try.underlying22 sz_5 rfl rfl rfl (by omega) (by omega) FIT_ rfl rfl) rfl ?_
    | refine s_val (v_slA (l := 0) (h := 16) rfl Try.underlying22 sz_5 rfl rfl rfl (by omega) (by omega) FIT_) rfl ?_
  first
    | refine s_memN (m_appE8 rfl rfl rfl Try.underlying24 Try.underlying24 el_5 EQL_ (by omega) LEN_) APP_ rfl ?_
    | refine s_memN (m_appN8 rfl rfl rfl Try.underlying24 Try.underlying24 el_5 EQL_ (by omega) LEN_) APP_ rfl ?_
    | refine s_app8 rfl rfl rfl rfl Try.underlying24 Try.underlying24 el_5 EQL_ EQL_ (by omega) LEN_ KILL_ rfl ?_
    | refine s_memN (m_appE8c rfl rfl rfl Try.underlying24 Try.underlying24 el_5 LE_ (by omega) LEN_) APP_ rfl ?_
    | refine s_memN (m_appN8c rfl rfl rfl Try.underlying24 Try.underlying24 el_5 LE_ (by omega) LEN_) APP_ rfl ?_
    | refine s_app8c rfl rfl rfl rfl Try.underlying24 Try.underlying24 el_5 EQL_ LE_ (by omega) LEN_ KILL_ rfl ?_
    | refine s_memN (m_appZ rfl rfl Try.underlying24 Try.underlying24 el_5 rfl) APP_ rfl ?_
    | refine s_memN (m_appZe rfl rfl Try.underlying24 Try.underlying24 el_5 rfl) APP_ rfl ?_
  first
    | refine s_val (v_assignC rfl) rfl ?_
    | refine s_val (v_assignA rfl) rfl ?_
    | refine s_val (v_assignT rfl) rfl ?_
  refine s_nil ?_
  refine S_ ?_
  refine c_region ?_
  refine s_memN (m_bsI (l := natI [3, 7, 11, 15]) Try.underlying55 el_3 rfl rfl (by decide) (by decide) LEN_) APP_ rfl ?_
  first
    | refine s_val (v_lenS rfl Try.underlying55) rfl ?_
    | refine s_val (v_lenN rfl Try.underlying55) rfl ?_
    | refine s_val (v_lenE rfl Try.underlying55) rfl ?_
  refine s_val (v_moveC rfl) rfl ?_
  refine s_nil ?_
  generalize cut key 0 16 = K at *
  refine S_ ?_
  refine c_loopC [2, 4, 5, 19, 20, 21, 1] (fun (x : Nat × List (BitVec 8)) => ⟨101, keepT [2, 4, 5, 19, 20, 21, 1] [.c (.ptr 1 0), .c (.ptr 2 0), .c (.sl 3 0 16 16 1), .c (.sl 4 0 4 4 1), .c (.val (.int .i64 (((4 : Nat) : Int)))), .c (.val (.int .i64 (x.1))), .c (.sl 0 0 n cap 1)], [.row false (.a8 (t)), .row true (.a8 (key)), .row true (.a8 (zer8 16)), .row true (.a8 (x.2)), .row true (.ai (natI [3, 7, 11, 15]))]⟩) (fun j => (j, clampA K j)) (4) (by kernel_rfl) ?_ ?_
  · intro j hj
    have h1 : (clampA K j).length = 16 := by rw [clampA_length, hcut]
    simp only [clampA]
    generalize clampA K j = U at *
    refine S_ ?_
    refine c_region ?_
    first
      | refine s_val (v_lssN rfl rfl) rfl ?_
      | refine s_val (v_lssI rfl rfl) rfl ?_
    refine s_nil ?_
    refine S_ ?_
    refine c_region ?_
    first
      | refine s_val (v_idxS1 rfl rfl Try.underlying55 sz_3 (by omega)) rfl ?_
      | refine s_val (v_idxSo rfl rfl Try.underlying55 sz_3 (by omega)) rfl ?_
      | refine s_val (v_idxS rfl rfl Try.underlying55 sz_3 (by omega)) rfl ?_
    first
      | refine s_val (v_loadN rfl rfl row_3 LT_) rfl ?_
      | refine s_val (v_loadI rfl rfl row_3 LT_) rfl ?_
    first
      | refine s_val (v_assignC rfl) rfl ?_
      | refine s_val (v_assignA rfl) rfl ?_
      | refine s_val (v_assignT rfl) rfl ?_
    refine s_nil ?_
    rw [three7 hj]
    refine S_ ?_
    refine c_region ?_
    first
      | refine s_val (v_moveC rfl) rfl ?_
      | refine s_val (v_moveA rfl) rfl ?_
      | refine s_val (v_moveT rfl) rfl ?_
    first
      | refine s_val (v_moveC rfl) rfl ?_
      | refine s_val (v_moveA rfl) rfl ?_
      | refine s_val (v_moveT rfl) rfl ?_
    first
      | refine s_val (v_idxS1 rfl rfl Try.underlying24 sz_5 (by omega)) rfl ?_
      | refine s_val (v_idxSo rfl rfl Try.underlying24 sz_5 (by omega)) rfl ?_
      | refine s_val (v_idxS rfl rfl Try.underlying24 sz_5 (by omega)) rfl ?_
    refine s_val (v_load8 rfl rfl row_5 LT_) rfl ?_
    refine s_val (v_and8 (b := 15#8) rfl rfl) rfl ?_
    first
      | refine s_val (v_idxS1 rfl rfl Try.underlying24 sz_5 (by omega)) rfl ?_
      | refine s_val (v_idxSo rfl rfl Try.underlying24 sz_5 (by omega)) rfl ?_
      | refine s_val (v_idxS rfl rfl Try.underlying24 sz_5 (by omega)) rfl ?_
    refine s_store8 rfl rfl rfl sz_5 LT_ SET_ ?_
    refine s_nil ?_
    refine S_ ?_
    refine c_region ?_
    first
      | refine s_val (v_addN (b := 1) rfl rfl (by omega)) rfl ?_
      | refine s_val (v_addI rfl rfl (by omega)) rfl ?_
    first
      | refine s_val (v_moveC rfl) rfl ?_
      | refine s_val (v_moveA rfl) rfl ?_
      | refine s_val (v_moveT rfl) rfl ?_
    refine s_nil ?_
    exact ⟨_, by kernel_rfl, rfl⟩
  · have h1 : (clampA K 4).length = 16 := by rw [clampA_length, hcut]
    generalize clampA K 4 = U at *
    dsimp only
    refine S_ ?_
    refine c_region ?_
    first
      | refine s_val (v_lssN rfl rfl) rfl ?_
      | refine s_val (v_lssI rfl rfl) rfl ?_
    refine s_nil ?_
    refine S_ ?_
    refine c_region ?_
    refine s_memN (m_bsI (l := natI [4, 8, 12]) Try.underlying55 el_3 rfl rfl (by decide) (by decide) LEN_) APP_ rfl ?_
    first
      | refine s_val (v_lenS rfl Try.underlying55) rfl ?_
      | refine s_val (v_lenN rfl Try.underlying55) rfl ?_
      | refine s_val (v_lenE rfl Try.underlying55) rfl ?_
    refine s_val (v_moveC rfl) rfl ?_
    refine s_nil ?_
    refine S_ ?_
    refine c_loopC [2, 4, 5, 32, 33, 34, 1] (fun (x : Nat × List (BitVec 8)) => ⟨101, keepT [2, 4, 5, 32, 33, 34, 1] [.c (.ptr 1 0), .c (.ptr 2 0), .c (.sl 3 0 16 16 1), .c (.sl 4 0 3 3 1), .c (.val (.int .i64 (((3 : Nat) : Int)))), .c (.val (.int .i64 (x.1))), .c (.sl 0 0 n cap 1)], [.row false (.a8 (t)), .row true (.a8 (key)), .row true (.a8 (zer8 16)), .row true (.a8 (x.2)), .row true (.ai (natI [4, 8, 12]))]⟩) (fun j => (j, clampB U j)) (3) (by kernel_rfl) ?_ ?_
    · intro j hj
      have h2 : (clampB U j).length = 16 := by rw [clampB_length, h1]
      simp only [clampB]
      generalize clampB U j = V at *
      refine S_ ?_
      refine c_region ?_
      first
        | refine s_val (v_lssN rfl rfl) rfl ?_
        | refine s_val (v_lssI rfl rfl) rfl ?_
      refine s_nil ?_
      refine S_ ?_
      refine c_region ?_
      first
        | refine s_val (v_idxS1 rfl rfl Try.underlying55 sz_3 (by omega)) rfl ?_
        | refine s_val (v_idxSo rfl rfl Try.underlying55 sz_3 (by omega)) rfl ?_
        | refine s_val (v_idxS rfl rfl Try.underlying55 sz_3 (by omega)) rfl ?_
      first
        | refine s_val (v_loadN rfl rfl row_3 LT_) rfl ?_
        | refine s_val (v_loadI rfl rfl row_3 LT_) rfl ?_
      first
        | refine s_val (v_assignC rfl) rfl ?_
        | refine s_val (v_assignA rfl) rfl ?_
        | refine s_val (v_assignT rfl) rfl ?_
      refine s_nil ?_
      rw [four8 hj]
      refine S_ ?_
      refine c_region ?_
      first
        | refine s_val (v_moveC rfl) rfl ?_
        | refine s_val (v_moveA rfl) rfl ?_
        | refine s_val (v_moveT rfl) rfl ?_
      first
        | refine s_val (v_moveC rfl) rfl ?_
        | refine s_val (v_moveA rfl) rfl ?_
        | refine s_val (v_moveT rfl) rfl ?_
      first
        | refine s_val (v_idxS1 rfl rfl Try.underlying24 sz_5 (by omega)) rfl ?_
        | refine s_val (v_idxSo rfl rfl Try.underlying24 sz_5 (by omega)) rfl ?_
        | refine s_val (v_idxS rfl rfl Try.underlying24 sz_5 (by omega)) rfl ?_
      refine s_val (v_load8 rfl rfl row_5 LT_) rfl ?_
      refine s_val (v_and8 (b := 252#8) rfl rfl) rfl ?_
      first
        | refine s_val (v_idxS1 rfl rfl Try.underlying24 sz_5 (by omega)) rfl ?_
        | refine s_val (v_idxSo rfl rfl Try.underlying24 sz_5 (by omega)) rfl ?_
        | refine s_val (v_idxS rfl rfl Try.underlying24 sz_5 (by omega)) rfl ?_
      refine s_store8 rfl rfl rfl sz_5 LT_ SET_ ?_
      refine s_nil ?_
      refine S_ ?_
      refine c_region ?_
      first
        | refine s_val (v_addN (b := 1) rfl rfl (by omega)) rfl ?_
        | refine s_val (v_addI rfl rfl (by omega)) rfl ?_
      first
        | refine s_val (v_moveC rfl) rfl ?_
        | refine s_val (v_moveA rfl) rfl ?_
        | refine s_val (v_moveT rfl) rfl ?_
      refine s_nil ?_
      exact ⟨_, by kernel_rfl, rfl⟩
    · have h2 : (clampB U 3).length = 16 := by rw [clampB_length, h1]
      generalize clampB U 3 = V at *
      dsimp only
      refine S_ ?_
      refine c_region ?_
      first
        | refine s_val (v_lssN rfl rfl) rfl ?_
        | refine s_val (v_lssI rfl rfl) rfl ?_
      refine s_nil ?_
      refine S_ ?_
      refine c_region ?_
      refine s_memN (m_alloc al_57 LEN_) APP_ rfl ?_
      refine s_memN (m_alloc al_57 LEN_) APP_ rfl ?_
      refine s_nil ?_
      refine S_ ?_
      refine c_region ?_
      first
        | refine s_val (v_moveC rfl) rfl ?_
        | refine s_val (v_moveA rfl) rfl ?_
        | refine s_val (v_moveT rfl) rfl ?_
      refine s_memN (m_bs8 (l := [0#8]) Try.underlying24 el_5 rfl rfl (by decide) (by decide) LEN_) APP_ rfl ?_
      first
        | refine s_memN (m_appE8 rfl rfl rfl Try.underlying24 Try.underlying24 el_5 EQL_ (by omega) LEN_) APP_ rfl ?_
        | refine s_memN (m_appN8 rfl rfl rfl Try.underlying24 Try.underlying24 el_5 EQL_ (by omega) LEN_) APP_ rfl ?_
        | refine s_app8 rfl rfl rfl rfl Try.underlying24 Try.underlying24 el_5 EQL_ EQL_ (by omega) LEN_ KILL_ rfl ?_
        | refine s_memN (m_appE8c rfl rfl rfl Try.underlying24 Try.underlying24 el_5 LE_ (by omega) LEN_) APP_ rfl ?_
        | refine s_memN (m_appN8c rfl rfl rfl Try.underlying24 Try.underlying24 el_5 LE_ (by omega) LEN_) APP_ rfl ?_
        | refine s_app8c rfl rfl rfl rfl Try.underlying24 Try.underlying24 el_5 EQL_ LE_ (by omega) LEN_ KILL_ rfl ?_
        | refine s_memN (m_appZ rfl rfl Try.underlying24 Try.underlying24 el_5 rfl) APP_ rfl ?_
        | refine s_memN (m_appZe rfl rfl Try.underlying24 Try.underlying24 el_5 rfl) APP_ rfl ?_
      first
        | refine s_val (v_assignC rfl) rfl ?_
        | refine s_val (v_assignA rfl) rfl ?_
        | refine s_val (v_assignT rfl) rfl ?_
      refine s_nil ?_
      refine S_ ?_
      refine c_region ?_
      refine s_val (v_moveC rfl) rfl ?_
      refine s_nil ?_
      have h3 : (V ++ [0#8]).length = 17 := by simp [h2]
      generalize V ++ [0#8] = W at *
      refine S_ ?_
      refine c_loopC [2, 4, 5, 10, 11, 48, 1] (fun (x : Nat × List (BitVec 64)) => ⟨101, keepT [2, 4, 5, 10, 11, 48, 1] [.c (.ptr 1 0), .c (.ptr 2 0), .c (.sl 3 0 17 17 1), .c (.ptr 4 0), .c (.ptr 5 0), .c (.val (.int .i64 (x.1))), .c (.sl 0 0 n cap 1)], [.row false (.a8 (t)), .row true (.a8 (key)), .row true (.a8 (zer8 16)), .row true (.a8 (W)), .row true (.a64 (x.2)), .row true (.a64 (zer64 5))]⟩) (fun j => (j, wordsL W j)) (5) (by kernel_rfl) ?_ ?_
      · intro j hj
        have h4 : (wordsL W j).length = 5 := wordsL_length W j
        simp only [wordsL]
        generalize wordsL W j = X at *
        refine S_ ?_
        refine c_region ?_
        first
          | refine s_val (v_lssN (b := 5) rfl rfl) rfl ?_
          | refine s_val (v_lssI rfl rfl) rfl ?_
        refine s_nil ?_
        refine S_ ?_
        refine c_region ?_
        first
          | refine s_val (v_moveC rfl) rfl ?_
          | refine s_val (v_moveA rfl) rfl ?_
          | refine s_val (v_moveT rfl) rfl ?_
        first
          | refine s_val (v_assignC rfl) rfl ?_
          | refine s_val (v_assignA rfl) rfl ?_
          | refine s_val (v_assignT rfl) rfl ?_
        refine s_nil ?_
        refine S_ ?_
        refine c_region ?_
        first
          | refine s_val (v_moveC rfl) rfl ?_
          | refine s_val (v_moveA rfl) rfl ?_
          | refine s_val (v_moveT rfl) rfl ?_
        first
          | refine s_val (v_moveC rfl) rfl ?_
          | refine s_val (v_moveA rfl) rfl ?_
          | refine s_val (v_moveT rfl) rfl ?_
        first
          | refine s_val (v_moveC rfl) rfl ?_
          | refine s_val (v_moveA rfl) rfl ?_
          | refine s_val (v_moveT rfl) rfl ?_
        refine s_val (v_mulN (a := 26) rfl rfl (by omega)) rfl ?_
        refine s_evN (e_callR (word26_ev W 17 _ _ h3 (by omega) (by omega)) ok_25 rfl rfl rfl VAL_) APP_ rfl ?_
        first
          | refine s_val (v_idxA1 rfl rfl Try.underlying57 sz_51 (by omega)) rfl ?_
          | refine s_val (v_idxA rfl rfl Try.underlying57 sz_51 (by omega)) rfl ?_
        refine s_store64 rfl rfl rfl sz_51 LT_ SET_ ?_
        refine s_nil ?_
        refine S_ ?_
        refine c_region ?_
        first
          | refine s_val (v_addN (b := 1) rfl rfl (by omega)) rfl ?_
          | refine s_val (v_addI rfl rfl (by omega)) rfl ?_
        first
          | refine s_val (v_moveC rfl) rfl ?_
          | refine s_val (v_moveA rfl) rfl ?_
          | refine s_val (v_moveT rfl) rfl ?_
        refine s_nil ?_
        exact ⟨_, by kernel_rfl, rfl⟩
      · have h4 : (wordsL W 5).length = 5 := wordsL_length W 5
        generalize wordsL W 5 = X at *
        dsimp only
        refine S_ ?_
        refine c_region ?_
        first
          | refine s_val (v_lssN (b := 5) rfl rfl) rfl ?_
          | refine s_val (v_lssI rfl rfl) rfl ?_
        refine s_nil ?_
        refine S_ ?_
        refine c_region ?_
        refine s_val (v_assignC rfl) rfl ?_
        refine s_nil ?_
        refine S_ ?_
        refine c_loopC [2, 4, 10, 11, 13, 1] (fun (x : Nat × List (BitVec 64)) => ⟨101, keepT [2, 4, 10, 11, 13, 1] [.c (.ptr 1 0), .c (.ptr 2 0), .c (.ptr 3 0), .c (.ptr 4 0), .c (.val (.int .i64 (x.1))), .c (.sl 0 0 n cap 1)], [.row false (.a8 (t)), .row true (.a8 (key)), .row true (.a8 (zer8 16)), .row true (.a64 (X)), .row true (.a64 (x.2))]⟩) (fun q => (16 * q, tagSt X t q)) ((n + 15) / 16) (by kernel_rfl) ?_ ?_
        · intro q hq
          have h5 : (tagSt X t q).length = 5 := tagSt_length X t q
          have hp : piece t (16 * q) = cut t (16 * q) (min (16 * q + 16) n - 16 * q) ++ [1#8] := by rw [← ht]; rfl
          have hc : (cut t (16 * q) (min (16 * q + 16) n - 16 * q)).length = min (16 * q + 16) n - 16 * q := by rw [cut_length]; omega
          have hz : (cut t (16 * q) (min (16 * q + 16) n - 16 * q) ++ [1#8]).length = min (16 * q + 16) n - 16 * q + 1 := by rw [List.length_append, hc]; rfl
          rw [tagSt, hp, hz]
          generalize tagSt X t q = H at *
          refine S_ ?_
          refine c_region ?_
          first
            | refine s_val (v_moveC rfl) rfl ?_
            | refine s_val (v_moveA rfl) rfl ?_
            | refine s_val (v_moveT rfl) rfl ?_
          first
            | refine s_val (v_moveC rfl) rfl ?_
            | refine s_val (v_moveA rfl) rfl ?_
            | refine s_val (v_moveT rfl) rfl ?_
          first
            | refine s_val (v_lenS rfl Try.underlying24) rfl ?_
            | refine s_val (v_lenN rfl Try.underlying24) rfl ?_
            | refine s_val (v_lenE rfl Try.underlying24) rfl ?_
          first
            | refine s_val (v_lssN rfl rfl) rfl ?_
            | refine s_val (v_lssI rfl rfl) rfl ?_
          refine s_nil ?_
          refine S_ ?_
          refine c_region ?_
          refine s_memN (m_bs0 Try.underlying24 el_5) APP_ rfl ?_
          first
            | refine s_val (v_moveC rfl) rfl ?_
            | refine s_val (v_moveA rfl) rfl ?_
            | refine s_val (v_moveT rfl) rfl ?_
          first
            | refine s_val (v_moveC rfl) rfl ?_
            | refine s_val (v_moveA rfl) rfl ?_
            | refine s_val (v_moveT rfl) rfl ?_
          first
            | refine s_val (v_moveC rfl) rfl ?_
            | refine s_val (v_moveA rfl) rfl ?_
            | refine s_val (v_moveT rfl) rfl ?_
          first
            | refine s_val (v_addN (b := 16) rfl rfl (by omega)) rfl ?_
            | refine s_val (v_addI rfl rfl (by omega)) rfl ?_
          first
            | refine s_val (v_moveC rfl) rfl ?_
            | refine s_val (v_moveA rfl) rfl ?_
            | refine s_val (v_moveT rfl) rfl ?_
          first
            | refine s_val (v_lenS rfl Try.underlying24) rfl ?_
            | refine s_val (v_lenN rfl Try.underlying24) rfl ?_
            | refine s_val (v_lenE rfl Try.underlying24) rfl ?_
          first
            | refine s_val (v_minN rfl rfl) rfl ?_
            | refine s_val (v_minL rfl rfl (by omega)) rfl ?_
            | refine s_val (v_minR rfl rfl (by omega)) rfl ?_
          first
            | refine s_val (v_slS1 rfl Try.underlying24 sz_5 rfl rfl (by omega) (by omega)) rfl ?_
            | refine s_val (v_slSo rfl Try.underlying24 sz_5 rfl rfl (by omega) (by omega)) rfl ?_
          first
            | refine s_memN (m_appE8 rfl rfl rfl Try.underlying24 Try.underlying24 el_5 EQL_ (by omega) LEN_) APP_ rfl ?_
            | refine s_memN (m_appN8 rfl rfl rfl Try.underlying24 Try.underlying24 el_5 EQL_ (by omega) LEN_) APP_ rfl ?_
            | refine s_app8 rfl rfl rfl rfl Try.underlying24 Try.underlying24 el_5 EQL_ EQL_ (by omega) LEN_ KILL_ rfl ?_
            | refine s_memN (m_appE8c rfl rfl rfl Try.underlying24 Try.underlying24 el_5 LE_ (by omega) LEN_) APP_ rfl ?_
            | refine s_memN (m_appN8c rfl rfl rfl Try.underlying24 Try.underlying24 el_5 LE_ (by omega) LEN_) APP_ rfl ?_
            | refine s_app8c rfl rfl rfl rfl Try.underlying24 Try.underlying24 el_5 EQL_ LE_ (by omega) LEN_ KILL_ rfl ?_
            | refine s_memN (m_appZ rfl rfl Try.underlying24 Try.underlying24 el_5 rfl) APP_ rfl ?_
            | refine s_memN (m_appZe rfl rfl Try.underlying24 Try.underlying24 el_5 rfl) APP_ rfl ?_
          refine s_memN (m_bs8 (l := [1#8]) Try.underlying24 el_5 rfl rfl (by decide) (by decide) LEN_) APP_ rfl ?_
          first
            | refine s_memN (m_appE8 rfl rfl rfl Try.underlying24 Try.underlying24 el_5 EQL_ (by omega) LEN_) APP_ rfl ?_
            | refine s_memN (m_appN8 rfl rfl rfl Try.underlying24 Try.underlying24 el_5 EQL_ (by omega) LEN_) APP_ rfl ?_
            | refine s_app8 rfl rfl rfl rfl Try.underlying24 Try.underlying24 el_5 EQL_ EQL_ (by omega) LEN_ KILL_ rfl ?_
            | refine s_memN (m_appE8c rfl rfl rfl Try.underlying24 Try.underlying24 el_5 LE_ (by omega) LEN_) APP_ rfl ?_
            | refine s_memN (m_appN8c rfl rfl rfl Try.underlying24 Try.underlying24 el_5 LE_ (by omega) LEN_) APP_ rfl ?_
            | refine s_app8c rfl rfl rfl rfl Try.underlying24 Try.underlying24 el_5 EQL_ LE_ (by omega) LEN_ KILL_ rfl ?_
            | refine s_memN (m_appZ rfl rfl Try.underlying24 Try.underlying24 el_5 rfl) APP_ rfl ?_
            | refine s_memN (m_appZe rfl rfl Try.underlying24 Try.underlying24 el_5 rfl) APP_ rfl ?_
          first
            | refine s_val (v_assignC rfl) rfl ?_
            | refine s_val (v_assignA rfl) rfl ?_
            | refine s_val (v_assignT rfl) rfl ?_
          refine s_nil ?_
          clear hp hc
          have hz1 : min (16 * q + 16) n - 16 * q + 1 ≤ 17 := by omega
          generalize cut t (16 * q) (min (16 * q + 16) n - 16 * q) ++ [1#8] = Z at *
          generalize min (16 * q + 16) n - 16 * q + 1 = z at *
          refine S_ ?_
          refine c_loopC [2, 4, 10, 11, 13, 1, 14] (fun (x : Nat × List (BitVec 8)) => ⟨101, keepT [2, 4, 10, 11, 13, 1, 14] [.c (.ptr 1 0), .c (.ptr 2 0), .c (.ptr 3 0), .c (.ptr 4 0), .c (.val (.int .i64 (((16 * q : Nat) : Int)))), .c (.sl 0 0 n cap 1), .c (.sl 5 0 (z + x.1) (z + x.1) 1)], [.row false (.a8 (t)), .row true (.a8 (key)), .row true (.a8 (zer8 16)), .row true (.a64 (X)), .row true (.a64 (H)), .row true (.a8 (x.2))]⟩) (fun k => (k, padL Z k)) (17 - z) (by kernel_rfl) ?_ ?_
          · intro k hk
            have h6 : (padL Z k).length = z + k := by rw [padL_length, hz]
            simp only [padL]
            generalize padL Z k = Y at *
            refine S_ ?_
            refine c_region ?_
            first
              | refine s_val (v_moveC rfl) rfl ?_
              | refine s_val (v_moveA rfl) rfl ?_
              | refine s_val (v_moveT rfl) rfl ?_
            first
              | refine s_val (v_lenS rfl Try.underlying24) rfl ?_
              | refine s_val (v_lenN rfl Try.underlying24) rfl ?_
              | refine s_val (v_lenE rfl Try.underlying24) rfl ?_
            first
              | refine s_val (v_lssN (b := 17) rfl rfl) rfl ?_
              | refine s_val (v_lssI rfl rfl) rfl ?_
            refine s_nil ?_
            refine S_ ?_
            refine c_region ?_
            first
              | refine s_val (v_moveC rfl) rfl ?_
              | refine s_val (v_moveA rfl) rfl ?_
              | refine s_val (v_moveT rfl) rfl ?_
            refine s_memN (m_bs8 (l := [0#8]) Try.underlying24 el_5 rfl rfl (by decide) (by decide) LEN_) APP_ rfl ?_
            first
              | refine s_memN (m_appE8 rfl rfl rfl Try.underlying24 Try.underlying24 el_5 EQL_ (by omega) LEN_) APP_ rfl ?_
              | refine s_memN (m_appN8 rfl rfl rfl Try.underlying24 Try.underlying24 el_5 EQL_ (by omega) LEN_) APP_ rfl ?_
              | refine s_app8 rfl rfl rfl rfl Try.underlying24 Try.underlying24 el_5 EQL_ EQL_ (by omega) LEN_ KILL_ rfl ?_
              | refine s_memN (m_appE8c rfl rfl rfl Try.underlying24 Try.underlying24 el_5 LE_ (by omega) LEN_) APP_ rfl ?_
              | refine s_memN (m_appN8c rfl rfl rfl Try.underlying24 Try.underlying24 el_5 LE_ (by omega) LEN_) APP_ rfl ?_
              | refine s_app8c rfl rfl rfl rfl Try.underlying24 Try.underlying24 el_5 EQL_ LE_ (by omega) LEN_ KILL_ rfl ?_
              | refine s_memN (m_appZ rfl rfl Try.underlying24 Try.underlying24 el_5 rfl) APP_ rfl ?_
              | refine s_memN (m_appZe rfl rfl Try.underlying24 Try.underlying24 el_5 rfl) APP_ rfl ?_
            first
              | refine s_val (v_assignC rfl) rfl ?_
              | refine s_val (v_assignA rfl) rfl ?_
              | refine s_val (v_assignT rfl) rfl ?_
            refine s_nil ?_
            exact ⟨_, by kernel_rfl, rfl⟩
          · have h6 : (padL Z (17 - z)).length = z + (17 - z) := by rw [padL_length, hz]
            have hy : z + (17 - z) = 17 := by omega
            dsimp only
            generalize padL Z (17 - z) = Y at *
            generalize z + (17 - z) = y at *
            refine S_ ?_
            refine c_region ?_
            first
              | refine s_val (v_moveC rfl) rfl ?_
              | refine s_val (v_moveA rfl) rfl ?_
              | refine s_val (v_moveT rfl) rfl ?_
            first
              | refine s_val (v_lenS rfl Try.underlying24) rfl ?_
              | refine s_val (v_lenN rfl Try.underlying24) rfl ?_
              | refine s_val (v_lenE rfl Try.underlying24) rfl ?_
            first
              | refine s_val (v_lssN (b := 17) rfl rfl) rfl ?_
              | refine s_val (v_lssI rfl rfl) rfl ?_
            refine s_nil ?_
            refine S_ ?_
            refine c_region ?_
            refine s_val (v_moveC rfl) rfl ?_
            refine s_nil ?_
            refine S_ ?_
            refine c_loopC [2, 4, 10, 11, 13, 1, 14, 82] (fun (x : Nat × List (BitVec 64)) => ⟨101, keepT [2, 4, 10, 11, 13, 1, 14, 82] [.c (.ptr 1 0), .c (.ptr 2 0), .c (.ptr 3 0), .c (.ptr 4 0), .c (.val (.int .i64 (((16 * q : Nat) : Int)))), .c (.sl 0 0 n cap 1), .c (.sl 5 0 y y 1), .c (.val (.int .i64 (x.1)))], [.row false (.a8 (t)), .row true (.a8 (key)), .row true (.a8 (zer8 16)), .row true (.a64 (X)), .row true (.a64 (x.2)), .row true (.a8 (Y))]⟩) (fun i => (i, hAdd Y H i)) (5) (by kernel_rfl) ?_ ?_
            · intro i hi
              have h7 : (hAdd Y H i).length = 5 := by rw [hAdd_length, h5]
              simp only [hAdd]
              generalize hAdd Y H i = G at *
              refine S_ ?_
              refine c_region ?_
              first
                | refine s_val (v_lssN (b := 5) rfl rfl) rfl ?_
                | refine s_val (v_lssI rfl rfl) rfl ?_
              refine s_nil ?_
              refine S_ ?_
              refine c_region ?_
              first
                | refine s_val (v_moveC rfl) rfl ?_
                | refine s_val (v_moveA rfl) rfl ?_
                | refine s_val (v_moveT rfl) rfl ?_
              first
                | refine s_val (v_assignC rfl) rfl ?_
                | refine s_val (v_assignA rfl) rfl ?_
                | refine s_val (v_assignT rfl) rfl ?_
              refine s_nil ?_
              refine S_ ?_
              refine c_draw 8 mixed (by kernel_rfl) rfl rfl rfl ?_
              first
                | refine h_val (v_moveC rfl) rfl ?_
                | refine h_val (v_moveA rfl) rfl ?_
                | refine h_val (v_moveT rfl) rfl ?_
              first
                | refine h_val (v_idxA1 rfl rfl Try.underlying57 sz_51 (by omega)) rfl ?_
                | refine h_val (v_idxA rfl rfl Try.underlying57 sz_51 (by omega)) rfl ?_
              refine h_val (v_load64 rfl rfl row_51 LT_) rfl ?_
              first
                | refine h_val (v_moveC rfl) rfl ?_
                | refine h_val (v_moveA rfl) rfl ?_
                | refine h_val (v_moveT rfl) rfl ?_
              first
                | refine h_val (v_moveC rfl) rfl ?_
                | refine h_val (v_moveA rfl) rfl ?_
                | refine h_val (v_moveT rfl) rfl ?_
              refine h_val (v_mulN (a := 26) rfl rfl (by omega)) rfl ?_
              refine h_evN (e_callR (word26_ev Y y _ _ h6 (by omega) (by omega)) ok_25 rfl rfl rfl VAL_) APP_ rfl ?_
              refine h_val (v_add64 rfl rfl) rfl ?_
              refine h_nil ?_
              first
                | refine s_val (v_idxA1 rfl rfl Try.underlying57 sz_51 (by omega)) rfl ?_
                | refine s_val (v_idxA rfl rfl Try.underlying57 sz_51 (by omega)) rfl ?_
              refine s_store64 rfl rfl rfl sz_51 LT_ SET_ ?_
              refine s_nil ?_
              refine S_ ?_
              refine c_region ?_
              first
                | refine s_val (v_addN (b := 1) rfl rfl (by omega)) rfl ?_
                | refine s_val (v_addI rfl rfl (by omega)) rfl ?_
              first
                | refine s_val (v_moveC rfl) rfl ?_
                | refine s_val (v_moveA rfl) rfl ?_
                | refine s_val (v_moveT rfl) rfl ?_
              refine s_nil ?_
              exact ⟨_, by kernel_rfl, rfl⟩
            · have h7 : (hAdd Y H 5).length = 5 := by rw [hAdd_length, h5]
              dsimp only
              generalize hAdd Y H 5 = G at *
              refine S_ ?_
              refine c_region ?_
              first
                | refine s_val (v_lssN (b := 5) rfl rfl) rfl ?_
                | refine s_val (v_lssI rfl rfl) rfl ?_
              refine s_nil ?_
              refine S_ ?_
              refine c_region ?_
              first
                | refine s_val (v_loadR rfl rfl row_57 sz_57 EQ_ (by decide)) rfl ?_
                | refine s_val (v_loadW8 rfl rfl row_57 sz_57 LE_ (by decide)) rfl ?_
                | refine s_val (v_loadW64 rfl rfl row_57 sz_57 LE_ (by decide)) rfl ?_
              first
                | refine s_val (v_loadR rfl rfl row_57 sz_57 EQ_ (by decide)) rfl ?_
                | refine s_val (v_loadW8 rfl rfl row_57 sz_57 LE_ (by decide)) rfl ?_
                | refine s_val (v_loadW64 rfl rfl row_57 sz_57 LE_ (by decide)) rfl ?_
              refine s_evN (e_callR (times_ev G X h7 h4) ok_26 rfl rfl rfl VAL_) APP_ rfl ?_
              refine s_storeR rfl rfl rfl rfl sz_57 EQ_ EQ_ SET_ ?_
              refine s_nil ?_
              refine S_ ?_
              refine c_region ?_
              first
                | refine s_val (v_moveC rfl) rfl ?_
                | refine s_val (v_moveA rfl) rfl ?_
                | refine s_val (v_moveT rfl) rfl ?_
              first
                | refine s_val (v_addN (b := 16) rfl rfl (by omega)) rfl ?_
                | refine s_val (v_addI rfl rfl (by omega)) rfl ?_
              first
                | refine s_val (v_assignC rfl) rfl ?_
                | refine s_val (v_assignA rfl) rfl ?_
                | refine s_val (v_assignT rfl) rfl ?_
              refine s_nil ?_
              exact ⟨(16 * q + 16, _), by kernel_rfl, by rw [Nat.mul_succ]⟩
        · have h5 : (tagSt X t ((n + 15) / 16)).length = 5 := tagSt_length X t _
          rw [hP]
          dsimp only
          generalize tagSt X t ((n + 15) / 16) = H at *
          refine S_ ?_
          refine c_region ?_
          first
            | refine s_val (v_moveC rfl) rfl ?_
            | refine s_val (v_moveA rfl) rfl ?_
            | refine s_val (v_moveT rfl) rfl ?_
          first
            | refine s_val (v_moveC rfl) rfl ?_
            | refine s_val (v_moveA rfl) rfl ?_
            | refine s_val (v_moveT rfl) rfl ?_
          first
            | refine s_val (v_lenS rfl Try.underlying24) rfl ?_
            | refine s_val (v_lenN rfl Try.underlying24) rfl ?_
            | refine s_val (v_lenE rfl Try.underlying24) rfl ?_
          first
            | refine s_val (v_lssN rfl rfl) rfl ?_
            | refine s_val (v_lssI rfl rfl) rfl ?_
          refine s_nil ?_
          refine S_ ?_
          refine c_region ?_
          first
            | refine s_val (v_loadR rfl rfl row_57 sz_57 EQ_ (by decide)) rfl ?_
            | refine s_val (v_loadW8 rfl rfl row_57 sz_57 LE_ (by decide)) rfl ?_
            | refine s_val (v_loadW64 rfl rfl row_57 sz_57 LE_ (by decide)) rfl ?_
          first
            | refine s_val (v_loadR rfl rfl row_22 sz_22 EQ_ (by decide)) rfl ?_
            | refine s_val (v_loadW8 rfl rfl row_22 sz_22 LE_ (by decide)) rfl ?_
            | refine s_val (v_loadW64 rfl rfl row_22 sz_22 LE_ (by decide)) rfl ?_
          refine s_evN (e_callR (tag_ev H key h5 hk) ok_27 rfl rfl rfl VAL_) APP_ rfl ?_
          refine s_storeR rfl rfl rfl rfl sz_42 EQ_ EQ_ SET_ ?_
          refine s_nil ?_
          refine S_ ?_
          exact k_1 (r_row rfl rfl row_42 sz_42 EQ_ (by decide)) (by first | kernel_rfl | rfl)
@[simp] theorem polyTag_len (key t : List (BitVec 8)) : (polyTag key t).length = 16 := by with_unfolding_all exact tagEnd_length _ _
end Go.Proofs.Ytcjponmaeamjdaa
/- aead.tag (Drawn up by a program.) -/
namespace Go.Proofs.Ytcjponmaeamjdaa
open Go.RowKit
def adTag_L8_S (ad : List (BitVec 8)) (tx : List (BitVec 8)) (j5 : Nat) (X5 : List (BitVec 8)) (j8 : Nat) : List (BitVec 8) := X5 ++ [((BitVec.ofNat 64 (ntn [ad.length, tx.length] j5)) >>> (8 * j8)).setWidth 8]
def adTag_L8 (ad : List (BitVec 8)) (tx : List (BitVec 8)) (X4 : List (BitVec 8)) (j5 : Nat) : Nat → List (BitVec 8)
  | 0 => X4
  | j8 + 1 => adTag_L8_S ad tx j5 (adTag_L8 ad tx X4 j5 j8) j8
@[simp] theorem adTag_L8_len (ad : List (BitVec 8)) (tx : List (BitVec 8)) (X4 : List (BitVec 8)) (j5 : Nat) (j8 : Nat) : (adTag_L8 ad tx X4 j5 j8).length = X4.length + j8 := by
  induction j8 with
  | zero => first | (simp [adTag_L8, *]; done) | (simp [adTag_L8, *]; omega)
  | succ j8 ih => rw [adTag_L8.eq_2, adTag_L8_S]; first | (simp [ih]; done) | (simp [ih]; omega) | (simp [*]; done) | (simp [*]; omega) | (split <;> first | (simp [ih]; done) | (simp [ih]; omega) | (simp [*]; done))
def adTag_L5_S (ad : List (BitVec 8)) (tx : List (BitVec 8)) (X4 : List (BitVec 8)) (j5 : Nat) : List (BitVec 8) := (adTag_L8 ad tx X4 j5 8)
def adTag_L5 (ad : List (BitVec 8)) (tx : List (BitVec 8)) : Nat → List (BitVec 8)
  | 0 => adFull ((adFull ad) ++ tx)
  | j5 + 1 => adTag_L5_S ad tx (adTag_L5 ad tx j5) j5
@[simp] theorem adTag_L5_len (ad : List (BitVec 8)) (tx : List (BitVec 8)) (j5 : Nat) : (adTag_L5 ad tx j5).length = (((ad.length + (16 - ad.length % 16) % 16) + tx.length) + (16 - ((ad.length + (16 - ad.length % 16) % 16) + tx.length) % 16) % 16) + 8 * j5 := by
  induction j5 with
  | zero => first | (simp [adTag_L5, *]; done) | (simp [adTag_L5, *]; omega)
  | succ j5 ih => rw [adTag_L5.eq_2, adTag_L5_S]; first | (simp [ih]; done) | (simp [ih]; omega) | (simp [adTag_L8_len, *]; done) | (simp [adTag_L8_len, *]; omega) | (split <;> first | (simp [ih]; done) | (simp [ih]; omega) | (simp [adTag_L8_len, *]; done))
def adTag (key : List (BitVec 8)) (nonce : List (BitVec 8)) (ad : List (BitVec 8)) (tx : List (BitVec 8)) : List (BitVec 8) := polyTag (cut (chBlock key 0#32 nonce) 0 32) (adTag_L5 ad tx 2)
set_option maxRecDepth 100000 in
set_option maxHeartbeats 2000000 in
theorem adTag_ev (key : List (BitVec 8)) (nonce : List (BitVec 8)) (ad : List (BitVec 8)) (an : Nat) (acap : Nat) (b : List (BitVec 8)) (o : Nat) (n : Nat) (cap : Nat) (hkey : key.length = 32) (hnonce : nonce.length = 12) (had : ad.length = an) (han : an ≤ 1099511627) (hb : o + n ≤ b.length) (hn : n ≤ 1099511627) : Ev Try.prog (.call 28 [.agg (.a8 (key)), .agg (.a8 (nonce)), .c (.sl 0 0 an acap 1), .c (.sl 1 o n cap 1)] [.row false (.a8 (ad)), .row false (.a8 (b))]) (.val (.agg (.a8 (adTag key nonce ad (cut b o n)))) [.row false (.a8 (ad)), .row false (.a8 (b))]) := by
  have hP : Hid (adTag key nonce ad (cut b o n) = polyTag (cut (chBlock key 0#32 nonce) 0 32) (adTag_L5 ad (cut b o n) 2)) := ⟨rfl⟩
  subst had
  have htx : (cut b o n).length = n := by rw [cut_length]; omega
  try simp only [htx] at hP
  refine c_call Try.func28 rfl Try.ntmps28 rfl LEN_ ?_
  refine S_ ?_
  refine c_region ?_
  refine s_memN (m_box BX_ LEN_) APP_ rfl ?_
  refine s_memN (m_box BX_ LEN_) APP_ rfl ?_
  refine s_memN (m_alloc al_42 LEN_) APP_ rfl ?_
  refine s_nil ?_
  have hQ1 : (chBlock key 0#32 nonce).length = 64 := LQ_
  refine S_ ?_
  refine c_region ?_
  refine s_val (v_loadR rfl rfl row_22 sz_22 EQ_ (by decide)) rfl ?_
  refine s_val (v_loadR rfl rfl row_23 sz_23 EQ_ (by decide)) rfl ?_
  refine s_evN (e_callR (bs := []) (chBlock_ev key 0#32 nonce HYP_ HYP_) ok_16 (by kernel_rfl) (by kernel_rfl) rfl VAL_) APP_ rfl ?_
  refine s_memN (m_alloc al_39 LEN_) APP_ rfl ?_
  refine s_storeR rfl rfl rfl rfl sz_39 EQ_ EQ_ SET_ ?_
  refine s_nil ?_
  have hQ2 : (adFull ad).length = ad.length + (16 - ad.length % 16) % 16 := LQ_
  refine S_ ?_
  refine c_region ?_
  refine s_memN (m_bs0 Try.underlying24 el_5) APP_ rfl ?_
  refine s_val (v_moveC rfl) rfl ?_
  refine s_memN (m_appE8 rfl rfl rfl Try.underlying24 Try.underlying24 el_5 EQL_ (by omega) LEN_) APP_ rfl ?_
  refine s_ev (e_callK (bs := [6]) (adFull_ev ad ad.length ad.length HYP_ HYP_) ok_37 (by kernel_rfl) rfl rfl VAL_ APP_) rfl ?_
  refine s_val (v_assignC rfl) rfl ?_
  refine s_nil ?_
  have hQ3 : (adFull ((adFull ad) ++ (cut b o n))).length = ((ad.length + (16 - ad.length % 16) % 16) + n) + (16 - ((ad.length + (16 - ad.length % 16) % 16) + n) % 16) % 16 := LQ_
  refine S_ ?_
  refine c_region ?_
  refine s_val (v_moveC rfl) rfl ?_
  refine s_val (v_moveC rfl) rfl ?_
  refine s_app8c rfl rfl rfl rfl Try.underlying24 Try.underlying24 el_5 EQL_ LE_ (by omega) LEN_ KILL_ rfl ?_
  refine s_ev (e_callK (bs := [8]) (adFull_ev ((adFull ad) ++ (cut b o n)) ((ad.length + (16 - ad.length % 16) % 16) + n) ((ad.length + (16 - ad.length % 16) % 16) + n) HYP_ HYP_) ok_37 (by kernel_rfl) rfl rfl VAL_ APP_) rfl ?_
  refine s_val (v_assignC rfl) rfl ?_
  refine s_nil ?_
  refine S_ ?_
  refine c_region ?_
  refine s_val (v_moveC rfl) rfl ?_
  refine s_val (v_lenS rfl Try.underlying24) rfl ?_
  refine s_val (v_moveC rfl) rfl ?_
  refine s_val (v_lenS rfl Try.underlying24) rfl ?_
  refine s_memN (m_bsI (l := [_, _]) Try.underlying55 el_3 rfl rfl (by decide) (by decide) LEN_) APP_ rfl ?_
  refine s_val (v_lenS rfl Try.underlying55) rfl ?_
  refine s_val (v_moveC rfl) rfl ?_
  refine s_nil ?_
  refine S_ ?_
  refine c_loopC [8, 9, 10, 29, 30, 31] (fun (zz : Nat × List (BitVec 8)) => ⟨54, keepT [8, 9, 10, 29, 30, 31] [.c (.ptr 2 0), .c (.ptr 3 0), .c (.sl 4 0 ((((ad.length + (16 - ad.length % 16) % 16) + n) + (16 - ((ad.length + (16 - ad.length % 16) % 16) + n) % 16) % 16) + 8 * zz.1) ((((ad.length + (16 - ad.length % 16) % 16) + n) + (16 - ((ad.length + (16 - ad.length % 16) % 16) + n) % 16) % 16) + 8 * zz.1) 1), .c (.sl 5 0 2 2 1), .c (.val (.int .i64 (((2 : Nat) : Int)))), .c (.val (.int .i64 (((zz.1 : Nat) : Int))))], [.row false (.a8 (ad)), .row false (.a8 (b)), .row true (.a8 (zer8 16)), .row true (.a8 (chBlock key 0#32 nonce)), .row true (.a8 (zz.2)), .row true (.ai (natI [ad.length, n]))]⟩) (fun j5 => (j5, adTag_L5 ad (cut b o n) j5)) (2) (by kernel_rfl) ?_ ?_
  · intro j5 hj5
    try dsimp only
    have hX4 : (adTag_L5 ad (cut b o n) j5).length = (((ad.length + (16 - ad.length % 16) % 16) + n) + (16 - ((ad.length + (16 - ad.length % 16) % 16) + n) % 16) % 16) + 8 * j5 := by rw [adTag_L5_len ad (cut b o n) _]; try omega
    rw [adTag_L5.eq_2, adTag_L5_S]
    try simp only [htx]
    generalize adTag_L5 ad (cut b o n) j5 = X4 at *
    refine S_ ?_
    refine c_region ?_
    refine s_val (v_lssN (b := 2) rfl rfl) rfl ?_
    refine s_nil ?_
    refine S_ ?_
    refine c_region ?_
    refine s_val (v_idxS1 rfl rfl Try.underlying55 sz_3 (by omega)) rfl ?_
    refine s_val (v_loadN rfl rfl row_3 LT_) rfl ?_
    refine s_val (v_assignC rfl) rfl ?_
    refine s_nil ?_
    refine S_ ?_
    refine c_region ?_
    refine s_val (v_moveC rfl) rfl ?_
    refine s_nil ?_
    refine S_ ?_
    refine c_loopC [8, 9, 10, 12, 29, 30, 31, 35] (fun (zz : Nat × List (BitVec 8)) => ⟨54, keepT [8, 9, 10, 12, 29, 30, 31, 35] [.c (.ptr 2 0), .c (.ptr 3 0), .c (.sl 4 0 (((((ad.length + (16 - ad.length % 16) % 16) + n) + (16 - ((ad.length + (16 - ad.length % 16) % 16) + n) % 16) % 16) + 8 * j5) + zz.1) (((((ad.length + (16 - ad.length % 16) % 16) + n) + (16 - ((ad.length + (16 - ad.length % 16) % 16) + n) % 16) % 16) + 8 * j5) + zz.1) 1), .c (.val (.int .i64 (((ntn [ad.length, n] j5 : Nat) : Int)))), .c (.sl 5 0 2 2 1), .c (.val (.int .i64 (((2 : Nat) : Int)))), .c (.val (.int .i64 (((j5 : Nat) : Int)))), .c (.val (.int .i64 (((zz.1 : Nat) : Int))))], [.row false (.a8 (ad)), .row false (.a8 (b)), .row true (.a8 (zer8 16)), .row true (.a8 (chBlock key 0#32 nonce)), .row true (.a8 (zz.2)), .row true (.ai (natI [ad.length, n]))]⟩) (fun j8 => (j8, adTag_L8 ad (cut b o n) X4 j5 j8)) (8) (by kernel_rfl) ?_ ?_
    · intro j8 hj8
      try dsimp only
      have hX5 : (adTag_L8 ad (cut b o n) X4 j5 j8).length = ((((ad.length + (16 - ad.length % 16) % 16) + n) + (16 - ((ad.length + (16 - ad.length % 16) % 16) + n) % 16) % 16) + 8 * j5) + j8 := by rw [adTag_L8_len ad (cut b o n) X4 j5 _]; try omega
      rw [adTag_L8.eq_2, adTag_L8_S]
      try simp only [htx]
      generalize adTag_L8 ad (cut b o n) X4 j5 j8 = X5 at *
      refine S_ ?_
      refine c_region ?_
      refine s_val (v_lssN (b := 8) rfl rfl) rfl ?_
      refine s_nil ?_
      refine S_ ?_
      refine c_region ?_
      refine s_val (v_moveC rfl) rfl ?_
      refine s_val (v_assignC rfl) rfl ?_
      refine s_nil ?_
      refine S_ ?_
      refine c_region ?_
      refine s_val (v_moveC rfl) rfl ?_
      refine s_val (v_moveC rfl) rfl ?_
      refine s_val (v_conv rfl Try.underlying3 Try.underlying51 (wi_64 _)) rfl ?_
      refine s_val (v_moveC rfl) rfl ?_
      refine s_val (v_mulN (a := 8) rfl rfl (by omega)) rfl ?_
      refine s_val (v_shr64n rfl rfl) rfl ?_
      refine s_val (v_conv rfl Try.underlying51 Try.underlying5 (w64_8 _)) rfl ?_
      refine s_memN (m_bs8 (l := [_]) Try.underlying24 el_5 rfl rfl (by decide) (by decide) LEN_) APP_ rfl ?_
      refine s_app8 rfl rfl rfl rfl Try.underlying24 Try.underlying24 el_5 EQL_ EQL_ (by omega) LEN_ KILL_ rfl ?_
      refine s_val (v_assignC rfl) rfl ?_
      refine s_nil ?_
      refine S_ ?_
      refine c_region ?_
      refine s_val (v_addN (b := 1) rfl rfl (by omega)) rfl ?_
      refine s_val (v_moveC rfl) rfl ?_
      refine s_nil ?_
      exact ⟨(j8 + 1, _), by kernel_rfl, rfl⟩
    · try dsimp only
      have hY6 : (adTag_L8 ad (cut b o n) X4 j5 8).length = ((((ad.length + (16 - ad.length % 16) % 16) + n) + (16 - ((ad.length + (16 - ad.length % 16) % 16) + n) % 16) % 16) + 8 * j5) + 8 := by rw [adTag_L8_len ad (cut b o n) X4 j5 _]; try omega
      generalize adTag_L8 ad (cut b o n) X4 j5 8 = Y6 at *
      refine S_ ?_
      refine c_region ?_
      refine s_val (v_lssN (a := 8) (b := 8) rfl rfl) rfl ?_
      refine s_nil ?_
      refine S_ ?_
      refine c_region ?_
      refine s_val (v_addN (b := 1) rfl rfl (by omega)) rfl ?_
      refine s_val (v_moveC rfl) rfl ?_
      refine s_nil ?_
      exact ⟨(j5 + 1, _), by kernel_rfl, rfl⟩
  · try dsimp only
    have hY7 : (adTag_L5 ad (cut b o n) 2).length = (((ad.length + (16 - ad.length % 16) % 16) + n) + (16 - ((ad.length + (16 - ad.length % 16) % 16) + n) % 16) % 16) + 8 * 2 := by rw [adTag_L5_len ad (cut b o n) _]; try omega
    generalize adTag_L5 ad (cut b o n) 2 = Y7 at *
    refine S_ ?_
    refine c_region ?_
    refine s_val (v_lssN (a := 2) (b := 2) rfl rfl) rfl ?_
    refine s_nil ?_
    have hQ8 : (cut (chBlock key 0#32 nonce) 0 32).length = 32 := LQ_
    have hQ9 : (polyTag (cut (chBlock key 0#32 nonce) 0 32) Y7).length = 16 := LQ_
    refine S_ ?_
    refine c_region ?_
    refine s_val (v_slA1 (l := 0) (h := 32) (len := 32) (cp := 64) rfl Try.underlying39 sz_5 rfl rfl rfl (by omega) (by omega) FIT_ rfl rfl) rfl ?_
    refine s_val (v_arrP rfl Try.underlying22 (by omega) (by decide)) rfl ?_
    refine s_val (v_loadW8 rfl rfl row_22 sz_22 LE_ (by decide)) rfl ?_
    refine s_val (v_moveC rfl) rfl ?_
    refine s_evN (e_callR (polyTag_ev (cut (chBlock key 0#32 nonce) 0 32) Y7 ((((ad.length + (16 - ad.length % 16) % 16) + n) + (16 - ((ad.length + (16 - ad.length % 16) % 16) + n) % 16) % 16) + 8 * 2) ((((ad.length + (16 - ad.length % 16) % 16) + n) + (16 - ((ad.length + (16 - ad.length % 16) % 16) + n) % 16) % 16) + 8 * 2) HYP_ HYP_ HYP_) ok_17 rfl rfl rfl VAL_) APP_ rfl ?_
    refine s_storeR rfl rfl rfl rfl sz_42 EQ_ EQ_ SET_ ?_
    refine s_nil ?_
    refine S_ ?_
    rw [hP.out]
    exact k_1 (r_row rfl rfl row_42 sz_42 EQ_ (by decide)) (by first | kernel_rfl | rfl)
theorem adTag_evS (key : List (BitVec 8)) (nonce : List (BitVec 8)) (ad : List (BitVec 8)) (an : Nat) (acap : Nat) (b : List (BitVec 8)) (n : Nat) (cap : Nat) (hkey : key.length = 32) (hnonce : nonce.length = 12) (had : ad.length = an) (han : an ≤ 1099511627) (hb : b.length = n) (hn : n ≤ 1099511627) : Ev Try.prog (.call 28 [.agg (.a8 (key)), .agg (.a8 (nonce)), .c (.sl 0 0 an acap 1), .c (.sl 1 0 n cap 1)] [.row false (.a8 (ad)), .row false (.a8 (b))]) (.val (.agg (.a8 (adTag key nonce ad b))) [.row false (.a8 (ad)), .row false (.a8 (b))]) := by
  have h_ := adTag_ev key nonce ad an acap b 0 n cap hkey hnonce had han (by omega) hn
  rw [cut_all hb] at h_
  exact h_

@[simp] theorem adTag_len (key : List (BitVec 8)) (nonce : List (BitVec 8)) (ad : List (BitVec 8)) (tx : List (BitVec 8)) (hkey : key.length = 32) (hnonce : nonce.length = 12) : (adTag key nonce ad tx).length = 16 := by
  unfold adTag
  first | (simp [adTag_L8_len, adTag_L5_len, *]; done) | (simp [adTag_L8_len, adTag_L5_len, *]; omega)

attribute [irreducible] adTag
end Go.Proofs.Ytcjponmaeamjdaa
/- aead.work, aead.work (Drawn up by a program.) -/
namespace Go.Proofs.Ytcjponmaeamjdaa
open Go.RowKit
def adWork00 (key : List (BitVec 8)) (nonce : List (BitVec 8)) (text : List (BitVec 8)) : List (BitVec 8) := chXor key 1#32 nonce text
def adWork01 (key : List (BitVec 8)) (nonce : List (BitVec 8)) (ad : List (BitVec 8)) (text : List (BitVec 8)) : List (BitVec 8) := adTag key nonce ad (chXor key 1#32 nonce text)
set_option maxRecDepth 100000 in
set_option maxHeartbeats 2000000 in
theorem adWork0_ev (key : List (BitVec 8)) (nonce : List (BitVec 8)) (ad : List (BitVec 8)) (an : Nat) (acap : Nat) (text : List (BitVec 8)) (tn : Nat) (tcap : Nat) (hkey : key.length = 32) (hnonce : nonce.length = 12) (had : ad.length = an) (han : an ≤ 1099511627) (htext : text.length = tn) (htn : tn ≤ 1099511627) : Ev Try.prog (.call 19 [.c (.val (.int .i64 ((0 : Nat) : Int))), .agg (.a8 (key)), .agg (.a8 (nonce)), .c (.sl 0 0 an acap 1), .c (.sl 1 0 tn tcap 1)] [.row false (.a8 (ad)), .row false (.a8 (text))]) (.val (.tup [.c (.sl 2 0 tn tn 1), .agg (.a8 (adWork01 key nonce ad text))]) [.row false (.a8 (ad)), .row false (.a8 (text)), .row true (.a8 (adWork00 key nonce text))]) := by
  have hP_adWork00 : Hid (adWork00 key nonce text = chXor key 1#32 nonce text) := ⟨rfl⟩
  have hP_adWork01 : Hid (adWork01 key nonce ad text = adTag key nonce ad (chXor key 1#32 nonce text)) := ⟨rfl⟩
  subst had
  subst htext
  refine c_call Try.func19 rfl Try.ntmps19 rfl LEN_ ?_
  refine S_ ?_
  refine c_region ?_
  refine s_memN (m_box BX_ LEN_) APP_ rfl ?_
  refine s_memN (m_box BX_ LEN_) APP_ rfl ?_
  refine s_val (v_assignC rfl) rfl ?_
  refine s_memN (m_alloc al_42 LEN_) APP_ rfl ?_
  refine s_nil ?_
  refine S_ ?_
  refine c_region ?_
  refine s_val (v_moveC rfl) rfl ?_
  refine s_nil ?_
  refine S_ ?_
  refine c_region ?_
  refine s_val (v_eqlN (a := 0) (b := 0) rfl rfl) rfl ?_
  refine s_val (v_assignC rfl) rfl ?_
  refine s_nil ?_
  have hQ1 : (chXor key 1#32 nonce text).length = text.length := LQ_
  refine S_ ?_
  refine c_region ?_
  refine s_val (v_loadR rfl rfl row_22 sz_22 EQ_ (by decide)) rfl ?_
  refine s_val (v_loadR rfl rfl row_23 sz_23 EQ_ (by decide)) rfl ?_
  refine s_val (v_moveC rfl) rfl ?_
  refine s_evN (e_callR (bs := [1]) (chXor_evS key 1#32 nonce text text.length tcap HYP_ HYP_ HYP_ HYP_) ok_18 (by kernel_rfl) (by kernel_rfl) rfl VAL_) APP_ rfl ?_
  refine s_val (v_assignC rfl) rfl ?_
  refine s_nil ?_
  have hQ2 : (adTag key nonce ad (chXor key 1#32 nonce text)).length = 16 := LQ_
  refine S_ ?_
  refine c_region ?_
  refine s_val (v_loadR rfl rfl row_22 sz_22 EQ_ (by decide)) rfl ?_
  refine s_val (v_loadR rfl rfl row_23 sz_23 EQ_ (by decide)) rfl ?_
  refine s_val (v_moveC rfl) rfl ?_
  refine s_val (v_moveC rfl) rfl ?_
  refine s_evN (e_callR (bs := [0,5]) (adTag_evS key nonce ad ad.length acap (chXor key 1#32 nonce text) text.length text.length HYP_ HYP_ HYP_ HYP_ HYP_ HYP_) ok_28 (by kernel_rfl) (by kernel_rfl) rfl VAL_) APP_ rfl ?_
  refine s_storeR rfl rfl rfl rfl sz_42 EQ_ EQ_ SET_ ?_
  refine s_nil ?_
  refine S_ ?_
  refine c_draw 3 mixed (by kernel_rfl) rfl rfl rfl ?_
  refine h_val (v_moveC rfl) rfl ?_
  refine h_val (v_loadR rfl rfl row_42 sz_42 EQ_ (by decide)) rfl ?_
  refine h_val (v_assignC rfl) rfl ?_
  refine h_nil ?_
  refine s_storeR rfl rfl rfl rfl sz_42 EQ_ EQ_ SET_ ?_
  refine s_nil ?_
  refine S_ ?_
  rw [hP_adWork00.out, hP_adWork01.out]
  exact k_2 (by first | exact r_tmpC rfl | exact r_tmpA rfl) (r_row rfl rfl row_42 sz_42 EQ_ (by decide)) (by first | kernel_rfl | rfl)

@[simp] theorem adWork00_len (key : List (BitVec 8)) (nonce : List (BitVec 8)) (text : List (BitVec 8)) (hkey : key.length = 32) (hnonce : nonce.length = 12) : (adWork00 key nonce text).length = text.length := by
  unfold adWork00
  first | (simp [*]; done) | (simp [*]; omega)

attribute [irreducible] adWork00

@[simp] theorem adWork01_len (key : List (BitVec 8)) (nonce : List (BitVec 8)) (ad : List (BitVec 8)) (text : List (BitVec 8)) (hkey : key.length = 32) (hnonce : nonce.length = 12) : (adWork01 key nonce ad text).length = 16 := by
  unfold adWork01
  first | (simp [*]; done) | (simp [*]; omega)

attribute [irreducible] adWork01

def adWork11 (key : List (BitVec 8)) (nonce : List (BitVec 8)) (ad : List (BitVec 8)) (tx : List (BitVec 8)) : List (BitVec 8) := adTag key nonce ad tx
set_option maxRecDepth 100000 in
set_option maxHeartbeats 2000000 in
theorem adWork1_ev (key : List (BitVec 8)) (nonce : List (BitVec 8)) (ad : List (BitVec 8)) (an : Nat) (acap : Nat) (b : List (BitVec 8)) (o : Nat) (n : Nat) (cap : Nat) (hkey : key.length = 32) (hnonce : nonce.length = 12) (had : ad.length = an) (han : an ≤ 1099511627) (hb : o + n ≤ b.length) (hn : n ≤ 1099511627) : Ev Try.prog (.call 19 [.c (.val (.int .i64 ((1 : Nat) : Int))), .agg (.a8 (key)), .agg (.a8 (nonce)), .c (.sl 0 0 an acap 1), .c (.sl 1 o n cap 1)] [.row false (.a8 (ad)), .row false (.a8 (b))]) (.val (.tup [.c (.sl 1 o n cap 1), .agg (.a8 (adWork11 key nonce ad (cut b o n)))]) [.row false (.a8 (ad)), .row false (.a8 (b))]) := by
  have hP_adWork11 : Hid (adWork11 key nonce ad (cut b o n) = adTag key nonce ad (cut b o n)) := ⟨rfl⟩
  subst had
  have htx : (cut b o n).length = n := by rw [cut_length]; omega
  try simp only [htx] at hP_adWork11
  refine c_call Try.func19 rfl Try.ntmps19 rfl LEN_ ?_
  refine S_ ?_
  refine c_region ?_
  refine s_memN (m_box BX_ LEN_) APP_ rfl ?_
  refine s_memN (m_box BX_ LEN_) APP_ rfl ?_
  refine s_val (v_assignC rfl) rfl ?_
  refine s_memN (m_alloc al_42 LEN_) APP_ rfl ?_
  refine s_nil ?_
  refine S_ ?_
  refine c_region ?_
  refine s_val (v_moveC rfl) rfl ?_
  refine s_nil ?_
  refine S_ ?_
  refine c_region ?_
  refine s_val (v_eqlN (a := 1) (b := 0) rfl rfl) rfl ?_
  refine s_val (v_assignC rfl) rfl ?_
  refine s_nil ?_
  refine S_ ?_
  refine c_region ?_
  refine s_val (v_eqlN (a := 1) (b := 1) rfl rfl) rfl ?_
  refine s_val (v_assignC rfl) rfl ?_
  refine s_nil ?_
  have hQ1 : (adTag key nonce ad (cut b o n)).length = 16 := LQ_
  refine S_ ?_
  refine c_region ?_
  refine s_val (v_loadR rfl rfl row_22 sz_22 EQ_ (by decide)) rfl ?_
  refine s_val (v_loadR rfl rfl row_23 sz_23 EQ_ (by decide)) rfl ?_
  refine s_val (v_moveC rfl) rfl ?_
  refine s_val (v_moveC rfl) rfl ?_
  refine s_evN (e_callR (bs := [0,1]) (adTag_ev key nonce ad ad.length acap b o n cap HYP_ HYP_ HYP_ HYP_ HYP_ HYP_) ok_28 (by kernel_rfl) (by kernel_rfl) rfl VAL_) APP_ rfl ?_
  refine s_storeR rfl rfl rfl rfl sz_42 EQ_ EQ_ SET_ ?_
  refine s_nil ?_
  refine S_ ?_
  refine c_draw 3 mixed (by kernel_rfl) rfl rfl rfl ?_
  refine h_val (v_moveC rfl) rfl ?_
  refine h_val (v_loadR rfl rfl row_42 sz_42 EQ_ (by decide)) rfl ?_
  refine h_val (v_assignC rfl) rfl ?_
  refine h_nil ?_
  refine s_storeR rfl rfl rfl rfl sz_42 EQ_ EQ_ SET_ ?_
  refine s_nil ?_
  refine S_ ?_
  rw [hP_adWork11.out]
  exact k_2 (by first | exact r_tmpC rfl | exact r_tmpA rfl) (r_row rfl rfl row_42 sz_42 EQ_ (by decide)) (by first | kernel_rfl | rfl)
theorem adWork1_evS (key : List (BitVec 8)) (nonce : List (BitVec 8)) (ad : List (BitVec 8)) (an : Nat) (acap : Nat) (b : List (BitVec 8)) (n : Nat) (cap : Nat) (hkey : key.length = 32) (hnonce : nonce.length = 12) (had : ad.length = an) (han : an ≤ 1099511627) (hb : b.length = n) (hn : n ≤ 1099511627) : Ev Try.prog (.call 19 [.c (.val (.int .i64 ((1 : Nat) : Int))), .agg (.a8 (key)), .agg (.a8 (nonce)), .c (.sl 0 0 an acap 1), .c (.sl 1 0 n cap 1)] [.row false (.a8 (ad)), .row false (.a8 (b))]) (.val (.tup [.c (.sl 1 0 n cap 1), .agg (.a8 (adWork11 key nonce ad b))]) [.row false (.a8 (ad)), .row false (.a8 (b))]) := by
  have h_ := adWork1_ev key nonce ad an acap b 0 n cap hkey hnonce had han (by omega) hn
  rw [cut_all hb] at h_
  exact h_

@[simp] theorem adWork11_len (key : List (BitVec 8)) (nonce : List (BitVec 8)) (ad : List (BitVec 8)) (tx : List (BitVec 8)) (hkey : key.length = 32) (hnonce : nonce.length = 12) : (adWork11 key nonce ad tx).length = 16 := by
  unfold adWork11
  first | (simp [*]; done) | (simp [*]; omega)

attribute [irreducible] adWork11
end Go.Proofs.Ytcjponmaeamjdaa
/- aead.Seal, aead.Seal, aead.Seal (Drawn up by a program.) -/
namespace Go.Proofs.Ytcjponmaeamjdaa
open Go.RowKit
def adSeal0 (key : List (BitVec 8)) (nonce : List (BitVec 8)) (ad : List (BitVec 8)) (text : List (BitVec 8)) : List (BitVec 8) := (adWork00 key nonce text) ++ (adWork01 key nonce ad text)
set_option maxRecDepth 100000 in
set_option maxHeartbeats 2000000 in
theorem adSeal_ev (key : List (BitVec 8)) (nonce : List (BitVec 8)) (ad : List (BitVec 8)) (an : Nat) (acap : Nat) (text : List (BitVec 8)) (tn : Nat) (tcap : Nat) (hkey : key.length = 32) (hnonce : nonce.length = 12) (had : ad.length = an) (han : an ≤ 1099511627) (htext : text.length = tn) (htn : tn ≤ 1099511627) (hA : an ≤ 65536) (hT : tn ≤ 65536) : Ev Try.prog (.call 9 [.agg (.a8 (key)), .agg (.a8 (nonce)), .c (.sl 0 0 an acap 1), .c (.sl 1 0 tn tcap 1)] [.row false (.a8 (ad)), .row false (.a8 (text))]) (.val (.tup [.c (.sl 2 0 (tn + 16) (tn + 16) 1), .c (.val (.int .i64 ((0 : Nat) : Int)))]) [.row false (.a8 (ad)), .row false (.a8 (text)), .row true (.a8 (adSeal0 key nonce ad text))]) := by
  have hP_adSeal0 : Hid (adSeal0 key nonce ad text = (adWork00 key nonce text) ++ (adWork01 key nonce ad text)) := ⟨rfl⟩
  subst had
  subst htext
  refine c_call Try.func9 rfl Try.ntmps9 rfl LEN_ ?_
  refine S_ ?_
  refine c_region ?_
  refine s_memN (m_box BX_ LEN_) APP_ rfl ?_
  refine s_memN (m_box BX_ LEN_) APP_ rfl ?_
  refine s_val (v_assignC rfl) rfl ?_
  refine s_val (v_assignC rfl) rfl ?_
  refine s_nil ?_
  refine S_ ?_
  refine c_region ?_
  refine s_val (v_moveC rfl) rfl ?_
  refine s_val (v_lenS rfl Try.underlying24) rfl ?_
  refine s_val (v_gtrN (b := 65536) rfl rfl) rfl ?_
  refine s_val (v_moveC rfl) rfl ?_
  refine s_go GO_ ?_
  refine s_val (v_moveC rfl) rfl ?_
  refine s_go GO_ ?_
  refine s_val (v_lenS rfl Try.underlying24) rfl ?_
  refine s_go GO_ ?_
  refine s_val (v_gtrN (b := 65536) rfl rfl) rfl ?_
  refine s_val (v_pickF rfl PK_ rfl) rfl ?_
  refine s_nil ?_
  have hQ1 : (adWork00 key nonce text).length = text.length := LQ_
  have hQ2 : (adWork01 key nonce ad text).length = 16 := LQ_
  refine S_ ?_
  refine c_region ?_
  refine s_val (v_loadR rfl rfl row_22 sz_22 EQ_ (by decide)) rfl ?_
  refine s_val (v_loadR rfl rfl row_23 sz_23 EQ_ (by decide)) rfl ?_
  refine s_val (v_moveC rfl) rfl ?_
  refine s_val (v_moveC rfl) rfl ?_
  refine s_evN (e_callR (bs := [0,1]) (adWork0_ev key nonce ad ad.length acap text text.length tcap HYP_ HYP_ HYP_ HYP_ HYP_ HYP_) ok_19 (by kernel_rfl) (by kernel_rfl) rfl VAL_) APP_ rfl ?_
  refine s_val (v_moveT rfl) rfl ?_
  refine s_val (v_extract rfl rfl) rfl ?_
  refine s_val (v_extract rfl rfl) rfl ?_
  refine s_memN (m_alloc al_42 LEN_) APP_ rfl ?_
  refine s_val (v_assignC rfl) rfl ?_
  refine s_storeR rfl rfl rfl rfl sz_42 EQ_ EQ_ SET_ ?_
  refine s_nil ?_
  refine S_ ?_
  refine c_region ?_
  refine s_val (v_moveC rfl) rfl ?_
  refine s_val (v_slA1 (l := 0) (h := 16) (len := 16) (cp := 16) rfl Try.underlying42 sz_5 rfl rfl rfl (by omega) (by omega) FIT_ rfl rfl) rfl ?_
  refine s_app8 rfl rfl rfl rfl Try.underlying24 Try.underlying24 el_5 EQL_ EQL_ (by omega) LEN_ KILL_ rfl ?_
  refine s_val (v_assignC rfl) rfl ?_
  refine s_val (v_assignC rfl) rfl ?_
  refine s_nil ?_
  refine S_ ?_
  rw [hP_adSeal0.out]
  exact k_2 (by first | exact r_tmpC rfl | exact r_tmpA rfl) (by first | exact r_tmpC rfl | exact r_tmpA rfl) (by first | kernel_rfl | rfl)

@[simp] theorem adSeal0_len (key : List (BitVec 8)) (nonce : List (BitVec 8)) (ad : List (BitVec 8)) (text : List (BitVec 8)) (hkey : key.length = 32) (hnonce : nonce.length = 12) : (adSeal0 key nonce ad text).length = text.length + 16 := by
  unfold adSeal0
  first | (simp [*]; done) | (simp [*]; omega)

attribute [irreducible] adSeal0


set_option maxRecDepth 100000 in
set_option maxHeartbeats 2000000 in
theorem adSealA_ev (key : List (BitVec 8)) (nonce : List (BitVec 8)) (ad : List (BitVec 8)) (an : Nat) (acap : Nat) (text : List (BitVec 8)) (tn : Nat) (tcap : Nat) (hkey : key.length = 32) (hnonce : nonce.length = 12) (had : ad.length = an) (han : an ≤ 1099511627) (htext : text.length = tn) (htn : tn ≤ 1099511627) (hA : 65536 < an) : Ev Try.prog (.call 9 [.agg (.a8 (key)), .agg (.a8 (nonce)), .c (.sl 0 0 an acap 1), .c (.sl 1 0 tn tcap 1)] [.row false (.a8 (ad)), .row false (.a8 (text))]) (.val (.tup [.c .nsl, .c (.val (.int .i64 ((2 : Nat) : Int)))]) [.row false (.a8 (ad)), .row false (.a8 (text))]) := by
  subst had
  subst htext
  refine c_call Try.func9 rfl Try.ntmps9 rfl LEN_ ?_
  refine S_ ?_
  refine c_region ?_
  refine s_memN (m_box BX_ LEN_) APP_ rfl ?_
  refine s_memN (m_box BX_ LEN_) APP_ rfl ?_
  refine s_val (v_assignC rfl) rfl ?_
  refine s_val (v_assignC rfl) rfl ?_
  refine s_nil ?_
  refine S_ ?_
  refine c_region ?_
  refine s_val (v_moveC rfl) rfl ?_
  refine s_val (v_lenS rfl Try.underlying24) rfl ?_
  refine s_val (v_gtrN (b := 65536) rfl rfl) rfl ?_
  refine s_val (v_moveC rfl) rfl ?_
  refine s_no GO_ rfl ?_
  refine s_no GO_ rfl ?_
  refine s_no GO_ rfl ?_
  refine s_val (v_pickT rfl PK_ rfl) rfl ?_
  refine s_nil ?_
  refine S_ ?_
  refine c_region ?_
  refine s_val (v_assignC rfl) rfl ?_
  refine s_val (v_assignC rfl) rfl ?_
  refine s_nil ?_
  refine S_ ?_
  exact k_2 (by first | exact r_tmpC rfl | exact r_tmpA rfl) (by first | exact r_tmpC rfl | exact r_tmpA rfl) (by first | kernel_rfl | rfl)


set_option maxRecDepth 100000 in
set_option maxHeartbeats 2000000 in
theorem adSealT_ev (key : List (BitVec 8)) (nonce : List (BitVec 8)) (ad : List (BitVec 8)) (an : Nat) (acap : Nat) (text : List (BitVec 8)) (tn : Nat) (tcap : Nat) (hkey : key.length = 32) (hnonce : nonce.length = 12) (had : ad.length = an) (han : an ≤ 1099511627) (htext : text.length = tn) (htn : tn ≤ 1099511627) (hA : an ≤ 65536) (hT : 65536 < tn) : Ev Try.prog (.call 9 [.agg (.a8 (key)), .agg (.a8 (nonce)), .c (.sl 0 0 an acap 1), .c (.sl 1 0 tn tcap 1)] [.row false (.a8 (ad)), .row false (.a8 (text))]) (.val (.tup [.c .nsl, .c (.val (.int .i64 ((2 : Nat) : Int)))]) [.row false (.a8 (ad)), .row false (.a8 (text))]) := by
  subst had
  subst htext
  refine c_call Try.func9 rfl Try.ntmps9 rfl LEN_ ?_
  refine S_ ?_
  refine c_region ?_
  refine s_memN (m_box BX_ LEN_) APP_ rfl ?_
  refine s_memN (m_box BX_ LEN_) APP_ rfl ?_
  refine s_val (v_assignC rfl) rfl ?_
  refine s_val (v_assignC rfl) rfl ?_
  refine s_nil ?_
  refine S_ ?_
  refine c_region ?_
  refine s_val (v_moveC rfl) rfl ?_
  refine s_val (v_lenS rfl Try.underlying24) rfl ?_
  refine s_val (v_gtrN (b := 65536) rfl rfl) rfl ?_
  refine s_val (v_moveC rfl) rfl ?_
  refine s_go GO_ ?_
  refine s_val (v_moveC rfl) rfl ?_
  refine s_go GO_ ?_
  refine s_val (v_lenS rfl Try.underlying24) rfl ?_
  refine s_go GO_ ?_
  refine s_val (v_gtrN (b := 65536) rfl rfl) rfl ?_
  refine s_val (v_pickF rfl PK_ rfl) rfl ?_
  refine s_nil ?_
  refine S_ ?_
  refine c_region ?_
  refine s_val (v_assignC rfl) rfl ?_
  refine s_val (v_assignC rfl) rfl ?_
  refine s_nil ?_
  refine S_ ?_
  exact k_2 (by first | exact r_tmpC rfl | exact r_tmpA rfl) (by first | exact r_tmpC rfl | exact r_tmpA rfl) (by first | kernel_rfl | rfl)
end Go.Proofs.Ytcjponmaeamjdaa
/- aead.Open, aead.Open, aead.Open, aead.Open, aead.Open (Drawn up by a program.) -/
namespace Go.Proofs.Ytcjponmaeamjdaa
open Go.RowKit
def adOpen0 (key : List (BitVec 8)) (nonce : List (BitVec 8)) (box : List (BitVec 8)) : List (BitVec 8) := chXor key 1#32 nonce (cut box 0 (box.length - 16))
set_option maxRecDepth 100000 in
set_option maxHeartbeats 2000000 in
theorem adOpen_ev (key : List (BitVec 8)) (nonce : List (BitVec 8)) (ad : List (BitVec 8)) (an : Nat) (acap : Nat) (box : List (BitVec 8)) (bn : Nat) (bcap : Nat) (hkey : key.length = 32) (hnonce : nonce.length = 12) (had : ad.length = an) (han : an ≤ 1099511627) (hbox : box.length = bn) (hbn : bn ≤ 1099511627) (hA : an ≤ 65536) (h16 : 16 ≤ bn) (hT : bn - 16 ≤ 65536) (hE : adWork11 key nonce ad (cut box 0 (bn - 16)) = cut box (bn - 16) 16) : Ev Try.prog (.call 13 [.agg (.a8 (key)), .agg (.a8 (nonce)), .c (.sl 0 0 an acap 1), .c (.sl 1 0 bn bcap 1)] [.row false (.a8 (ad)), .row false (.a8 (box))]) (.val (.tup [.c (.sl 2 0 (bn - 16) (bn - 16) 1), .c (.val (.int .i64 ((0 : Nat) : Int)))]) [.row false (.a8 (ad)), .row false (.a8 (box)), .row true (.a8 (adOpen0 key nonce box))]) := by
  have hP_adOpen0 : Hid (adOpen0 key nonce box = chXor key 1#32 nonce (cut box 0 (box.length - 16))) := ⟨rfl⟩
  subst had
  subst hbox
  refine c_call Try.func13 rfl Try.ntmps13 rfl LEN_ ?_
  refine S_ ?_
  refine c_region ?_
  refine s_memN (m_box BX_ LEN_) APP_ rfl ?_
  refine s_memN (m_box BX_ LEN_) APP_ rfl ?_
  refine s_val (v_assignC rfl) rfl ?_
  refine s_val (v_assignC rfl) rfl ?_
  refine s_nil ?_
  refine S_ ?_
  refine c_region ?_
  refine s_val (v_moveC rfl) rfl ?_
  refine s_val (v_lenS rfl Try.underlying24) rfl ?_
  first
    | refine s_val (v_subN (b := 16) rfl rfl (by omega) (by omega)) rfl ?_
    | refine s_val (v_subI rfl rfl (by omega)) rfl ?_
  refine s_val (v_assignC rfl) rfl ?_
  refine s_nil ?_
  refine S_ ?_
  refine c_region ?_
  refine s_val (v_moveC rfl) rfl ?_
  refine s_val (v_lenS rfl Try.underlying24) rfl ?_
  refine s_val (v_gtrN (b := 65536) rfl rfl) rfl ?_
  refine s_val (v_moveC rfl) rfl ?_
  refine s_go GO_ ?_
  refine s_val (v_moveC rfl) rfl ?_
  refine s_go GO_ ?_
  refine s_val (v_lssN (b := 0) rfl rfl) rfl ?_
  refine s_val (v_pickF rfl PK_ rfl) rfl ?_
  refine s_val (v_moveC rfl) rfl ?_
  refine s_go GO_ ?_
  refine s_val (v_moveC rfl) rfl ?_
  refine s_go GO_ ?_
  refine s_val (v_gtrN (b := 65536) rfl rfl) rfl ?_
  refine s_val (v_pickF rfl PK_ rfl) rfl ?_
  refine s_nil ?_
  have hQ1 : (adWork11 key nonce ad (cut box 0 (box.length - 16))).length = 16 := LQ_
  refine S_ ?_
  refine c_draw 12 mixed (by kernel_rfl) rfl rfl rfl ?_
  refine h_val (v_loadR rfl rfl row_22 sz_22 EQ_ (by decide)) rfl ?_
  refine h_val (v_loadR rfl rfl row_23 sz_23 EQ_ (by decide)) rfl ?_
  refine h_val (v_moveC rfl) rfl ?_
  refine h_val (v_moveC rfl) rfl ?_
  refine h_val (v_moveC rfl) rfl ?_
  refine h_val (v_slS0 rfl Try.underlying24 sz_5 rfl (by omega)) rfl ?_
  refine h_evN (e_callR (bs := [0,1]) (adWork1_ev key nonce ad ad.length acap box 0 (box.length - 16) bcap HYP_ HYP_ HYP_ HYP_ HYP_ HYP_) ok_19 (by kernel_rfl) (by kernel_rfl) rfl VAL_) APP_ rfl ?_
  refine h_val (v_moveT rfl) rfl ?_
  refine h_val (v_extract rfl rfl) rfl ?_
  refine h_val (v_extract rfl rfl) rfl ?_
  refine h_memN (m_alloc al_42 LEN_) APP_ rfl ?_
  refine h_val (v_assignC rfl) rfl ?_
  refine h_nil ?_
  refine s_storeR rfl rfl rfl rfl sz_42 EQ_ EQ_ SET_ ?_
  refine s_nil ?_
  have hQ2 : (cut box (box.length - 16) 16).length = 16 := LQ_
  refine S_ ?_
  refine c_draw 7 mixed (by kernel_rfl) rfl rfl rfl ?_
  refine h_val (v_loadR rfl rfl row_42 sz_42 EQ_ (by decide)) rfl ?_
  refine h_val (v_moveC rfl) rfl ?_
  refine h_val (v_moveC rfl) rfl ?_
  refine h_val (v_slS1 rfl Try.underlying24 sz_5 rfl rfl (by omega) (by omega)) rfl ?_
  refine h_val (v_arrP rfl Try.underlying42 (by omega) (by decide)) rfl ?_
  refine h_val (v_loadW8 rfl rfl row_42 sz_42 LE_ (by decide)) rfl ?_
  refine h_val (v_neqR8 rfl rfl Try.underlying42 Try.underlying5 sz_5 EQ_ EQ_) rfl ?_
  refine h_nil ?_
  refine s_nil ?_
  refine Q_ ?_
  refine c_condF rfl (by simp [hE]) ?_
  have hQ3 : (chXor key 1#32 nonce (cut box 0 (box.length - 16))).length = box.length - 16 := LQ_
  refine S_ ?_
  refine c_region ?_
  refine s_val (v_loadR rfl rfl row_22 sz_22 EQ_ (by decide)) rfl ?_
  refine s_val (v_loadR rfl rfl row_23 sz_23 EQ_ (by decide)) rfl ?_
  refine s_val (v_moveC rfl) rfl ?_
  refine s_evN (e_callR (bs := [1]) (chXor_ev key 1#32 nonce box 0 (box.length - 16) bcap HYP_ HYP_ HYP_ HYP_) ok_18 (by kernel_rfl) (by kernel_rfl) rfl VAL_) APP_ rfl ?_
  refine s_val (v_assignC rfl) rfl ?_
  refine s_val (v_assignC rfl) rfl ?_
  refine s_nil ?_
  refine S_ ?_
  rw [hP_adOpen0.out]
  exact k_2 (by first | exact r_tmpC rfl | exact r_tmpA rfl) (by first | exact r_tmpC rfl | exact r_tmpA rfl) (by first | kernel_rfl | rfl)

@[simp] theorem adOpen0_len (key : List (BitVec 8)) (nonce : List (BitVec 8)) (box : List (BitVec 8)) (hkey : key.length = 32) (hnonce : nonce.length = 12) : (adOpen0 key nonce box).length = box.length - 16 := by
  unfold adOpen0
  first | (simp [*]; done) | (simp [*]; omega)

attribute [irreducible] adOpen0


set_option maxRecDepth 100000 in
set_option maxHeartbeats 2000000 in
theorem adOpenE_ev (key : List (BitVec 8)) (nonce : List (BitVec 8)) (ad : List (BitVec 8)) (an : Nat) (acap : Nat) (box : List (BitVec 8)) (bn : Nat) (bcap : Nat) (hkey : key.length = 32) (hnonce : nonce.length = 12) (had : ad.length = an) (han : an ≤ 1099511627) (hbox : box.length = bn) (hbn : bn ≤ 1099511627) (hA : an ≤ 65536) (h16 : 16 ≤ bn) (hT : bn - 16 ≤ 65536) (hE : ¬ (adWork11 key nonce ad (cut box 0 (bn - 16)) = cut box (bn - 16) 16)) : Ev Try.prog (.call 13 [.agg (.a8 (key)), .agg (.a8 (nonce)), .c (.sl 0 0 an acap 1), .c (.sl 1 0 bn bcap 1)] [.row false (.a8 (ad)), .row false (.a8 (box))]) (.val (.tup [.c .nsl, .c (.val (.int .i64 ((3 : Nat) : Int)))]) [.row false (.a8 (ad)), .row false (.a8 (box))]) := by
  subst had
  subst hbox
  refine c_call Try.func13 rfl Try.ntmps13 rfl LEN_ ?_
  refine S_ ?_
  refine c_region ?_
  refine s_memN (m_box BX_ LEN_) APP_ rfl ?_
  refine s_memN (m_box BX_ LEN_) APP_ rfl ?_
  refine s_val (v_assignC rfl) rfl ?_
  refine s_val (v_assignC rfl) rfl ?_
  refine s_nil ?_
  refine S_ ?_
  refine c_region ?_
  refine s_val (v_moveC rfl) rfl ?_
  refine s_val (v_lenS rfl Try.underlying24) rfl ?_
  first
    | refine s_val (v_subN (b := 16) rfl rfl (by omega) (by omega)) rfl ?_
    | refine s_val (v_subI rfl rfl (by omega)) rfl ?_
  refine s_val (v_assignC rfl) rfl ?_
  refine s_nil ?_
  refine S_ ?_
  refine c_region ?_
  refine s_val (v_moveC rfl) rfl ?_
  refine s_val (v_lenS rfl Try.underlying24) rfl ?_
  refine s_val (v_gtrN (b := 65536) rfl rfl) rfl ?_
  refine s_val (v_moveC rfl) rfl ?_
  refine s_go GO_ ?_
  refine s_val (v_moveC rfl) rfl ?_
  refine s_go GO_ ?_
  refine s_val (v_lssN (b := 0) rfl rfl) rfl ?_
  refine s_val (v_pickF rfl PK_ rfl) rfl ?_
  refine s_val (v_moveC rfl) rfl ?_
  refine s_go GO_ ?_
  refine s_val (v_moveC rfl) rfl ?_
  refine s_go GO_ ?_
  refine s_val (v_gtrN (b := 65536) rfl rfl) rfl ?_
  refine s_val (v_pickF rfl PK_ rfl) rfl ?_
  refine s_nil ?_
  have hQ1 : (adWork11 key nonce ad (cut box 0 (box.length - 16))).length = 16 := LQ_
  refine S_ ?_
  refine c_draw 12 mixed (by kernel_rfl) rfl rfl rfl ?_
  refine h_val (v_loadR rfl rfl row_22 sz_22 EQ_ (by decide)) rfl ?_
  refine h_val (v_loadR rfl rfl row_23 sz_23 EQ_ (by decide)) rfl ?_
  refine h_val (v_moveC rfl) rfl ?_
  refine h_val (v_moveC rfl) rfl ?_
  refine h_val (v_moveC rfl) rfl ?_
  refine h_val (v_slS0 rfl Try.underlying24 sz_5 rfl (by omega)) rfl ?_
  refine h_evN (e_callR (bs := [0,1]) (adWork1_ev key nonce ad ad.length acap box 0 (box.length - 16) bcap HYP_ HYP_ HYP_ HYP_ HYP_ HYP_) ok_19 (by kernel_rfl) (by kernel_rfl) rfl VAL_) APP_ rfl ?_
  refine h_val (v_moveT rfl) rfl ?_
  refine h_val (v_extract rfl rfl) rfl ?_
  refine h_val (v_extract rfl rfl) rfl ?_
  refine h_memN (m_alloc al_42 LEN_) APP_ rfl ?_
  refine h_val (v_assignC rfl) rfl ?_
  refine h_nil ?_
  refine s_storeR rfl rfl rfl rfl sz_42 EQ_ EQ_ SET_ ?_
  refine s_nil ?_
  have hQ2 : (cut box (box.length - 16) 16).length = 16 := LQ_
  refine S_ ?_
  refine c_draw 7 mixed (by kernel_rfl) rfl rfl rfl ?_
  refine h_val (v_loadR rfl rfl row_42 sz_42 EQ_ (by decide)) rfl ?_
  refine h_val (v_moveC rfl) rfl ?_
  refine h_val (v_moveC rfl) rfl ?_
  refine h_val (v_slS1 rfl Try.underlying24 sz_5 rfl rfl (by omega) (by omega)) rfl ?_
  refine h_val (v_arrP rfl Try.underlying42 (by omega) (by decide)) rfl ?_
  refine h_val (v_loadW8 rfl rfl row_42 sz_42 LE_ (by decide)) rfl ?_
  refine h_val (v_neqR8 rfl rfl Try.underlying42 Try.underlying5 sz_5 EQ_ EQ_) rfl ?_
  refine h_nil ?_
  refine s_nil ?_
  refine Q_ ?_
  refine c_condT rfl (by simp [hE]) ?_
  refine S_ ?_
  refine c_region ?_
  refine s_val (v_assignC rfl) rfl ?_
  refine s_val (v_assignC rfl) rfl ?_
  refine s_nil ?_
  refine S_ ?_
  exact k_2 (by first | exact r_tmpC rfl | exact r_tmpA rfl) (by first | exact r_tmpC rfl | exact r_tmpA rfl) (by first | kernel_rfl | rfl)


set_option maxRecDepth 100000 in
set_option maxHeartbeats 2000000 in
theorem adOpenA_ev (key : List (BitVec 8)) (nonce : List (BitVec 8)) (ad : List (BitVec 8)) (an : Nat) (acap : Nat) (box : List (BitVec 8)) (bn : Nat) (bcap : Nat) (hkey : key.length = 32) (hnonce : nonce.length = 12) (had : ad.length = an) (han : an ≤ 1099511627) (hbox : box.length = bn) (hbn : bn ≤ 1099511627) (hA : 65536 < an) : Ev Try.prog (.call 13 [.agg (.a8 (key)), .agg (.a8 (nonce)), .c (.sl 0 0 an acap 1), .c (.sl 1 0 bn bcap 1)] [.row false (.a8 (ad)), .row false (.a8 (box))]) (.val (.tup [.c .nsl, .c (.val (.int .i64 ((2 : Nat) : Int)))]) [.row false (.a8 (ad)), .row false (.a8 (box))]) := by
  subst had
  subst hbox
  refine c_call Try.func13 rfl Try.ntmps13 rfl LEN_ ?_
  refine S_ ?_
  refine c_region ?_
  refine s_memN (m_box BX_ LEN_) APP_ rfl ?_
  refine s_memN (m_box BX_ LEN_) APP_ rfl ?_
  refine s_val (v_assignC rfl) rfl ?_
  refine s_val (v_assignC rfl) rfl ?_
  refine s_nil ?_
  refine S_ ?_
  refine c_region ?_
  refine s_val (v_moveC rfl) rfl ?_
  refine s_val (v_lenS rfl Try.underlying24) rfl ?_
  first
    | refine s_val (v_subN (b := 16) rfl rfl (by omega) (by omega)) rfl ?_
    | refine s_val (v_subI rfl rfl (by omega)) rfl ?_
  refine s_val (v_assignC rfl) rfl ?_
  refine s_nil ?_
  refine S_ ?_
  refine c_region ?_
  refine s_val (v_moveC rfl) rfl ?_
  refine s_val (v_lenS rfl Try.underlying24) rfl ?_
  refine s_val (v_gtrN (b := 65536) rfl rfl) rfl ?_
  refine s_val (v_moveC rfl) rfl ?_
  refine s_no GO_ rfl ?_
  refine s_no GO_ rfl ?_
  refine s_val (v_pickT rfl PK_ rfl) rfl ?_
  refine s_val (v_moveC rfl) rfl ?_
  refine s_no GO_ rfl ?_
  refine s_no GO_ rfl ?_
  refine s_val (v_pickT rfl PK_ rfl) rfl ?_
  refine s_nil ?_
  refine S_ ?_
  refine c_region ?_
  refine s_val (v_assignC rfl) rfl ?_
  refine s_val (v_assignC rfl) rfl ?_
  refine s_nil ?_
  refine S_ ?_
  exact k_2 (by first | exact r_tmpC rfl | exact r_tmpA rfl) (by first | exact r_tmpC rfl | exact r_tmpA rfl) (by first | kernel_rfl | rfl)


set_option maxRecDepth 100000 in
set_option maxHeartbeats 2000000 in
theorem adOpenT_ev (key : List (BitVec 8)) (nonce : List (BitVec 8)) (ad : List (BitVec 8)) (an : Nat) (acap : Nat) (box : List (BitVec 8)) (bn : Nat) (bcap : Nat) (hkey : key.length = 32) (hnonce : nonce.length = 12) (had : ad.length = an) (han : an ≤ 1099511627) (hbox : box.length = bn) (hbn : bn ≤ 1099511627) (hA : an ≤ 65536) (h16 : 16 ≤ bn) (hT : 65536 < bn - 16) : Ev Try.prog (.call 13 [.agg (.a8 (key)), .agg (.a8 (nonce)), .c (.sl 0 0 an acap 1), .c (.sl 1 0 bn bcap 1)] [.row false (.a8 (ad)), .row false (.a8 (box))]) (.val (.tup [.c .nsl, .c (.val (.int .i64 ((2 : Nat) : Int)))]) [.row false (.a8 (ad)), .row false (.a8 (box))]) := by
  subst had
  subst hbox
  refine c_call Try.func13 rfl Try.ntmps13 rfl LEN_ ?_
  refine S_ ?_
  refine c_region ?_
  refine s_memN (m_box BX_ LEN_) APP_ rfl ?_
  refine s_memN (m_box BX_ LEN_) APP_ rfl ?_
  refine s_val (v_assignC rfl) rfl ?_
  refine s_val (v_assignC rfl) rfl ?_
  refine s_nil ?_
  refine S_ ?_
  refine c_region ?_
  refine s_val (v_moveC rfl) rfl ?_
  refine s_val (v_lenS rfl Try.underlying24) rfl ?_
  first
    | refine s_val (v_subN (b := 16) rfl rfl (by omega) (by omega)) rfl ?_
    | refine s_val (v_subI rfl rfl (by omega)) rfl ?_
  refine s_val (v_assignC rfl) rfl ?_
  refine s_nil ?_
  refine S_ ?_
  refine c_region ?_
  refine s_val (v_moveC rfl) rfl ?_
  refine s_val (v_lenS rfl Try.underlying24) rfl ?_
  refine s_val (v_gtrN (b := 65536) rfl rfl) rfl ?_
  refine s_val (v_moveC rfl) rfl ?_
  refine s_go GO_ ?_
  refine s_val (v_moveC rfl) rfl ?_
  refine s_go GO_ ?_
  refine s_val (v_lssN (b := 0) rfl rfl) rfl ?_
  refine s_val (v_pickF rfl PK_ rfl) rfl ?_
  refine s_val (v_moveC rfl) rfl ?_
  refine s_go GO_ ?_
  refine s_val (v_moveC rfl) rfl ?_
  refine s_go GO_ ?_
  refine s_val (v_gtrN (b := 65536) rfl rfl) rfl ?_
  refine s_val (v_pickF rfl PK_ rfl) rfl ?_
  refine s_nil ?_
  refine S_ ?_
  refine c_region ?_
  refine s_val (v_assignC rfl) rfl ?_
  refine s_val (v_assignC rfl) rfl ?_
  refine s_nil ?_
  refine S_ ?_
  exact k_2 (by first | exact r_tmpC rfl | exact r_tmpA rfl) (by first | exact r_tmpC rfl | exact r_tmpA rfl) (by first | kernel_rfl | rfl)


set_option maxRecDepth 100000 in
set_option maxHeartbeats 2000000 in
theorem adOpenS_ev (key : List (BitVec 8)) (nonce : List (BitVec 8)) (ad : List (BitVec 8)) (an : Nat) (acap : Nat) (box : List (BitVec 8)) (bn : Nat) (bcap : Nat) (hkey : key.length = 32) (hnonce : nonce.length = 12) (had : ad.length = an) (han : an ≤ 1099511627) (hbox : box.length = bn) (hbn : bn ≤ 1099511627) (hA : an ≤ 65536) (h16 : bn < 16) : Ev Try.prog (.call 13 [.agg (.a8 (key)), .agg (.a8 (nonce)), .c (.sl 0 0 an acap 1), .c (.sl 1 0 bn bcap 1)] [.row false (.a8 (ad)), .row false (.a8 (box))]) (.val (.tup [.c .nsl, .c (.val (.int .i64 ((2 : Nat) : Int)))]) [.row false (.a8 (ad)), .row false (.a8 (box))]) := by
  subst had
  subst hbox
  refine c_call Try.func13 rfl Try.ntmps13 rfl LEN_ ?_
  refine S_ ?_
  refine c_region ?_
  refine s_memN (m_box BX_ LEN_) APP_ rfl ?_
  refine s_memN (m_box BX_ LEN_) APP_ rfl ?_
  refine s_val (v_assignC rfl) rfl ?_
  refine s_val (v_assignC rfl) rfl ?_
  refine s_nil ?_
  refine S_ ?_
  refine c_region ?_
  refine s_val (v_moveC rfl) rfl ?_
  refine s_val (v_lenS rfl Try.underlying24) rfl ?_
  first
    | refine s_val (v_subN (b := 16) rfl rfl (by omega) (by omega)) rfl ?_
    | refine s_val (v_subI rfl rfl (by omega)) rfl ?_
  refine s_val (v_assignC rfl) rfl ?_
  refine s_nil ?_
  refine S_ ?_
  refine c_region ?_
  refine s_val (v_moveC rfl) rfl ?_
  refine s_val (v_lenS rfl Try.underlying24) rfl ?_
  refine s_val (v_gtrN (b := 65536) rfl rfl) rfl ?_
  refine s_val (v_moveC rfl) rfl ?_
  refine s_go GO_ ?_
  refine s_val (v_moveC rfl) rfl ?_
  refine s_go GO_ ?_
  refine s_val (v_lssI rfl rfl) rfl ?_
  refine s_val (v_pickF rfl PK_ rfl) rfl ?_
  refine s_val (v_moveC rfl) rfl ?_
  refine s_no GO_ rfl ?_
  refine s_no GO_ rfl ?_
  refine s_val (v_pickT rfl PK_ rfl) rfl ?_
  refine s_nil ?_
  refine S_ ?_
  refine c_region ?_
  refine s_val (v_assignC rfl) rfl ?_
  refine s_val (v_assignC rfl) rfl ?_
  refine s_nil ?_
  refine S_ ?_
  exact k_2 (by first | exact r_tmpC rfl | exact r_tmpA rfl) (by first | exact r_tmpC rfl | exact r_tmpA rfl) (by first | kernel_rfl | rfl)
end Go.Proofs.Ytcjponmaeamjdaa
/- Lists of words, place by place. No program in sight. -/
namespace Go.Proofs.Ytcjponmaeamjdaa
open Go.RowKit
theorem nthZ8 (n j : Nat) : nth (zer8 n) j = 0#8 := by
  unfold nth zer8
  rw [List.getD_eq_getElem?_getD, List.getElem?_replicate]
  split <;> rfl
theorem nthCut {n : Nat} (l : List (BitVec n)) (o k i : Nat) (h : i < k) : nth (cut l o k) i = nth l (o + i) := by
  unfold nth; exact cut_get l o k i 0 h
theorem nthOut {n : Nat} (l : List (BitVec n)) (i : Nat) (h : l.length ≤ i) : nth l i = 0 := by
  unfold nth; rw [List.getD_eq_getElem?_getD, List.getElem?_eq_none h]; rfl
theorem nthApp {n : Nat} (a b : List (BitVec n)) (i : Nat) : nth (a ++ b) i = if i < a.length then nth a i else nth b (i - a.length) := by
  unfold nth; exact app_getD a b i 0
theorem extNth {n : Nat} {a b : List (BitVec n)} (hl : a.length = b.length) (h : ∀ i, i < a.length → nth a i = nth b i) : a = b := by
  refine List.ext_getElem hl fun i h1 h2 => ?_
  have := h i h1
  rwa [nth_eq a i h1, nth_eq b i h2] at this
end Go.Proofs.Ytcjponmaeamjdaa
/- trystref01.quarter (Drawn up by a program.) -/
namespace Go.Proofs.Ytcjponmaeamjdaa
open Go.RowKit
def rfQuar_R0 (x : List (BitVec 32)) (a : Nat) (b : Nat) : List (BitVec 32) := put x a ((nth x a) + (nth x b))
@[simp] theorem rfQuar_R0_len (x : List (BitVec 32)) (a : Nat) (b : Nat) : (rfQuar_R0 x a b).length = x.length := by simp [rfQuar_R0]
def rfQuar_R1 (a : Nat) (d : Nat) (X1 : List (BitVec 32)) : List (BitVec 32) := put X1 d (rotl32 ((nth X1 d) ^^^ (nth X1 a)) ((16 : Nat) : Int))
@[simp] theorem rfQuar_R1_len (a : Nat) (d : Nat) (X1 : List (BitVec 32)) : (rfQuar_R1 a d X1).length = X1.length := by simp [rfQuar_R1]
def rfQuar_R2 (c : Nat) (d : Nat) (X2 : List (BitVec 32)) : List (BitVec 32) := put X2 c ((nth X2 c) + (nth X2 d))
@[simp] theorem rfQuar_R2_len (c : Nat) (d : Nat) (X2 : List (BitVec 32)) : (rfQuar_R2 c d X2).length = X2.length := by simp [rfQuar_R2]
def rfQuar_R3 (b : Nat) (c : Nat) (X3 : List (BitVec 32)) : List (BitVec 32) := put X3 b (rotl32 ((nth X3 b) ^^^ (nth X3 c)) ((12 : Nat) : Int))
@[simp] theorem rfQuar_R3_len (b : Nat) (c : Nat) (X3 : List (BitVec 32)) : (rfQuar_R3 b c X3).length = X3.length := by simp [rfQuar_R3]
def rfQuar_R4 (a : Nat) (b : Nat) (X4 : List (BitVec 32)) : List (BitVec 32) := put X4 a ((nth X4 a) + (nth X4 b))
@[simp] theorem rfQuar_R4_len (a : Nat) (b : Nat) (X4 : List (BitVec 32)) : (rfQuar_R4 a b X4).length = X4.length := by simp [rfQuar_R4]
def rfQuar_R5 (a : Nat) (d : Nat) (X5 : List (BitVec 32)) : List (BitVec 32) := put X5 d (rotl32 ((nth X5 d) ^^^ (nth X5 a)) ((8 : Nat) : Int))
@[simp] theorem rfQuar_R5_len (a : Nat) (d : Nat) (X5 : List (BitVec 32)) : (rfQuar_R5 a d X5).length = X5.length := by simp [rfQuar_R5]
def rfQuar_R6 (c : Nat) (d : Nat) (X6 : List (BitVec 32)) : List (BitVec 32) := put X6 c ((nth X6 c) + (nth X6 d))
@[simp] theorem rfQuar_R6_len (c : Nat) (d : Nat) (X6 : List (BitVec 32)) : (rfQuar_R6 c d X6).length = X6.length := by simp [rfQuar_R6]
def rfQuar_R7 (b : Nat) (c : Nat) (X7 : List (BitVec 32)) : List (BitVec 32) := put X7 b (rotl32 ((nth X7 b) ^^^ (nth X7 c)) ((7 : Nat) : Int))
@[simp] theorem rfQuar_R7_len (b : Nat) (c : Nat) (X7 : List (BitVec 32)) : (rfQuar_R7 b c X7).length = X7.length := by simp [rfQuar_R7]
def rfQuar (x : List (BitVec 32)) (a : Nat) (b : Nat) (c : Nat) (d : Nat) : List (BitVec 32) := (rfQuar_R7 b c (rfQuar_R6 c d (rfQuar_R5 a d (rfQuar_R4 a b (rfQuar_R3 b c (rfQuar_R2 c d (rfQuar_R1 a d (rfQuar_R0 x a b))))))))
set_option maxRecDepth 100000 in
set_option maxHeartbeats 2000000 in
theorem rfQuar_ev (x : List (BitVec 32)) (a : Nat) (b : Nat) (c : Nat) (d : Nat) (hx : x.length = 16) (ha : a ≤ 1099511627776) (hb : b ≤ 1099511627776) (hc : c ≤ 1099511627776) (hd : d ≤ 1099511627776) (la : a < 16) (lb : b < 16) (lc : c < 16) (ld : d < 16) : Ev Try.prog (.call 39 [.c (.ptr 0 0), .c (.val (.int .i64 ((a : Nat) : Int))), .c (.val (.int .i64 ((b : Nat) : Int))), .c (.val (.int .i64 ((c : Nat) : Int))), .c (.val (.int .i64 ((d : Nat) : Int)))] [.row true (.a32 (x))]) (.val (.tup []) [.row true (.a32 (rfQuar x a b c d))]) := by
  have hP_rfQuar : Hid (rfQuar x a b c d = (rfQuar_R7 b c (rfQuar_R6 c d (rfQuar_R5 a d (rfQuar_R4 a b (rfQuar_R3 b c (rfQuar_R2 c d (rfQuar_R1 a d (rfQuar_R0 x a b))))))))) := ⟨rfl⟩
  refine c_call Try.func39 rfl Try.ntmps39 rfl LEN_ ?_
  refine S_ ?_
  refine c_draw 13 mixed (by kernel_rfl) rfl rfl rfl ?_
  refine h_val (v_moveC rfl) rfl ?_
  refine h_val (v_moveC rfl) rfl ?_
  refine h_val (v_nilP rfl) rfl ?_
  refine h_val (v_idxA1 rfl rfl Try.underlying50 sz_41 (by omega)) rfl ?_
  refine h_val (v_load32 rfl rfl row_41 LT_) rfl ?_
  refine h_val (v_moveC rfl) rfl ?_
  refine h_val (v_moveC rfl) rfl ?_
  refine h_val (v_nilP rfl) rfl ?_
  refine h_val (v_idxA1 rfl rfl Try.underlying50 sz_41 (by omega)) rfl ?_
  refine h_val (v_load32 rfl rfl row_41 LT_) rfl ?_
  refine h_val (v_add32 rfl rfl) rfl ?_
  refine h_val (v_nilP rfl) rfl ?_
  refine h_val (v_idxA1 rfl rfl Try.underlying50 sz_41 (by omega)) rfl ?_
  refine h_nil ?_
  refine s_store32 rfl rfl rfl sz_41 LT_ SET_ ?_
  refine s_nil ?_
  rw [show (put x a ((nth x a) + (nth x b))) = rfQuar_R0 x a b from rfl]
  have hX1 : (rfQuar_R0 x a b).length = 16 := LQ_
  generalize rfQuar_R0 x a b = X1 at *
  refine S_ ?_
  refine c_draw 16 mixed (by kernel_rfl) rfl rfl rfl ?_
  refine h_val (v_moveC rfl) rfl ?_
  refine h_val (v_moveC rfl) rfl ?_
  refine h_val (v_moveC rfl) rfl ?_
  refine h_val (v_moveC rfl) rfl ?_
  refine h_val (v_nilP rfl) rfl ?_
  refine h_val (v_idxA1 rfl rfl Try.underlying50 sz_41 (by omega)) rfl ?_
  refine h_val (v_load32 rfl rfl row_41 LT_) rfl ?_
  refine h_val (v_moveC rfl) rfl ?_
  refine h_val (v_moveC rfl) rfl ?_
  refine h_val (v_nilP rfl) rfl ?_
  refine h_val (v_idxA1 rfl rfl Try.underlying50 sz_41 (by omega)) rfl ?_
  refine h_val (v_load32 rfl rfl row_41 LT_) rfl ?_
  refine h_val (v_xor32 rfl rfl) rfl ?_
  refine h_evN (e_callR (bs := []) (rotl32_ev ((nth X1 d) ^^^ (nth X1 a)) ((16 : Nat) : Int)) ok_33 (by kernel_rfl) (by kernel_rfl) rfl VAL_) APP_ rfl ?_
  refine h_val (v_nilP rfl) rfl ?_
  refine h_val (v_idxA1 rfl rfl Try.underlying50 sz_41 (by omega)) rfl ?_
  refine h_nil ?_
  refine s_store32 rfl rfl rfl sz_41 LT_ SET_ ?_
  refine s_nil ?_
  rw [show (put X1 d (rotl32 ((nth X1 d) ^^^ (nth X1 a)) ((16 : Nat) : Int))) = rfQuar_R1 a d X1 from rfl]
  have hX2 : (rfQuar_R1 a d X1).length = 16 := LQ_
  generalize rfQuar_R1 a d X1 = X2 at *
  refine S_ ?_
  refine c_draw 13 mixed (by kernel_rfl) rfl rfl rfl ?_
  refine h_val (v_moveC rfl) rfl ?_
  refine h_val (v_moveC rfl) rfl ?_
  refine h_val (v_nilP rfl) rfl ?_
  refine h_val (v_idxA1 rfl rfl Try.underlying50 sz_41 (by omega)) rfl ?_
  refine h_val (v_load32 rfl rfl row_41 LT_) rfl ?_
  refine h_val (v_moveC rfl) rfl ?_
  refine h_val (v_moveC rfl) rfl ?_
  refine h_val (v_nilP rfl) rfl ?_
  refine h_val (v_idxA1 rfl rfl Try.underlying50 sz_41 (by omega)) rfl ?_
  refine h_val (v_load32 rfl rfl row_41 LT_) rfl ?_
  refine h_val (v_add32 rfl rfl) rfl ?_
  refine h_val (v_nilP rfl) rfl ?_
  refine h_val (v_idxA1 rfl rfl Try.underlying50 sz_41 (by omega)) rfl ?_
  refine h_nil ?_
  refine s_store32 rfl rfl rfl sz_41 LT_ SET_ ?_
  refine s_nil ?_
  rw [show (put X2 c ((nth X2 c) + (nth X2 d))) = rfQuar_R2 c d X2 from rfl]
  have hX3 : (rfQuar_R2 c d X2).length = 16 := LQ_
  generalize rfQuar_R2 c d X2 = X3 at *
  refine S_ ?_
  refine c_draw 16 mixed (by kernel_rfl) rfl rfl rfl ?_
  refine h_val (v_moveC rfl) rfl ?_
  refine h_val (v_moveC rfl) rfl ?_
  refine h_val (v_moveC rfl) rfl ?_
  refine h_val (v_moveC rfl) rfl ?_
  refine h_val (v_nilP rfl) rfl ?_
  refine h_val (v_idxA1 rfl rfl Try.underlying50 sz_41 (by omega)) rfl ?_
  refine h_val (v_load32 rfl rfl row_41 LT_) rfl ?_
  refine h_val (v_moveC rfl) rfl ?_
  refine h_val (v_moveC rfl) rfl ?_
  refine h_val (v_nilP rfl) rfl ?_
  refine h_val (v_idxA1 rfl rfl Try.underlying50 sz_41 (by omega)) rfl ?_
  refine h_val (v_load32 rfl rfl row_41 LT_) rfl ?_
  refine h_val (v_xor32 rfl rfl) rfl ?_
  refine h_evN (e_callR (bs := []) (rotl32_ev ((nth X3 b) ^^^ (nth X3 c)) ((12 : Nat) : Int)) ok_33 (by kernel_rfl) (by kernel_rfl) rfl VAL_) APP_ rfl ?_
  refine h_val (v_nilP rfl) rfl ?_
  refine h_val (v_idxA1 rfl rfl Try.underlying50 sz_41 (by omega)) rfl ?_
  refine h_nil ?_
  refine s_store32 rfl rfl rfl sz_41 LT_ SET_ ?_
  refine s_nil ?_
  rw [show (put X3 b (rotl32 ((nth X3 b) ^^^ (nth X3 c)) ((12 : Nat) : Int))) = rfQuar_R3 b c X3 from rfl]
  have hX4 : (rfQuar_R3 b c X3).length = 16 := LQ_
  generalize rfQuar_R3 b c X3 = X4 at *
  refine S_ ?_
  refine c_draw 13 mixed (by kernel_rfl) rfl rfl rfl ?_
  refine h_val (v_moveC rfl) rfl ?_
  refine h_val (v_moveC rfl) rfl ?_
  refine h_val (v_nilP rfl) rfl ?_
  refine h_val (v_idxA1 rfl rfl Try.underlying50 sz_41 (by omega)) rfl ?_
  refine h_val (v_load32 rfl rfl row_41 LT_) rfl ?_
  refine h_val (v_moveC rfl) rfl ?_
  refine h_val (v_moveC rfl) rfl ?_
  refine h_val (v_nilP rfl) rfl ?_
  refine h_val (v_idxA1 rfl rfl Try.underlying50 sz_41 (by omega)) rfl ?_
  refine h_val (v_load32 rfl rfl row_41 LT_) rfl ?_
  refine h_val (v_add32 rfl rfl) rfl ?_
  refine h_val (v_nilP rfl) rfl ?_
  refine h_val (v_idxA1 rfl rfl Try.underlying50 sz_41 (by omega)) rfl ?_
  refine h_nil ?_
  refine s_store32 rfl rfl rfl sz_41 LT_ SET_ ?_
  refine s_nil ?_
  rw [show (put X4 a ((nth X4 a) + (nth X4 b))) = rfQuar_R4 a b X4 from rfl]
  have hX5 : (rfQuar_R4 a b X4).length = 16 := LQ_
  generalize rfQuar_R4 a b X4 = X5 at *
  refine S_ ?_
  refine c_draw 16 mixed (by kernel_rfl) rfl rfl rfl ?_
  refine h_val (v_moveC rfl) rfl ?_
  refine h_val (v_moveC rfl) rfl ?_
  refine h_val (v_moveC rfl) rfl ?_
  refine h_val (v_moveC rfl) rfl ?_
  refine h_val (v_nilP rfl) rfl ?_
  refine h_val (v_idxA1 rfl rfl Try.underlying50 sz_41 (by omega)) rfl ?_
  refine h_val (v_load32 rfl rfl row_41 LT_) rfl ?_
  refine h_val (v_moveC rfl) rfl ?_
  refine h_val (v_moveC rfl) rfl ?_
  refine h_val (v_nilP rfl) rfl ?_
  refine h_val (v_idxA1 rfl rfl Try.underlying50 sz_41 (by omega)) rfl ?_
  refine h_val (v_load32 rfl rfl row_41 LT_) rfl ?_
  refine h_val (v_xor32 rfl rfl) rfl ?_
  refine h_evN (e_callR (bs := []) (rotl32_ev ((nth X5 d) ^^^ (nth X5 a)) ((8 : Nat) : Int)) ok_33 (by kernel_rfl) (by kernel_rfl) rfl VAL_) APP_ rfl ?_
  refine h_val (v_nilP rfl) rfl ?_
  refine h_val (v_idxA1 rfl rfl Try.underlying50 sz_41 (by omega)) rfl ?_
  refine h_nil ?_
  refine s_store32 rfl rfl rfl sz_41 LT_ SET_ ?_
  refine s_nil ?_
  rw [show (put X5 d (rotl32 ((nth X5 d) ^^^ (nth X5 a)) ((8 : Nat) : Int))) = rfQuar_R5 a d X5 from rfl]
  have hX6 : (rfQuar_R5 a d X5).length = 16 := LQ_
  generalize rfQuar_R5 a d X5 = X6 at *
  refine S_ ?_
  refine c_draw 13 mixed (by kernel_rfl) rfl rfl rfl ?_
  refine h_val (v_moveC rfl) rfl ?_
  refine h_val (v_moveC rfl) rfl ?_
  refine h_val (v_nilP rfl) rfl ?_
  refine h_val (v_idxA1 rfl rfl Try.underlying50 sz_41 (by omega)) rfl ?_
  refine h_val (v_load32 rfl rfl row_41 LT_) rfl ?_
  refine h_val (v_moveC rfl) rfl ?_
  refine h_val (v_moveC rfl) rfl ?_
  refine h_val (v_nilP rfl) rfl ?_
  refine h_val (v_idxA1 rfl rfl Try.underlying50 sz_41 (by omega)) rfl ?_
  refine h_val (v_load32 rfl rfl row_41 LT_) rfl ?_
  refine h_val (v_add32 rfl rfl) rfl ?_
  refine h_val (v_nilP rfl) rfl ?_
  refine h_val (v_idxA1 rfl rfl Try.underlying50 sz_41 (by omega)) rfl ?_
  refine h_nil ?_
  refine s_store32 rfl rfl rfl sz_41 LT_ SET_ ?_
  refine s_nil ?_
  rw [show (put X6 c ((nth X6 c) + (nth X6 d))) = rfQuar_R6 c d X6 from rfl]
  have hX7 : (rfQuar_R6 c d X6).length = 16 := LQ_
  generalize rfQuar_R6 c d X6 = X7 at *
  refine S_ ?_
  refine c_draw 16 mixed (by kernel_rfl) rfl rfl rfl ?_
  refine h_val (v_moveC rfl) rfl ?_
  refine h_val (v_moveC rfl) rfl ?_
  refine h_val (v_moveC rfl) rfl ?_
  refine h_val (v_moveC rfl) rfl ?_
  refine h_val (v_nilP rfl) rfl ?_
  refine h_val (v_idxA1 rfl rfl Try.underlying50 sz_41 (by omega)) rfl ?_
  refine h_val (v_load32 rfl rfl row_41 LT_) rfl ?_
  refine h_val (v_moveC rfl) rfl ?_
  refine h_val (v_moveC rfl) rfl ?_
  refine h_val (v_nilP rfl) rfl ?_
  refine h_val (v_idxA1 rfl rfl Try.underlying50 sz_41 (by omega)) rfl ?_
  refine h_val (v_load32 rfl rfl row_41 LT_) rfl ?_
  refine h_val (v_xor32 rfl rfl) rfl ?_
  refine h_evN (e_callR (bs := []) (rotl32_ev ((nth X7 b) ^^^ (nth X7 c)) ((7 : Nat) : Int)) ok_33 (by kernel_rfl) (by kernel_rfl) rfl VAL_) APP_ rfl ?_
  refine h_val (v_nilP rfl) rfl ?_
  refine h_val (v_idxA1 rfl rfl Try.underlying50 sz_41 (by omega)) rfl ?_
  refine h_nil ?_
  refine s_store32 rfl rfl rfl sz_41 LT_ SET_ ?_
  refine s_nil ?_
  rw [show (put X7 b (rotl32 ((nth X7 b) ^^^ (nth X7 c)) ((7 : Nat) : Int))) = rfQuar_R7 b c X7 from rfl]
  have hX8 : (rfQuar_R7 b c X7).length = 16 := LQ_
  generalize rfQuar_R7 b c X7 = X8 at *
  refine S_ ?_
  rw [hP_rfQuar.out]
  exact k_0e (by first | exact .inl rfl | exact .inr rfl) (by first | kernel_rfl | rfl)

@[simp] theorem rfQuar_len (x : List (BitVec 32)) (a : Nat) (b : Nat) (c : Nat) (d : Nat) : (rfQuar x a b c d).length = x.length := by
  unfold rfQuar
  first | (simp [rfQuar_R0_len, rfQuar_R1_len, rfQuar_R2_len, rfQuar_R3_len, rfQuar_R4_len, rfQuar_R5_len, rfQuar_R6_len, rfQuar_R7_len, *]; done) | (simp [rfQuar_R0_len, rfQuar_R1_len, rfQuar_R2_len, rfQuar_R3_len, rfQuar_R4_len, rfQuar_R5_len, rfQuar_R6_len, rfQuar_R7_len, *]; omega)

attribute [irreducible] rfQuar
end Go.Proofs.Ytcjponmaeamjdaa
/- trystref01.le32, trystref01.Block (Drawn up by a program.) -/
namespace Go.Proofs.Ytcjponmaeamjdaa
open Go.RowKit
def rfLe32 (b : List (BitVec 8)) (o : Nat) : BitVec 32 := ((((nth b o).setWidth 32) ||| (((nth b (o + 1)).setWidth 32) <<< 8)) ||| (((nth b (o + 2)).setWidth 32) <<< 16)) ||| (((nth b (o + 3)).setWidth 32) <<< 24)
set_option maxRecDepth 100000 in
set_option maxHeartbeats 2000000 in
theorem rfLe32_ev (b : List (BitVec 8)) (o : Nat) (n : Nat) (cap : Nat) (hb : o + n ≤ b.length) (hn : n ≤ 1099511627776) (h4 : 4 ≤ n) : Ev Try.prog (.call 38 [.c (.sl 0 o n cap 1)] [.row false (.a8 (b))]) (.val (.c (.val (U32 (rfLe32 b o)))) [.row false (.a8 (b))]) := by
  have hP : Hid (rfLe32 b o = ((((nth b o).setWidth 32) ||| (((nth b (o + 1)).setWidth 32) <<< 8)) ||| (((nth b (o + 2)).setWidth 32) <<< 16)) ||| (((nth b (o + 3)).setWidth 32) <<< 24)) := ⟨rfl⟩
  refine c_call Try.func38 rfl Try.ntmps38 rfl LEN_ ?_
  refine S_ ?_
  refine c_region ?_
  refine s_val (v_assignC rfl) rfl ?_
  refine s_nil ?_
  refine S_ ?_
  refine c_draw 23 mixed (by kernel_rfl) rfl rfl rfl ?_
  refine h_val (v_moveC rfl) rfl ?_
  refine h_val (v_idxSo (j := 0) rfl rfl Try.underlying24 sz_5 (by omega)) rfl ?_
  refine h_val (v_load8 rfl rfl row_5 LT_) rfl ?_
  refine h_val (v_conv rfl Try.underlying5 Try.underlying41 (w8_32 _)) rfl ?_
  refine h_val (v_moveC rfl) rfl ?_
  refine h_val (v_idxSo (j := 1) rfl rfl Try.underlying24 sz_5 (by omega)) rfl ?_
  refine h_val (v_load8 rfl rfl row_5 LT_) rfl ?_
  refine h_val (v_conv rfl Try.underlying5 Try.underlying41 (w8_32 _)) rfl ?_
  refine h_val (v_shl32n (j := 8) rfl rfl) rfl ?_
  refine h_val (v_or32 rfl rfl) rfl ?_
  refine h_val (v_moveC rfl) rfl ?_
  refine h_val (v_idxSo (j := 2) rfl rfl Try.underlying24 sz_5 (by omega)) rfl ?_
  refine h_val (v_load8 rfl rfl row_5 LT_) rfl ?_
  refine h_val (v_conv rfl Try.underlying5 Try.underlying41 (w8_32 _)) rfl ?_
  refine h_val (v_shl32n (j := 16) rfl rfl) rfl ?_
  refine h_val (v_or32 rfl rfl) rfl ?_
  refine h_val (v_moveC rfl) rfl ?_
  refine h_val (v_idxSo (j := 3) rfl rfl Try.underlying24 sz_5 (by omega)) rfl ?_
  refine h_val (v_load8 rfl rfl row_5 LT_) rfl ?_
  refine h_val (v_conv rfl Try.underlying5 Try.underlying41 (w8_32 _)) rfl ?_
  refine h_val (v_shl32n (j := 24) rfl rfl) rfl ?_
  refine h_val (v_or32 rfl rfl) rfl ?_
  refine h_val (v_assignC rfl) rfl ?_
  refine h_nil ?_
  refine s_nil ?_
  refine S_ ?_
  rw [hP.out]
  exact k_1 (by first | exact r_tmpC rfl | exact r_tmpA rfl) (by first | kernel_rfl | rfl)

attribute [irreducible] rfLe32

def rfBlock_L3_S (key : List (BitVec 8)) (X1 : List (BitVec 32)) (j3 : Nat) : List (BitVec 32) := put X1 (4 + j3) (rfLe32 key (4 * j3))
def rfBlock_L3 (key : List (BitVec 8)) : Nat → List (BitVec 32)
  | 0 => put (put (put (put (zer32 16) 0 1634760805#32) 1 857760878#32) 2 2036477234#32) 3 1797285236#32
  | j3 + 1 => rfBlock_L3_S key (rfBlock_L3 key j3) j3
@[simp] theorem rfBlock_L3_len (key : List (BitVec 8)) (j3 : Nat) : (rfBlock_L3 key j3).length = 16 := by
  induction j3 with
  | zero => first | (simp [rfBlock_L3, *]; done) | (simp [rfBlock_L3, *]; omega)
  | succ j3 ih => rw [rfBlock_L3.eq_2, rfBlock_L3_S]; first | (simp [ih]; done) | (simp [ih]; omega) | (simp [*]; done) | (simp [*]; omega) | (split <;> first | (simp [ih]; done) | (simp [ih]; omega) | (simp [*]; done))
def rfBlock_L8_S (nonce : List (BitVec 8)) (X3 : List (BitVec 32)) (j8 : Nat) : List (BitVec 32) := put X3 (13 + j8) (rfLe32 nonce (4 * j8))
def rfBlock_L8 (counter : BitVec 32) (nonce : List (BitVec 8)) (Y2 : List (BitVec 32)) : Nat → List (BitVec 32)
  | 0 => put Y2 12 counter
  | j8 + 1 => rfBlock_L8_S nonce (rfBlock_L8 counter nonce Y2 j8) j8
theorem rfBlock_L8_len (counter : BitVec 32) (nonce : List (BitVec 8)) (Y2 : List (BitVec 32)) (hY2 : Y2.length = 16) (j8 : Nat) : (rfBlock_L8 counter nonce Y2 j8).length = 16 := by
  induction j8 with
  | zero => first | (simp [rfBlock_L8, *]; done) | (simp [rfBlock_L8, *]; omega)
  | succ j8 ih => rw [rfBlock_L8.eq_2, rfBlock_L8_S]; first | (simp [ih]; done) | (simp [ih]; omega) | (simp [rfBlock_L3_len, *]; done) | (simp [rfBlock_L3_len, *]; omega) | (split <;> first | (simp [ih]; done) | (simp [ih]; omega) | (simp [rfBlock_L3_len, *]; done))
def rfBlock_L16_S (X6 : List (BitVec 32)) (j16 : Nat) : List (BitVec 32) := rfQuar X6 j16 (4 + j16) (8 + j16) (12 + j16)
def rfBlock_L16 (X5 : List (BitVec 32)) : Nat → List (BitVec 32)
  | 0 => X5
  | j16 + 1 => rfBlock_L16_S (rfBlock_L16 X5 j16) j16
theorem rfBlock_L16_len (X5 : List (BitVec 32)) (hX5 : X5.length = 16) (j16 : Nat) : (rfBlock_L16 X5 j16).length = 16 := by
  induction j16 with
  | zero => first | (simp [rfBlock_L16, *]; done) | (simp [rfBlock_L16, *]; omega)
  | succ j16 ih => rw [rfBlock_L16.eq_2, rfBlock_L16_S]; first | (simp [ih]; done) | (simp [ih]; omega) | (simp [rfBlock_L3_len, rfBlock_L8_len, *]; done) | (simp [rfBlock_L3_len, rfBlock_L8_len, *]; omega) | (split <;> first | (simp [ih]; done) | (simp [ih]; omega) | (simp [rfBlock_L3_len, rfBlock_L8_len, *]; done))
def rfBlock_L20_S (X8 : List (BitVec 32)) (j20 : Nat) : List (BitVec 32) := rfQuar X8 j20 (4 + ((j20 + 1) % 4)) (8 + ((j20 + 2) % 4)) (12 + ((j20 + 3) % 4))
def rfBlock_L20 (Y7 : List (BitVec 32)) : Nat → List (BitVec 32)
  | 0 => Y7
  | j20 + 1 => rfBlock_L20_S (rfBlock_L20 Y7 j20) j20
theorem rfBlock_L20_len (Y7 : List (BitVec 32)) (hY7 : Y7.length = 16) (j20 : Nat) : (rfBlock_L20 Y7 j20).length = 16 := by
  induction j20 with
  | zero => first | (simp [rfBlock_L20, *]; done) | (simp [rfBlock_L20, *]; omega)
  | succ j20 ih => rw [rfBlock_L20.eq_2, rfBlock_L20_S]; first | (simp [ih]; done) | (simp [ih]; omega) | (simp [rfBlock_L3_len, rfBlock_L8_len, rfBlock_L16_len, *]; done) | (simp [rfBlock_L3_len, rfBlock_L8_len, rfBlock_L16_len, *]; omega) | (split <;> first | (simp [ih]; done) | (simp [ih]; omega) | (simp [rfBlock_L3_len, rfBlock_L8_len, rfBlock_L16_len, *]; done))
def rfBlock_L13_S (X5 : List (BitVec 32)) : List (BitVec 32) := (rfBlock_L20 (rfBlock_L16 X5 4) 4)
def rfBlock_L13 (Y4 : List (BitVec 32)) : Nat → List (BitVec 32)
  | 0 => Y4
  | j13 + 1 => rfBlock_L13_S (rfBlock_L13 Y4 j13)
theorem rfBlock_L13_len (Y4 : List (BitVec 32)) (hY4 : Y4.length = 16) (j13 : Nat) : (rfBlock_L13 Y4 j13).length = 16 := by
  induction j13 with
  | zero => first | (simp [rfBlock_L13, *]; done) | (simp [rfBlock_L13, *]; omega)
  | succ j13 ih => rw [rfBlock_L13.eq_2, rfBlock_L13_S]; first | (simp [ih]; done) | (simp [ih]; omega) | (simp [rfBlock_L3_len, rfBlock_L8_len, rfBlock_L16_len, rfBlock_L20_len, *]; done) | (simp [rfBlock_L3_len, rfBlock_L8_len, rfBlock_L16_len, rfBlock_L20_len, *]; omega) | (split <;> first | (simp [ih]; done) | (simp [ih]; omega) | (simp [rfBlock_L3_len, rfBlock_L8_len, rfBlock_L16_len, rfBlock_L20_len, *]; done))
def rfBlock_L25_S (Y4 : List (BitVec 32)) (Y12 : List (BitVec 32)) (X13 : List (BitVec 8)) (j25 : Nat) : List (BitVec 8) := put X13 j25 ((((nth Y12 (j25 / 4)) + (nth Y4 (j25 / 4))) >>> (BitVec.ofNat 64 (8 * (j25 % 4))).toNat).setWidth 8)
def rfBlock_L25 (Y4 : List (BitVec 32)) (Y12 : List (BitVec 32)) : Nat → List (BitVec 8)
  | 0 => zer8 64
  | j25 + 1 => rfBlock_L25_S Y4 Y12 (rfBlock_L25 Y4 Y12 j25) j25
@[simp] theorem rfBlock_L25_len (Y4 : List (BitVec 32)) (Y12 : List (BitVec 32)) (j25 : Nat) : (rfBlock_L25 Y4 Y12 j25).length = 64 := by
  induction j25 with
  | zero => first | (simp [rfBlock_L25, *]; done) | (simp [rfBlock_L25, *]; omega)
  | succ j25 ih => rw [rfBlock_L25.eq_2, rfBlock_L25_S]; first | (simp [ih]; done) | (simp [ih]; omega) | (simp [rfBlock_L3_len, rfBlock_L8_len, rfBlock_L16_len, rfBlock_L20_len, rfBlock_L13_len, *]; done) | (simp [rfBlock_L3_len, rfBlock_L8_len, rfBlock_L16_len, rfBlock_L20_len, rfBlock_L13_len, *]; omega) | (split <;> first | (simp [ih]; done) | (simp [ih]; omega) | (simp [rfBlock_L3_len, rfBlock_L8_len, rfBlock_L16_len, rfBlock_L20_len, rfBlock_L13_len, *]; done))
def rfBlock (key : List (BitVec 8)) (counter : BitVec 32) (nonce : List (BitVec 8)) : List (BitVec 8) := (rfBlock_L25 (rfBlock_L8 counter nonce (rfBlock_L3 key 8) 3) (rfBlock_L13 (rfBlock_L8 counter nonce (rfBlock_L3 key 8) 3) 10) 64)
set_option maxRecDepth 100000 in
set_option maxHeartbeats 2000000 in
theorem rfBlock_ev (key : List (BitVec 8)) (counter : BitVec 32) (nonce : List (BitVec 8)) (hkey : key.length = 32) (hnonce : nonce.length = 12) : Ev Try.prog (.call 29 [.agg (.a8 (key)), .c (.val (U32 counter)), .agg (.a8 (nonce))] []) (.val (.agg (.a8 (rfBlock key counter nonce))) []) := by
  have hP : Hid (rfBlock key counter nonce = (rfBlock_L25 (rfBlock_L8 counter nonce (rfBlock_L3 key 8) 3) (rfBlock_L13 (rfBlock_L8 counter nonce (rfBlock_L3 key 8) 3) 10) 64)) := ⟨rfl⟩
  refine c_call Try.func29 rfl Try.ntmps29 rfl LEN_ ?_
  refine S_ ?_
  refine c_region ?_
  refine s_memN (m_box BX_ LEN_) APP_ rfl ?_
  refine s_memN (m_box BX_ LEN_) APP_ rfl ?_
  refine s_memN (m_alloc al_39 LEN_) APP_ rfl ?_
  refine s_nil ?_
  refine S_ ?_
  refine c_region ?_
  refine s_val (v_blf32 (l := (put (put (put (put (zer32 16) 0 (1634760805#32)) 1 (857760878#32)) 2 (2036477234#32)) 3 (1797285236#32))) za_50 Try.underlying50 sz_41 rfl rfl) rfl ?_
  refine s_memN (m_alloc al_50 LEN_) APP_ rfl ?_
  refine s_storeR rfl rfl rfl rfl sz_50 EQ_ EQ_ SET_ ?_
  refine s_nil ?_
  refine S_ ?_
  refine c_region ?_
  refine s_val (v_assignC rfl) rfl ?_
  refine s_nil ?_
  refine S_ ?_
  refine c_loopC [1, 3, 5, 6, 7, 8] (fun (zz : Nat × List (BitVec 32)) => ⟨98, keepT [1, 3, 5, 6, 7, 8] [.c (.val (U32 (counter))), .c (.ptr 0 0), .c (.ptr 1 0), .c (.ptr 2 0), .c (.ptr 3 0), .c (.val (.int .i64 (((zz.1 : Nat) : Int))))], [.row true (.a8 (key)), .row true (.a8 (nonce)), .row true (.a8 (zer8 64)), .row true (.a32 (zz.2))]⟩) (fun j3 => (j3, rfBlock_L3 key j3)) (8) (by kernel_rfl) ?_ ?_
  · intro j3 hj3
    try dsimp only
    have hX1 : (rfBlock_L3 key j3).length = 16 := by rw [rfBlock_L3_len key _]; try omega
    rw [rfBlock_L3.eq_2, rfBlock_L3_S]
    generalize rfBlock_L3 key j3 = X1 at *
    refine S_ ?_
    refine c_region ?_
    refine s_val (v_moveC rfl) rfl ?_
    refine s_val (v_lssN (b := 8) rfl rfl) rfl ?_
    refine s_nil ?_
    refine S_ ?_
    refine c_region ?_
    refine s_val (v_moveC rfl) rfl ?_
    refine s_val (v_addN (a := 4) rfl rfl (by omega)) rfl ?_
    refine s_val (v_moveC rfl) rfl ?_
    refine s_val (v_mulN (a := 4) rfl rfl (by omega)) rfl ?_
    refine s_val (v_slA1 (h := 32) rfl Try.underlying22 sz_5 rfl rfl rfl (by omega) (by omega) FIT_ rfl rfl) rfl ?_
    refine s_evN (e_callR (bs := [0]) (rfLe32_ev key (4 * j3) (32 - (4 * j3)) (32 - (4 * j3)) HYP_ HYP_ HYP_) ok_38 (by kernel_rfl) (by kernel_rfl) rfl VAL_) APP_ rfl ?_
    refine s_val (v_idxA1 rfl rfl Try.underlying50 sz_41 (by omega)) rfl ?_
    refine s_store32 rfl rfl rfl sz_41 LT_ SET_ ?_
    refine s_nil ?_
    refine S_ ?_
    refine c_region ?_
    refine s_val (v_moveC rfl) rfl ?_
    refine s_val (v_addN (b := 1) rfl rfl (by omega)) rfl ?_
    refine s_val (v_assignC rfl) rfl ?_
    refine s_nil ?_
    exact ⟨(j3 + 1, _), by kernel_rfl, rfl⟩
  · try dsimp only
    have hY2 : (rfBlock_L3 key 8).length = 16 := by rw [rfBlock_L3_len key _]; try omega
    generalize rfBlock_L3 key 8 = Y2 at *
    refine S_ ?_
    refine c_region ?_
    refine s_val (v_moveC rfl) rfl ?_
    refine s_val (v_lssN (a := 8) (b := 8) rfl rfl) rfl ?_
    refine s_nil ?_
    refine S_ ?_
    refine c_region ?_
    refine s_val (v_moveC rfl) rfl ?_
    refine s_val (v_idxA1 (j := 12) rfl rfl Try.underlying50 sz_41 (by omega)) rfl ?_
    refine s_store32 rfl rfl rfl sz_41 LT_ SET_ ?_
    refine s_nil ?_
    refine S_ ?_
    refine c_region ?_
    refine s_val (v_assignC rfl) rfl ?_
    refine s_nil ?_
    refine S_ ?_
    refine c_loopC [5, 6, 7, 9] (fun (zz : Nat × List (BitVec 32)) => ⟨98, keepT [5, 6, 7, 9] [.c (.ptr 0 0), .c (.ptr 1 0), .c (.ptr 2 0), .c (.val (.int .i64 (((zz.1 : Nat) : Int))))], [.row true (.a8 (nonce)), .row true (.a8 (zer8 64)), .row true (.a32 (zz.2))]⟩) (fun j8 => (j8, rfBlock_L8 counter nonce Y2 j8)) (3) (by kernel_rfl) ?_ ?_
    · intro j8 hj8
      try dsimp only
      have hX3 : (rfBlock_L8 counter nonce Y2 j8).length = 16 := by rw [rfBlock_L8_len counter nonce Y2 hY2 _]; try omega
      rw [rfBlock_L8.eq_2, rfBlock_L8_S]
      generalize rfBlock_L8 counter nonce Y2 j8 = X3 at *
      refine S_ ?_
      refine c_region ?_
      refine s_val (v_moveC rfl) rfl ?_
      refine s_val (v_lssN (b := 3) rfl rfl) rfl ?_
      refine s_nil ?_
      refine S_ ?_
      refine c_region ?_
      refine s_val (v_moveC rfl) rfl ?_
      refine s_val (v_addN (a := 13) rfl rfl (by omega)) rfl ?_
      refine s_val (v_moveC rfl) rfl ?_
      refine s_val (v_mulN (a := 4) rfl rfl (by omega)) rfl ?_
      refine s_val (v_slA1 (h := 12) rfl Try.underlying23 sz_5 rfl rfl rfl (by omega) (by omega) FIT_ rfl rfl) rfl ?_
      refine s_evN (e_callR (bs := [0]) (rfLe32_ev nonce (4 * j8) (12 - (4 * j8)) (12 - (4 * j8)) HYP_ HYP_ HYP_) ok_38 (by kernel_rfl) (by kernel_rfl) rfl VAL_) APP_ rfl ?_
      refine s_val (v_idxA1 rfl rfl Try.underlying50 sz_41 (by omega)) rfl ?_
      refine s_store32 rfl rfl rfl sz_41 LT_ SET_ ?_
      refine s_nil ?_
      refine S_ ?_
      refine c_region ?_
      refine s_val (v_moveC rfl) rfl ?_
      refine s_val (v_addN (b := 1) rfl rfl (by omega)) rfl ?_
      refine s_val (v_assignC rfl) rfl ?_
      refine s_nil ?_
      exact ⟨(j8 + 1, _), by kernel_rfl, rfl⟩
    · try dsimp only
      have hY4 : (rfBlock_L8 counter nonce Y2 3).length = 16 := by rw [rfBlock_L8_len counter nonce Y2 hY2 _]; try omega
      generalize rfBlock_L8 counter nonce Y2 3 = Y4 at *
      refine S_ ?_
      refine c_region ?_
      refine s_val (v_moveC rfl) rfl ?_
      refine s_val (v_lssN (a := 3) (b := 3) rfl rfl) rfl ?_
      refine s_nil ?_
      refine S_ ?_
      refine c_region ?_
      refine s_val (v_loadR rfl rfl row_50 sz_50 EQ_ (by decide)) rfl ?_
      refine s_memN (m_alloc al_50 LEN_) APP_ rfl ?_
      refine s_storeR rfl rfl rfl rfl sz_50 EQ_ EQ_ SET_ ?_
      refine s_nil ?_
      refine S_ ?_
      refine c_region ?_
      refine s_val (v_assignC rfl) rfl ?_
      refine s_nil ?_
      refine S_ ?_
      refine c_loopC [6, 7, 10, 11] (fun (zz : Nat × List (BitVec 32)) => ⟨98, keepT [6, 7, 10, 11] [.c (.ptr 0 0), .c (.ptr 1 0), .c (.ptr 2 0), .c (.val (.int .i64 (((zz.1 : Nat) : Int))))], [.row true (.a8 (zer8 64)), .row true (.a32 (Y4)), .row true (.a32 (zz.2))]⟩) (fun j13 => (j13, rfBlock_L13 Y4 j13)) (10) (by kernel_rfl) ?_ ?_
      · intro j13 hj13
        try dsimp only
        have hX5 : (rfBlock_L13 Y4 j13).length = 16 := by rw [rfBlock_L13_len Y4 hY4 _]; try omega
        rw [rfBlock_L13.eq_2, rfBlock_L13_S]
        generalize rfBlock_L13 Y4 j13 = X5 at *
        refine S_ ?_
        refine c_region ?_
        refine s_val (v_moveC rfl) rfl ?_
        refine s_val (v_lssN (b := 10) rfl rfl) rfl ?_
        refine s_nil ?_
        refine S_ ?_
        refine c_region ?_
        refine s_val (v_assignC rfl) rfl ?_
        refine s_nil ?_
        refine S_ ?_
        refine c_loopC [6, 7, 10, 11, 12] (fun (zz : Nat × List (BitVec 32)) => ⟨98, keepT [6, 7, 10, 11, 12] [.c (.ptr 0 0), .c (.ptr 1 0), .c (.ptr 2 0), .c (.val (.int .i64 (((j13 : Nat) : Int)))), .c (.val (.int .i64 (((zz.1 : Nat) : Int))))], [.row true (.a8 (zer8 64)), .row true (.a32 (Y4)), .row true (.a32 (zz.2))]⟩) (fun j16 => (j16, rfBlock_L16 X5 j16)) (4) (by kernel_rfl) ?_ ?_
        · intro j16 hj16
          try dsimp only
          have hX6 : (rfBlock_L16 X5 j16).length = 16 := by rw [rfBlock_L16_len X5 hX5 _]; try omega
          rw [rfBlock_L16.eq_2, rfBlock_L16_S]
          generalize rfBlock_L16 X5 j16 = X6 at *
          refine S_ ?_
          refine c_region ?_
          refine s_val (v_moveC rfl) rfl ?_
          refine s_val (v_lssN (b := 4) rfl rfl) rfl ?_
          refine s_nil ?_
          have hQ7 : (rfQuar X6 j16 (4 + j16) (8 + j16) (12 + j16)).length = 16 := LQ_
          refine S_ ?_
          refine c_region ?_
          refine s_val (v_moveC rfl) rfl ?_
          refine s_val (v_moveC rfl) rfl ?_
          refine s_val (v_addN (a := 4) rfl rfl (by omega)) rfl ?_
          refine s_val (v_moveC rfl) rfl ?_
          refine s_val (v_addN (a := 8) rfl rfl (by omega)) rfl ?_
          refine s_val (v_moveC rfl) rfl ?_
          refine s_val (v_addN (a := 12) rfl rfl (by omega)) rfl ?_
          refine s_ev (e_callK (bs := [2]) (rfQuar_ev X6 j16 (4 + j16) (8 + j16) (12 + j16) HYP_ HYP_ HYP_ HYP_ HYP_ HYP_ HYP_ HYP_ HYP_) ok_39 (by kernel_rfl) rfl rfl VAL_ APP_) rfl ?_
          refine s_nil ?_
          refine S_ ?_
          refine c_region ?_
          refine s_val (v_moveC rfl) rfl ?_
          refine s_val (v_addN (b := 1) rfl rfl (by omega)) rfl ?_
          refine s_val (v_assignC rfl) rfl ?_
          refine s_nil ?_
          exact ⟨(j16 + 1, _), by kernel_rfl, rfl⟩
        · try dsimp only
          have hY8 : (rfBlock_L16 X5 4).length = 16 := by rw [rfBlock_L16_len X5 hX5 _]; try omega
          generalize rfBlock_L16 X5 4 = Y8 at *
          refine S_ ?_
          refine c_region ?_
          refine s_val (v_moveC rfl) rfl ?_
          refine s_val (v_lssN (a := 4) (b := 4) rfl rfl) rfl ?_
          refine s_nil ?_
          refine S_ ?_
          refine c_region ?_
          refine s_val (v_assignC rfl) rfl ?_
          refine s_nil ?_
          refine S_ ?_
          refine c_loopC [6, 7, 10, 11, 13] (fun (zz : Nat × List (BitVec 32)) => ⟨98, keepT [6, 7, 10, 11, 13] [.c (.ptr 0 0), .c (.ptr 1 0), .c (.ptr 2 0), .c (.val (.int .i64 (((j13 : Nat) : Int)))), .c (.val (.int .i64 (((zz.1 : Nat) : Int))))], [.row true (.a8 (zer8 64)), .row true (.a32 (Y4)), .row true (.a32 (zz.2))]⟩) (fun j20 => (j20, rfBlock_L20 Y8 j20)) (4) (by kernel_rfl) ?_ ?_
          · intro j20 hj20
            try dsimp only
            have hX9 : (rfBlock_L20 Y8 j20).length = 16 := by rw [rfBlock_L20_len Y8 hY8 _]; try omega
            rw [rfBlock_L20.eq_2, rfBlock_L20_S]
            generalize rfBlock_L20 Y8 j20 = X9 at *
            refine S_ ?_
            refine c_region ?_
            refine s_val (v_moveC rfl) rfl ?_
            refine s_val (v_lssN (b := 4) rfl rfl) rfl ?_
            refine s_nil ?_
            have hQ10 : (rfQuar X9 j20 (4 + ((j20 + 1) % 4)) (8 + ((j20 + 2) % 4)) (12 + ((j20 + 3) % 4))).length = 16 := LQ_
            refine S_ ?_
            refine c_region ?_
            refine s_val (v_moveC rfl) rfl ?_
            refine s_val (v_moveC rfl) rfl ?_
            refine s_val (v_addN (b := 1) rfl rfl (by omega)) rfl ?_
            refine s_val (v_remN (b := 4) rfl rfl (by omega) (by omega)) rfl ?_
            refine s_val (v_addN (a := 4) rfl rfl (by omega)) rfl ?_
            refine s_val (v_moveC rfl) rfl ?_
            refine s_val (v_addN (b := 2) rfl rfl (by omega)) rfl ?_
            refine s_val (v_remN (b := 4) rfl rfl (by omega) (by omega)) rfl ?_
            refine s_val (v_addN (a := 8) rfl rfl (by omega)) rfl ?_
            refine s_val (v_moveC rfl) rfl ?_
            refine s_val (v_addN (b := 3) rfl rfl (by omega)) rfl ?_
            refine s_val (v_remN (b := 4) rfl rfl (by omega) (by omega)) rfl ?_
            refine s_val (v_addN (a := 12) rfl rfl (by omega)) rfl ?_
            refine s_ev (e_callK (bs := [2]) (rfQuar_ev X9 j20 (4 + ((j20 + 1) % 4)) (8 + ((j20 + 2) % 4)) (12 + ((j20 + 3) % 4)) HYP_ HYP_ HYP_ HYP_ HYP_ HYP_ HYP_ HYP_ HYP_) ok_39 (by kernel_rfl) rfl rfl VAL_ APP_) rfl ?_
            refine s_nil ?_
            refine S_ ?_
            refine c_region ?_
            refine s_val (v_moveC rfl) rfl ?_
            refine s_val (v_addN (b := 1) rfl rfl (by omega)) rfl ?_
            refine s_val (v_assignC rfl) rfl ?_
            refine s_nil ?_
            exact ⟨(j20 + 1, _), by kernel_rfl, rfl⟩
          · try dsimp only
            have hY11 : (rfBlock_L20 Y8 4).length = 16 := by rw [rfBlock_L20_len Y8 hY8 _]; try omega
            generalize rfBlock_L20 Y8 4 = Y11 at *
            refine S_ ?_
            refine c_region ?_
            refine s_val (v_moveC rfl) rfl ?_
            refine s_val (v_lssN (a := 4) (b := 4) rfl rfl) rfl ?_
            refine s_nil ?_
            refine S_ ?_
            refine c_region ?_
            refine s_val (v_moveC rfl) rfl ?_
            refine s_val (v_addN (b := 1) rfl rfl (by omega)) rfl ?_
            refine s_val (v_assignC rfl) rfl ?_
            refine s_nil ?_
            exact ⟨(j13 + 1, _), by kernel_rfl, rfl⟩
      · try dsimp only
        have hY12 : (rfBlock_L13 Y4 10).length = 16 := by rw [rfBlock_L13_len Y4 hY4 _]; try omega
        generalize rfBlock_L13 Y4 10 = Y12 at *
        refine S_ ?_
        refine c_region ?_
        refine s_val (v_moveC rfl) rfl ?_
        refine s_val (v_lssN (a := 10) (b := 10) rfl rfl) rfl ?_
        refine s_nil ?_
        refine S_ ?_
        refine c_region ?_
        refine s_memN (m_alloc al_39 LEN_) APP_ rfl ?_
        refine s_nil ?_
        refine S_ ?_
        refine c_region ?_
        refine s_val (v_assignC rfl) rfl ?_
        refine s_nil ?_
        refine S_ ?_
        refine c_loopC [6, 7, 10, 14, 15] (fun (zz : Nat × List (BitVec 8)) => ⟨98, keepT [6, 7, 10, 14, 15] [.c (.ptr 0 0), .c (.ptr 1 0), .c (.ptr 2 0), .c (.ptr 3 0), .c (.val (.int .i64 (((zz.1 : Nat) : Int))))], [.row true (.a8 (zer8 64)), .row true (.a32 (Y4)), .row true (.a32 (Y12)), .row true (.a8 (zz.2))]⟩) (fun j25 => (j25, rfBlock_L25 Y4 Y12 j25)) (64) (by kernel_rfl) ?_ ?_
        · intro j25 hj25
          try dsimp only
          have hX13 : (rfBlock_L25 Y4 Y12 j25).length = 64 := by rw [rfBlock_L25_len Y4 Y12 _]; try omega
          rw [rfBlock_L25.eq_2, rfBlock_L25_S]
          generalize rfBlock_L25 Y4 Y12 j25 = X13 at *
          refine S_ ?_
          refine c_region ?_
          refine s_val (v_moveC rfl) rfl ?_
          refine s_val (v_lssN (b := 64) rfl rfl) rfl ?_
          refine s_nil ?_
          refine S_ ?_
          refine c_draw 17 mixed (by kernel_rfl) rfl rfl rfl ?_
          refine h_val (v_moveC rfl) rfl ?_
          refine h_val (v_moveC rfl) rfl ?_
          refine h_val (v_quoN (b := 4) rfl rfl (by omega) (by omega)) rfl ?_
          refine h_val (v_idxA1 rfl rfl Try.underlying50 sz_41 (by omega)) rfl ?_
          refine h_val (v_load32 rfl rfl row_41 LT_) rfl ?_
          refine h_val (v_moveC rfl) rfl ?_
          refine h_val (v_quoN (b := 4) rfl rfl (by omega) (by omega)) rfl ?_
          refine h_val (v_idxA1 rfl rfl Try.underlying50 sz_41 (by omega)) rfl ?_
          refine h_val (v_load32 rfl rfl row_41 LT_) rfl ?_
          refine h_val (v_add32 rfl rfl) rfl ?_
          refine h_val (v_moveC rfl) rfl ?_
          refine h_val (v_remN (b := 4) rfl rfl (by omega) (by omega)) rfl ?_
          refine h_val (v_mulN (a := 8) rfl rfl (by omega)) rfl ?_
          refine h_val (v_conv rfl Try.underlying3 Try.underlying36 (wi_64 _)) rfl ?_
          refine h_val (v_shr32w rfl rfl) rfl ?_
          refine h_val (v_conv rfl Try.underlying41 Try.underlying5 (w32_8 _)) rfl ?_
          refine h_val (v_idxA1 rfl rfl Try.underlying39 sz_5 (by omega)) rfl ?_
          refine h_nil ?_
          refine s_store8 rfl rfl rfl sz_5 LT_ SET_ ?_
          refine s_nil ?_
          refine S_ ?_
          refine c_region ?_
          refine s_val (v_moveC rfl) rfl ?_
          refine s_val (v_addN (b := 1) rfl rfl (by omega)) rfl ?_
          refine s_val (v_assignC rfl) rfl ?_
          refine s_nil ?_
          exact ⟨(j25 + 1, _), by kernel_rfl, rfl⟩
        · try dsimp only
          have hY14 : (rfBlock_L25 Y4 Y12 64).length = 64 := by rw [rfBlock_L25_len Y4 Y12 _]; try omega
          generalize rfBlock_L25 Y4 Y12 64 = Y14 at *
          refine S_ ?_
          refine c_region ?_
          refine s_val (v_moveC rfl) rfl ?_
          refine s_val (v_lssN (a := 64) (b := 64) rfl rfl) rfl ?_
          refine s_nil ?_
          refine S_ ?_
          refine c_region ?_
          refine s_val (v_loadR rfl rfl row_39 sz_39 EQ_ (by decide)) rfl ?_
          refine s_storeR rfl rfl rfl rfl sz_39 EQ_ EQ_ SET_ ?_
          refine s_nil ?_
          refine S_ ?_
          rw [hP.out]
          exact k_1 (r_row rfl rfl row_39 sz_39 EQ_ (by decide)) (by first | kernel_rfl | rfl)

@[simp] theorem rfBlock_len (key : List (BitVec 8)) (counter : BitVec 32) (nonce : List (BitVec 8)) (hkey : key.length = 32) (hnonce : nonce.length = 12) : (rfBlock key counter nonce).length = 64 := by
  unfold rfBlock
  first | (simp [rfBlock_L3_len, rfBlock_L8_len, rfBlock_L16_len, rfBlock_L20_len, rfBlock_L13_len, rfBlock_L25_len, *]; done) | (simp [rfBlock_L3_len, rfBlock_L8_len, rfBlock_L16_len, rfBlock_L20_len, rfBlock_L13_len, rfBlock_L25_len, *]; omega)

attribute [irreducible] rfBlock
end Go.Proofs.Ytcjponmaeamjdaa
/- trystref01.Xor (Drawn up by a program.) -/
namespace Go.Proofs.Ytcjponmaeamjdaa
open Go.RowKit
def rfXor_L8_S (key : List (BitVec 8)) (nonce : List (BitVec 8)) (t : List (BitVec 8)) (X1 : BitVec 32) (j3 : Nat) (X4 : List (BitVec 8)) (j8 : Nat) : List (BitVec 8) := X4 ++ [(nth t ((64 * j3) + j8)) ^^^ (nth (rfBlock key X1 nonce) j8)]
def rfXor_L8 (key : List (BitVec 8)) (nonce : List (BitVec 8)) (t : List (BitVec 8)) (X1 : BitVec 32) (X2 : List (BitVec 8)) (j3 : Nat) : Nat → List (BitVec 8)
  | 0 => X2
  | j8 + 1 => rfXor_L8_S key nonce t X1 j3 (rfXor_L8 key nonce t X1 X2 j3 j8) j8
theorem rfXor_L8_len (key : List (BitVec 8)) (nonce : List (BitVec 8)) (t : List (BitVec 8)) (X1 : BitVec 32) (X2 : List (BitVec 8)) (j3 : Nat) (hkey : key.length = 32) (hnonce : nonce.length = 12) (j8 : Nat) : (rfXor_L8 key nonce t X1 X2 j3 j8).length = X2.length + j8 := by
  induction j8 with
  | zero => first | (simp [rfXor_L8, *]; done) | (simp [rfXor_L8, *]; omega)
  | succ j8 ih => rw [rfXor_L8.eq_2, rfXor_L8_S]; first | (simp [ih]; done) | (simp [ih]; omega) | (simp [*]; done) | (simp [*]; omega) | (split <;> first | (simp [ih]; done) | (simp [ih]; omega) | (simp [*]; done))
def rfXor_L3_S (key : List (BitVec 8)) (nonce : List (BitVec 8)) (t : List (BitVec 8)) (X1 : BitVec 32) (X2 : List (BitVec 8)) (j3 : Nat) : BitVec 32 × List (BitVec 8) := (X1 + 1#32, (rfXor_L8 key nonce t X1 X2 j3 (min 64 (t.length - 64 * j3))))
def rfXor_L3 (key : List (BitVec 8)) (counter : BitVec 32) (nonce : List (BitVec 8)) (t : List (BitVec 8)) : Nat → BitVec 32 × List (BitVec 8)
  | 0 => (counter, [])
  | j3 + 1 => rfXor_L3_S key nonce t (rfXor_L3 key counter nonce t j3).1 (rfXor_L3 key counter nonce t j3).2 j3
theorem rfXor_L3_len1 (key : List (BitVec 8)) (counter : BitVec 32) (nonce : List (BitVec 8)) (t : List (BitVec 8)) (hkey : key.length = 32) (hnonce : nonce.length = 12) (j3 : Nat) : (rfXor_L3 key counter nonce t j3).2.length = min (64 * j3) t.length := by
  induction j3 with
  | zero => first | (simp [rfXor_L3, *]; done) | (simp [rfXor_L3, *]; omega)
  | succ j3 ih => rw [rfXor_L3.eq_2, rfXor_L3_S]; first | (simp [ih]; done) | (simp [ih]; omega) | (simp [rfXor_L8_len, *]; done) | (simp [rfXor_L8_len, *]; omega) | (split <;> first | (simp [ih]; done) | (simp [ih]; omega) | (simp [rfXor_L8_len, *]; done))
def rfXor (key : List (BitVec 8)) (counter : BitVec 32) (nonce : List (BitVec 8)) (t : List (BitVec 8)) : List (BitVec 8) := ((rfXor_L3 key counter nonce t ((t.length + 63) / 64)).2)
set_option maxRecDepth 100000 in
set_option maxHeartbeats 2000000 in
theorem rfXor_evL (key : List (BitVec 8)) (counter : BitVec 32) (nonce : List (BitVec 8)) (t : List (BitVec 8)) (n : Nat) (cap : Nat) (hkey : key.length = 32) (hnonce : nonce.length = 12) (ht : t.length = n) (hn : n ≤ 1099511627776) : Ev Try.prog (.call 20 [.agg (.a8 (key)), .c (.val (U32 counter)), .agg (.a8 (nonce)), .c (.sl 0 0 n cap 1)] [.row false (.a8 (t))]) (.val (.c (.sl 1 0 (min (64 * ((n + 63) / 64)) n) (min (64 * ((n + 63) / 64)) n) 1)) [.row false (.a8 (t)), .row true (.a8 (rfXor key counter nonce t))]) := by
  have hP : Hid (rfXor key counter nonce t = ((rfXor_L3 key counter nonce t ((t.length + 63) / 64)).2)) := ⟨rfl⟩
  subst ht
  refine c_call Try.func20 rfl Try.ntmps20 rfl LEN_ ?_
  refine S_ ?_
  refine c_region ?_
  refine s_memN (m_box BX_ LEN_) APP_ rfl ?_
  refine s_memN (m_box BX_ LEN_) APP_ rfl ?_
  refine s_val (v_assignC rfl) rfl ?_
  refine s_nil ?_
  refine S_ ?_
  refine c_region ?_
  refine s_val (v_assignC rfl) rfl ?_
  refine s_nil ?_
  refine S_ ?_
  refine c_region ?_
  refine s_val (v_assignC rfl) rfl ?_
  refine s_nil ?_
  refine S_ ?_
  refine c_nil 9 1 (.a8 ([])) rfl rfl LEN_ rfl ?_
  refine S_ ?_
  refine c_loopC [1, 3, 4, 6, 9, 10] (fun (zz : Nat × BitVec 32 × List (BitVec 8)) => ⟨51, keepT [1, 3, 4, 6, 9, 10] [.c (.val (U32 (zz.2.1))), .c (.sl 0 0 t.length cap 1), .c (.ptr 1 0), .c (.ptr 2 0), .c (.sl 3 0 (min (64 * zz.1) t.length) (min (64 * zz.1) t.length) 1), .c (.val (.int .i64 (((64 * zz.1 : Nat) : Int))))], [.row false (.a8 (t)), .row true (.a8 (key)), .row true (.a8 (nonce)), .row true (.a8 (zz.2.2))]⟩) (fun j3 => (j3, rfXor_L3 key counter nonce t j3)) ((t.length + 63) / 64) (by kernel_rfl) ?_ ?_
  · intro j3 hj3
    try dsimp only
    have hX2 : (rfXor_L3 key counter nonce t j3).2.length = min (64 * j3) t.length := by rw [rfXor_L3_len1 key counter nonce t hkey hnonce _]; try omega
    rw [rfXor_L3.eq_2, rfXor_L3_S]
    generalize rfXor_L3 key counter nonce t j3 = Z3 at *
    obtain ⟨X1, X2⟩ := Z3
    try dsimp only at *
    refine S_ ?_
    refine c_region ?_
    refine s_val (v_moveC rfl) rfl ?_
    refine s_val (v_moveC rfl) rfl ?_
    refine s_val (v_lenS rfl Try.underlying24) rfl ?_
    refine s_val (v_lssN rfl rfl) rfl ?_
    refine s_nil ?_
    have hQ4 : (rfBlock key X1 nonce).length = 64 := LQ_
    refine S_ ?_
    refine c_region ?_
    refine s_val (v_loadR rfl rfl row_22 sz_22 EQ_ (by decide)) rfl ?_
    refine s_val (v_moveC rfl) rfl ?_
    refine s_val (v_loadR rfl rfl row_23 sz_23 EQ_ (by decide)) rfl ?_
    refine s_evN (e_callR (bs := []) (rfBlock_ev key X1 nonce HYP_ HYP_) ok_29 (by kernel_rfl) (by kernel_rfl) rfl VAL_) APP_ rfl ?_
    refine s_memN (m_alloc al_39 LEN_) APP_ rfl ?_
    refine s_storeR rfl rfl rfl rfl sz_39 EQ_ EQ_ SET_ ?_
    refine s_nil ?_
    refine S_ ?_
    refine c_region ?_
    refine s_val (v_moveC rfl) rfl ?_
    refine s_val (v_add32 (b := 1#32) rfl rfl) rfl ?_
    refine s_val (v_assignC rfl) rfl ?_
    refine s_nil ?_
    refine S_ ?_
    refine c_region ?_
    refine s_val (v_assignC rfl) rfl ?_
    refine s_nil ?_
    refine S_ ?_
    refine c_loopC [1, 3, 4, 6, 9, 10, 11, 12] (fun (zz : Nat × List (BitVec 8)) => ⟨51, keepT [1, 3, 4, 6, 9, 10, 11, 12] [.c (.val (U32 (X1 + 1#32))), .c (.sl 0 0 t.length cap 1), .c (.ptr 1 0), .c (.ptr 2 0), .c (.sl 3 0 ((min (64 * j3) t.length) + zz.1) ((min (64 * j3) t.length) + zz.1) 1), .c (.val (.int .i64 (((64 * j3 : Nat) : Int)))), .c (.ptr 4 0), .c (.val (.int .i64 (((zz.1 : Nat) : Int))))], [.row false (.a8 (t)), .row true (.a8 (key)), .row true (.a8 (nonce)), .row true (.a8 (zz.2)), .row true (.a8 (rfBlock key X1 nonce))]⟩) (fun j8 => (j8, rfXor_L8 key nonce t X1 X2 j3 j8)) (min 64 (t.length - 64 * j3)) (by kernel_rfl) ?_ ?_
    · intro j8 hj8
      try dsimp only
      have hX5 : (rfXor_L8 key nonce t X1 X2 j3 j8).length = (min (64 * j3) t.length) + j8 := by rw [rfXor_L8_len key nonce t X1 X2 j3 hkey hnonce _]; try omega
      rw [rfXor_L8.eq_2, rfXor_L8_S]
      generalize rfXor_L8 key nonce t X1 X2 j3 j8 = X5 at *
      refine S_ ?_
      refine c_region ?_
      refine s_val (v_moveC rfl) rfl ?_
      refine s_val (v_lssN (b := 64) rfl rfl) rfl ?_
      refine s_val (v_moveC rfl) rfl ?_
      refine s_go GO_ ?_
      refine s_val (v_moveC rfl) rfl ?_
      refine s_go GO_ ?_
      refine s_val (v_moveC rfl) rfl ?_
      refine s_go GO_ ?_
      refine s_val (v_addN rfl rfl (by omega)) rfl ?_
      refine s_go GO_ ?_
      refine s_val (v_moveC rfl) rfl ?_
      refine s_go GO_ ?_
      refine s_val (v_lenS rfl Try.underlying24) rfl ?_
      refine s_go GO_ ?_
      refine s_val (v_lssN rfl rfl) rfl ?_
      refine s_val (v_pickT rfl PK_ rfl) rfl ?_
      refine s_nil ?_
      refine S_ ?_
      refine c_draw 12 mixed (by kernel_rfl) rfl rfl rfl ?_
      refine h_val (v_moveC rfl) rfl ?_
      refine h_val (v_moveC rfl) rfl ?_
      refine h_val (v_moveC rfl) rfl ?_
      refine h_val (v_moveC rfl) rfl ?_
      refine h_val (v_addN rfl rfl (by omega)) rfl ?_
      refine h_val (v_idxS1 rfl rfl Try.underlying24 sz_5 (by omega)) rfl ?_
      refine h_val (v_load8 rfl rfl row_5 LT_) rfl ?_
      refine h_val (v_moveC rfl) rfl ?_
      refine h_val (v_idxA1 rfl rfl Try.underlying39 sz_5 (by omega)) rfl ?_
      refine h_val (v_load8 rfl rfl row_5 LT_) rfl ?_
      refine h_val (v_xor8 rfl rfl) rfl ?_
      refine h_memN (m_bs8 (l := [_]) Try.underlying24 el_5 rfl rfl (by decide) (by decide) LEN_) APP_ rfl ?_
      refine h_nil ?_
      refine s_app8 rfl rfl rfl rfl Try.underlying24 Try.underlying24 el_5 EQL_ EQL_ (by omega) LEN_ KILL_ rfl ?_
      refine s_val (v_assignC rfl) rfl ?_
      refine s_nil ?_
      refine S_ ?_
      refine c_region ?_
      refine s_val (v_moveC rfl) rfl ?_
      refine s_val (v_addN (b := 1) rfl rfl (by omega)) rfl ?_
      refine s_val (v_assignC rfl) rfl ?_
      refine s_nil ?_
      exact ⟨(j8 + 1, _), by kernel_rfl, rfl⟩
    · try dsimp only
      have hY6 : (rfXor_L8 key nonce t X1 X2 j3 (min 64 (t.length - 64 * j3))).length = (min (64 * j3) t.length) + min 64 (t.length - 64 * j3) := by rw [rfXor_L8_len key nonce t X1 X2 j3 hkey hnonce _]; try omega
      generalize rfXor_L8 key nonce t X1 X2 j3 (min 64 (t.length - 64 * j3)) = Y6 at *
      by_cases hc7 : min 64 (t.length - 64 * j3) < 64
      · -- it is so
        refine S_ ?_
        refine c_region ?_
        refine s_val (v_moveC rfl) rfl ?_
        refine s_val (v_lssN (b := 64) rfl rfl) rfl ?_
        refine s_val (v_moveC rfl) rfl ?_
        refine s_go GO_ ?_
        refine s_val (v_moveC rfl) rfl ?_
        refine s_go GO_ ?_
        refine s_val (v_moveC rfl) rfl ?_
        refine s_go GO_ ?_
        refine s_val (v_addN rfl rfl (by omega)) rfl ?_
        refine s_go GO_ ?_
        refine s_val (v_moveC rfl) rfl ?_
        refine s_go GO_ ?_
        refine s_val (v_lenS rfl Try.underlying24) rfl ?_
        refine s_go GO_ ?_
        refine s_val (v_lssN rfl rfl) rfl ?_
        refine s_val (v_pickT rfl PK_ rfl) rfl ?_
        refine s_nil ?_
        refine S_ ?_
        refine c_region ?_
        refine s_val (v_moveC rfl) rfl ?_
        refine s_val (v_addN (b := 64) rfl rfl (by omega)) rfl ?_
        refine s_val (v_assignC rfl) rfl ?_
        refine s_nil ?_
        rw [show (min (64 * j3) t.length) + (min 64 (t.length - 64 * j3)) = min (64 * (j3 + 1)) t.length from by omega]
        exact ⟨(j3 + 1, _), by kernel_rfl, rfl⟩
      · -- it is not so
        refine S_ ?_
        refine c_region ?_
        refine s_val (v_moveC rfl) rfl ?_
        refine s_val (v_lssN (b := 64) rfl rfl) rfl ?_
        refine s_val (v_moveC rfl) rfl ?_
        refine s_no GO_ rfl ?_
        refine s_no GO_ rfl ?_
        refine s_no GO_ rfl ?_
        refine s_no GO_ rfl ?_
        refine s_no GO_ rfl ?_
        refine s_no GO_ rfl ?_
        refine s_val (v_pickF rfl PK_ rfl) rfl ?_
        refine s_nil ?_
        refine S_ ?_
        refine c_region ?_
        refine s_val (v_moveC rfl) rfl ?_
        refine s_val (v_addN (b := 64) rfl rfl (by omega)) rfl ?_
        refine s_val (v_assignC rfl) rfl ?_
        refine s_nil ?_
        rw [show (min (64 * j3) t.length) + (min 64 (t.length - 64 * j3)) = min (64 * (j3 + 1)) t.length from by omega]
        exact ⟨(j3 + 1, _), by kernel_rfl, rfl⟩
  · try dsimp only
    have hY9 : (rfXor_L3 key counter nonce t ((t.length + 63) / 64)).2.length = min (64 * ((t.length + 63) / 64)) t.length := by rw [rfXor_L3_len1 key counter nonce t hkey hnonce _]; try omega
    generalize rfXor_L3 key counter nonce t ((t.length + 63) / 64) = Z10 at *
    obtain ⟨Y8, Y9⟩ := Z10
    try dsimp only at *
    refine S_ ?_
    refine c_region ?_
    refine s_val (v_moveC rfl) rfl ?_
    refine s_val (v_moveC rfl) rfl ?_
    refine s_val (v_lenS rfl Try.underlying24) rfl ?_
    refine s_val (v_lssN rfl rfl) rfl ?_
    refine s_nil ?_
    refine S_ ?_
    refine c_region ?_
    refine s_val (v_moveC rfl) rfl ?_
    refine s_val (v_assignC rfl) rfl ?_
    refine s_nil ?_
    refine S_ ?_
    rw [hP.out]
    exact k_1 (by first | exact r_tmpC rfl | exact r_tmpA rfl) (by first | kernel_rfl | rfl)
theorem rfXor_ev (key : List (BitVec 8)) (counter : BitVec 32) (nonce : List (BitVec 8)) (t : List (BitVec 8)) (n : Nat) (cap : Nat) (hkey : key.length = 32) (hnonce : nonce.length = 12) (ht : t.length = n) (hn : n ≤ 1099511627776) : Ev Try.prog (.call 20 [.agg (.a8 (key)), .c (.val (U32 counter)), .agg (.a8 (nonce)), .c (.sl 0 0 n cap 1)] [.row false (.a8 (t))]) (.val (.c (.sl 1 0 n n 1)) [.row false (.a8 (t)), .row true (.a8 (rfXor key counter nonce t))])  := by
  have h_ := rfXor_evL key counter nonce t n cap hkey hnonce ht hn
  rw [show min (64 * ((n + 63) / 64)) n = n from by omega] at h_
  exact h_
set_option maxRecDepth 100000 in
theorem rfXor_evP (key : List (BitVec 8)) (counter : BitVec 32) (nonce : List (BitVec 8)) (t : List (BitVec 8)) (o_t : Nat) (n : Nat) (cap : Nat) (hkey : key.length = 32) (hnonce : nonce.length = 12) (ht : o_t + n ≤ t.length) (hn : n ≤ 1099511627776) : Ev Try.prog (.call 20 [.agg (.a8 (key)), .c (.val (U32 counter)), .agg (.a8 (nonce)), .c (.sl 0 o_t n cap 1)] [.row false (.a8 (t))]) (.val (.c (.sl 1 0 n n 1)) [.row false (.a8 (t)), .row true (.a8 (rfXor key counter nonce (cut t o_t n)))]) := by
  exact Ev.parts (m := [.row false (.a8 (t))]) (m' := [.row false (.a8 (cut t o_t n))]) (N := [.row true (.a8 (rfXor key counter nonce (cut t o_t n)))]) (N' := [.row true (.a8 (rfXor key counter nonce (cut t o_t n)))]) [some (0, o_t)] (.a8 rfl ht .nil) (.agg rfl (.c (.same rfl) (.agg rfl (.c (.sl rfl (by simp)) .nil)))) (rfXor_ev key counter nonce (cut t o_t n) n cap hkey hnonce (by rw [cut_length]; omega) hn) rfl rfl

@[simp] theorem rfXor_len (key : List (BitVec 8)) (counter : BitVec 32) (nonce : List (BitVec 8)) (t : List (BitVec 8)) (hkey : key.length = 32) (hnonce : nonce.length = 12) : (rfXor key counter nonce t).length = t.length := by
  unfold rfXor
  first | (simp [rfXor_L8_len, rfXor_L3_len1, *]; done) | (simp [rfXor_L8_len, rfXor_L3_len1, *]; omega)

attribute [irreducible] rfXor
end Go.Proofs.Ytcjponmaeamjdaa
/- chacha's blocks and texts, and the reference's, are one. -/
namespace Go.Proofs.Ytcjponmaeamjdaa
open Go.RowKit
theorem quar_same (x : List (BitVec 32)) (a b c d : Nat) : rfQuar x a b c d = quar x a b c d := by
  unfold rfQuar quar; rfl
theorem low_shl (x : BitVec 64) (k : Nat) : (x <<< k).setWidth 32 = x.setWidth 32 <<< k := by
  apply BitVec.eq_of_getLsbD_eq
  intro i hi
  rw [BitVec.getLsbD_setWidth, BitVec.getLsbD_shiftLeft, BitVec.getLsbD_shiftLeft, BitVec.getLsbD_setWidth]
  simp only [hi, decide_true, Bool.true_and, show i < 64 from by omega]
  by_cases h : i < k
  · simp [h]
  · simp only [h, decide_false, Bool.not_false, Bool.true_and, show i - k < 32 from by omega, decide_true]
theorem low_wide (x : BitVec 8) : (x.setWidth 64).setWidth 32 = x.setWidth 32 := BitVec.setWidth_setWidth_of_le x (by decide)
theorem le32_same (b : List (BitVec 8)) (o : Nat) : rfLe32 b o = (chLow b o 4).setWidth 32 := by
  unfold rfLe32 chLow
  simp only [chLow_L3, chLow_L3_S, BitVec.setWidth_or, low_shl, low_wide, Nat.add_zero, Nat.mul_zero, BitVec.shiftLeft_zero]
  simp
theorem block_same (key : List (BitVec 8)) (c : BitVec 32) (nonce : List (BitVec 8)) : rfBlock key c nonce = chBlock key c nonce := by
  have h3 : ∀ j, rfBlock_L3 key j = chBlock_L3 key j := fun j => by
    induction j with
    | zero => rfl
    | succ j ih => rw [rfBlock_L3, chBlock_L3, ih, rfBlock_L3_S, chBlock_L3_S, le32_same, Nat.add_sub_cancel_left]
  have h9 : ∀ Y j, rfBlock_L8 c nonce Y j = chBlock_L9 c nonce Y j := fun Y j => by
    induction j with
    | zero => rfl
    | succ j ih => rw [rfBlock_L8, chBlock_L9, ih, rfBlock_L8_S, chBlock_L9_S, le32_same, Nat.add_sub_cancel_left]
  have h15 : ∀ Y j, rfBlock_L13 Y j = chBlock_L15 Y j := fun Y j => by
    induction j with
    | zero => rfl
    | succ j ih =>
      rw [rfBlock_L13, chBlock_L15, ih, rfBlock_L13_S, chBlock_L15_S]
      simp only [rfBlock_L20, rfBlock_L20_S, rfBlock_L16, rfBlock_L16_S, quar_same]
  have h27 : ∀ A B j, rfBlock_L25 A B j = chBlock_L27 A B j := fun A B j => by
    induction j with
    | zero => rfl
    | succ j ih =>
      rw [rfBlock_L25, chBlock_L27, ih, rfBlock_L25_S, chBlock_L27_S, BitVec.toNat_ofNat, Nat.mod_eq_of_lt (by omega)]
  unfold rfBlock chBlock
  rw [h3, h9, h15, h27]
/-- What a text is turned to, byte by byte. -/
theorem chXor_nth (key : List (BitVec 8)) (c : BitVec 32) (nonce t : List (BitVec 8)) (hk : key.length = 32) (hn : nonce.length = 12) (i : Nat) (hi : i < t.length) :
    nth (chXor key c nonce t) i = nth t i ^^^ nth (chBlock key (c + BitVec.ofNat 32 (i / 64)) nonce) (i % 64) := by
  have h7 : ∀ X j3 j7, 64 * j3 + j7 ≤ X.length → j7 ≤ 64 → ∀ i, i < X.length → nth (chXor_L7 key c nonce X j3 j7) i = if 64 * j3 ≤ i ∧ i < 64 * j3 + j7 then nth X i ^^^ nth (chBlock key (c + BitVec.ofNat 32 (i / 64)) nonce) (i % 64) else nth X i := fun X j3 j7 => by
    induction j7 with
    | zero => intro _ _ i _; rw [if_neg (by omega)]; rfl
    | succ j7 ih =>
      intro h1 h2 i hi
      rw [chXor_L7, chXor_L7_S, nth_put _ _ _ _ (by rw [chXor_L7_len]; omega)]
      by_cases e : 64 * j3 + j7 = i
      · subst e
        rw [if_pos rfl, if_pos (by omega), ih (by omega) (by omega) _ (by omega), if_neg (by omega), Nat.add_sub_cancel_left, Nat.mul_div_cancel_left _ (by decide), show (64 * j3 + j7) / 64 = j3 from by omega, show (64 * j3 + j7) % 64 = j7 from by omega]
      · rw [if_neg e, ih (by omega) (by omega) _ hi]
        by_cases h : 64 * j3 ≤ i ∧ i < 64 * j3 + j7
        · rw [if_pos h, if_pos (by omega)]
        · rw [if_neg h, if_neg (by omega)]
  have h3 : ∀ j3, j3 ≤ (t.length + 63) / 64 → ∀ i, i < t.length → nth (chXor_L3 key c nonce t j3) i = if i < 64 * j3 then nth t i ^^^ nth (chBlock key (c + BitVec.ofNat 32 (i / 64)) nonce) (i % 64) else nth t i := fun j3 => by
    induction j3 with
    | zero => intro _ i _; rw [if_neg (by omega)]; rfl
    | succ j3 ih =>
      intro h1 i hi
      rw [chXor_L3, chXor_L3_S, h7 _ _ _ (by rw [chXor_L3_len _ _ _ _ hk hn]; omega) (by omega) _ (by rw [chXor_L3_len _ _ _ _ hk hn]; exact hi)]
      by_cases e : 64 * j3 ≤ i ∧ i < 64 * j3 + (min (64 * j3 + 64) t.length - 64 * j3)
      · rw [if_pos e, if_pos (by omega), ih (by omega) _ hi, if_neg (by omega)]
      · rw [if_neg e, ih (by omega) _ hi]
        by_cases h : i < 64 * j3
        · rw [if_pos h, if_pos (by omega)]
        · rw [if_neg h, if_neg (by omega)]
  unfold chXor
  rw [h3 _ (Nat.le_refl _) _ hi, if_pos (by omega)]
theorem rfXor_nth (key : List (BitVec 8)) (c : BitVec 32) (nonce t : List (BitVec 8)) (hk : key.length = 32) (hn : nonce.length = 12) (i : Nat) (hi : i < t.length) :
    nth (rfXor key c nonce t) i = nth t i ^^^ nth (rfBlock key (c + BitVec.ofNat 32 (i / 64)) nonce) (i % 64) := by
  have h8 : ∀ X1 X2 j3 j8, ∀ i, i < X2.length + j8 → nth (rfXor_L8 key nonce t X1 X2 j3 j8) i = if i < X2.length then nth X2 i else nth t (64 * j3 + (i - X2.length)) ^^^ nth (rfBlock key X1 nonce) (i - X2.length) := fun X1 X2 j3 j8 => by
    induction j8 with
    | zero => intro i hi; rw [if_pos (by omega)]; rfl
    | succ j8 ih =>
      intro i hi
      rw [rfXor_L8, rfXor_L8_S, nthApp, rfXor_L8_len _ _ _ _ _ _ hk hn]
      by_cases e : i < X2.length + j8
      · rw [if_pos e, ih _ e]
      · have e : i = X2.length + j8 := by omega
        subst e
        rw [if_neg (by omega), if_neg (by omega), Nat.sub_self, Nat.add_sub_cancel_left]
        rfl
  have h3 : ∀ j3, j3 ≤ (t.length + 63) / 64 → (rfXor_L3 key c nonce t j3).1 = c + BitVec.ofNat 32 j3 ∧ ∀ i, i < min (64 * j3) t.length → nth (rfXor_L3 key c nonce t j3).2 i = nth t i ^^^ nth (rfBlock key (c + BitVec.ofNat 32 (i / 64)) nonce) (i % 64) := fun j3 => by
    induction j3 with
    | zero => intro _; exact ⟨by rw [rfXor_L3]; simp, fun i hi => by omega⟩
    | succ j3 ih =>
      intro h1
      obtain ⟨g1, g2⟩ := ih (by omega)
      refine ⟨?_, fun i hi => ?_⟩
      · rw [rfXor_L3, rfXor_L3_S, g1]
        apply BitVec.eq_of_toNat_eq
        simp only [BitVec.toNat_add, BitVec.toNat_ofNat]
        omega
      · rw [rfXor_L3, rfXor_L3_S]
        have hl := rfXor_L3_len1 key c nonce t hk hn j3
        show nth (rfXor_L8 key nonce t _ _ j3 _) i = _
        rw [h8 _ _ _ _ _ (by rw [hl]; omega), hl, g1]
        by_cases e : i < min (64 * j3) t.length
        · rw [if_pos e, g2 _ e]
        · rw [if_neg e, show min (64 * j3) t.length = 64 * j3 from by omega, show 64 * j3 + (i - 64 * j3) = i from by omega, show i / 64 = j3 from by omega, show i - 64 * j3 = i % 64 from by omega]
  unfold rfXor
  exact (h3 _ (Nat.le_refl _)).2 _ (by omega)
theorem xor_same (key : List (BitVec 8)) (c : BitVec 32) (nonce t : List (BitVec 8)) (hk : key.length = 32) (hn : nonce.length = 12) : rfXor key c nonce t = chXor key c nonce t := by
  refine extNth (by rw [rfXor_len _ _ _ _ hk hn, chXor_len _ _ _ _ hk hn]) fun i hi => ?_
  rw [rfXor_len _ _ _ _ hk hn] at hi
  rw [rfXor_nth _ _ _ _ hk hn _ hi, chXor_nth _ _ _ _ hk hn _ hi, block_same]
end Go.Proofs.Ytcjponmaeamjdaa
/- Words of 26 bits as a number. No program in sight. -/
namespace Go.Proofs.Ytcjponmaeamjdaa
open Go.RowKit
/-- The number that five words are. -/
def v5 (l : List (BitVec 64)) : Nat := (nth l 0).toNat + 67108864 * (nth l 1).toNat + 4503599627370496 * (nth l 2).toNat + 302231454903657293676544 * (nth l 3).toNat + 20282409603651670423947251286016 * (nth l 4).toNat
def below (B : Nat) (l : List (BitVec 64)) : Prop := (nth l 0).toNat < B ∧ (nth l 1).toNat < B ∧ (nth l 2).toNat < B ∧ (nth l 3).toNat < B ∧ (nth l 4).toNat < B
theorem and26 (x : BitVec 64) : (x &&& 67108863#64).toNat = x.toNat % 67108864 := by
  rw [BitVec.toNat_and]
  exact Nat.and_two_pow_sub_one_eq_mod x.toNat 26
theorem shr26 (x : BitVec 64) : (x >>> 26).toNat = x.toNat / 67108864 := by
  rw [BitVec.toNat_ushiftRight, Nat.shiftRight_eq_div_pow]
theorem add_nat {n : Nat} (x y : BitVec n) (h : x.toNat + y.toNat < 2 ^ n) : (x + y).toNat = x.toNat + y.toNat := by rw [BitVec.toNat_add, Nat.mod_eq_of_lt h]
theorem mul_nat {n : Nat} (x y : BitVec n) (h : x.toNat * y.toNat < 2 ^ n) : (x * y).toNat = x.toNat * y.toNat := by rw [BitVec.toNat_mul, Nat.mod_eq_of_lt h]
theorem five {l : List (BitVec 64)} (h : l.length = 5) : ∃ a b c d e, l = [a, b, c, d, e] := by
  match l, h with
  | [a, b, c, d, e], _ => exact ⟨a, b, c, d, e, rfl⟩
/-- The carries in numbers. -/
structure Carried (x0 x1 x2 x3 x4 y0 y1 y2 y3 y4 c1 c2 c3 c4 c5 : Nat) : Prop where
  h0 : x0 = y0 + 67108864 * c1 ∧ y0 < 67108864
  h1 : x1 + c1 = y1 + 67108864 * c2 ∧ y1 < 67108864
  h2 : x2 + c2 = y2 + 67108864 * c3 ∧ y2 < 67108864
  h3 : x3 + c3 = y3 + 67108864 * c4 ∧ y3 < 67108864
  h4 : x4 + c4 = y4 + 67108864 * c5 ∧ y4 < 67108864
theorem carry_step (x c : BitVec 64) (h : x.toNat + c.toNat < 2 ^ 64) : x.toNat + c.toNat = ((x + c) &&& 67108863#64).toNat + 67108864 * ((x + c) >>> 26).toNat ∧ ((x + c) &&& 67108863#64).toNat < 67108864 := by
  rw [and26, shr26, add_nat _ _ h]
  omega
theorem carrySt5 (a b c d e : BitVec 64) (h : below 9223372036854775808 [a, b, c, d, e]) :
    ∃ (y0 y1 y2 y3 y4 k : BitVec 64) (c1 c2 c3 c4 : Nat), carrySt [a, b, c, d, e] 5 = ([y0, y1, y2, y3, y4], k) ∧ Carried a.toNat b.toNat c.toNat d.toNat e.toNat y0.toNat y1.toNat y2.toNat y3.toNat y4.toNat c1 c2 c3 c4 k.toNat := by
  obtain ⟨ha, hb, hc, hd, he⟩ := h
  have ha : a.toNat < 9223372036854775808 := ha
  have hb : b.toNat < 9223372036854775808 := hb
  have hc : c.toNat < 9223372036854775808 := hc
  have hd : d.toNat < 9223372036854775808 := hd
  have he : e.toNat < 9223372036854775808 := he
  have s0 : a.toNat = ((a + 0#64) &&& 67108863#64).toNat + 67108864 * ((a + 0#64) >>> 26).toNat ∧ ((a + 0#64) &&& 67108863#64).toNat < 67108864 := carry_step a 0#64 (by simp; omega)
  have b0 := shr26 (a + 0#64)
  rw [add_nat a 0#64 (by simp; omega)] at b0
  have s1 := carry_step b ((a + 0#64) >>> 26) (by omega)
  have b1 := shr26 (b + (a + 0#64) >>> 26)
  rw [add_nat b _ (by omega)] at b1
  have s2 := carry_step c ((b + (a + 0#64) >>> 26) >>> 26) (by omega)
  have b2 := shr26 (c + (b + (a + 0#64) >>> 26) >>> 26)
  rw [add_nat c _ (by omega)] at b2
  have s3 := carry_step d ((c + (b + (a + 0#64) >>> 26) >>> 26) >>> 26) (by omega)
  have b3 := shr26 (d + (c + (b + (a + 0#64) >>> 26) >>> 26) >>> 26)
  rw [add_nat d _ (by omega)] at b3
  have s4 := carry_step e ((d + (c + (b + (a + 0#64) >>> 26) >>> 26) >>> 26) >>> 26) (by omega)
  exact ⟨_, _, _, _, _, _, _, _, _, _, rfl, ⟨s0, s1, s2, s3, s4⟩⟩
/-- A carry leaves the number as it was, modulo 2^130 - 5; the words are small behind it. -/
theorem carriedL5 (a b c d e : BitVec 64) (h : below 4611686018427387904 [a, b, c, d, e]) :
    ∃ (y0 y1 y2 y3 y4 k w : BitVec 64) (c1 c2 c3 c4 : Nat), carriedL [a, b, c, d, e] = [w, y1, y2, y3, y4] ∧ Carried a.toNat b.toNat c.toNat d.toNat e.toNat y0.toNat y1.toNat y2.toNat y3.toNat y4.toNat c1 c2 c3 c4 k.toNat ∧ w.toNat = y0.toNat + 5 * k.toNat := by
  have hb : below 9223372036854775808 [a, b, c, d, e] := by
    unfold below at *
    omega
  obtain ⟨y0, y1, y2, y3, y4, k, c1, c2, c3, c4, he, hc⟩ := carrySt5 a b c d e hb
  refine ⟨y0, y1, y2, y3, y4, k, y0 + 5#64 * k, c1, c2, c3, c4, ?_, hc, ?_⟩
  · rw [carriedL_eq, he]; rfl
  · obtain ⟨h0, h1, h2, h3, h4⟩ := hc
    obtain ⟨ha, hb, hc, hd, he⟩ := h
    have ha : a.toNat < 4611686018427387904 := ha
    have hb : b.toNat < 4611686018427387904 := hb
    have hc : c.toNat < 4611686018427387904 := hc
    have hd : d.toNat < 4611686018427387904 := hd
    have he : e.toNat < 4611686018427387904 := he
    have hk : k.toNat ≤ 68719480000 := by omega
    have h5 : (5#64 * k).toNat = 5 * k.toNat := by rw [mul_nat _ _ (by simp; omega)]; rfl
    rw [add_nat _ _ (by rw [h5]; omega), h5]
theorem v5_eq (a b c d e : BitVec 64) : v5 [a, b, c, d, e] = a.toNat + 67108864 * b.toNat + 4503599627370496 * c.toNat + 302231454903657293676544 * d.toNat + 20282409603651670423947251286016 * e.toNat := rfl
/-- p is 2^130 - 5. -/
def pP : Nat := 1361129467683753853853498429727072845819
def belowF (F : Nat) (l : List (BitVec 64)) : Prop := (nth l 0).toNat < F ∧ (nth l 1).toNat < 67108864 ∧ (nth l 2).toNat < 67108864 ∧ (nth l 3).toNat < 67108864 ∧ (nth l 4).toNat < 67108864
/-- One number more or less by so many times p. -/
def Over (x y : Nat) : Prop := ∃ k, x = y + k * pP
theorem Over.mod {x y : Nat} (h : Over x y) : x % pP = y % pP := by obtain ⟨k, rfl⟩ := h; rw [Nat.add_mul_mod_self_right]
theorem carry_any (l : List (BitVec 64)) (hl : l.length = 5) (h : below 4611686018427387904 l) : Over (v5 l) (v5 (carriedL l)) := by
  obtain ⟨a, b, c, d, e, rfl⟩ := five hl
  obtain ⟨y0, y1, y2, y3, y4, k, w, c1, c2, c3, c4, hE, ⟨h0, h1, h2, h3, h4⟩, hw⟩ := carriedL5 a b c d e h
  refine ⟨k.toNat, ?_⟩
  rw [hE, v5_eq, v5_eq, hw]
  unfold pP
  omega
theorem carry_big (l : List (BitVec 64)) (hl : l.length = 5) (h : below 1152921504606846976 l) : belowF 171866194000 (carriedL l) := by
  obtain ⟨a, b, c, d, e, rfl⟩ := five hl
  obtain ⟨y0, y1, y2, y3, y4, k, w, c1, c2, c3, c4, hE, ⟨h0, h1, h2, h3, h4⟩, hw⟩ := carriedL5 a b c d e (by unfold below at *; omega)
  obtain ⟨ha, hb, hc, hd, he⟩ := h
  have ha : a.toNat < 1152921504606846976 := ha
  have hb : b.toNat < 1152921504606846976 := hb
  have hc : c.toNat < 1152921504606846976 := hc
  have hd : d.toNat < 1152921504606846976 := hd
  have he : e.toNat < 1152921504606846976 := he
  rw [hE]
  refine ⟨?_, h1.2, h2.2, h3.2, h4.2⟩
  show w.toNat < _
  omega
theorem carry_mid (l : List (BitVec 64)) (hl : l.length = 5) (h : belowF 171866194000 l) : belowF 67108869 (carriedL l) := by
  obtain ⟨a, b, c, d, e, rfl⟩ := five hl
  obtain ⟨y0, y1, y2, y3, y4, k, w, c1, c2, c3, c4, hE, ⟨h0, h1, h2, h3, h4⟩, hw⟩ := carriedL5 a b c d e (by unfold below; unfold belowF at h; omega)
  obtain ⟨ha, hb, hc, hd, he⟩ := h
  have ha : a.toNat < 171866194000 := ha
  have hb : b.toNat < 67108864 := hb
  have hc : c.toNat < 67108864 := hc
  have hd : d.toNat < 67108864 := hd
  have he : e.toNat < 67108864 := he
  rw [hE]
  refine ⟨?_, h1.2, h2.2, h3.2, h4.2⟩
  show w.toNat < _
  omega
theorem carry_small (l : List (BitVec 64)) (hl : l.length = 5) (h : belowF 67108869 l) : belowF 67108864 (carriedL l) := by
  obtain ⟨a, b, c, d, e, rfl⟩ := five hl
  obtain ⟨y0, y1, y2, y3, y4, k, w, c1, c2, c3, c4, hE, ⟨h0, h1, h2, h3, h4⟩, hw⟩ := carriedL5 a b c d e (by unfold below; unfold belowF at h; omega)
  obtain ⟨ha, hb, hc, hd, he⟩ := h
  have ha : a.toNat < 67108869 := ha
  have hb : b.toNat < 67108864 := hb
  have hc : c.toNat < 67108864 := hc
  have hd : d.toNat < 67108864 := hd
  have he : e.toNat < 67108864 := he
  rw [hE]
  refine ⟨?_, h1.2, h2.2, h3.2, h4.2⟩
  show w.toNat < _
  omega
end Go.Proofs.Ytcjponmaeamjdaa
/- The product of numbers of five words. No program in sight. (Printed by a program.) -/
namespace Go.Proofs.Ytcjponmaeamjdaa
open Go.RowKit
theorem mulAll5 (a0 a1 a2 a3 a4 b0 b1 b2 b3 b4 : BitVec 64) : mulAll [a0, a1, a2, a3, a4] [b0, b1, b2, b3, b4] 5 = [(((((0#64 + a0 * b0) + a1 * b4 * 5#64) + a2 * b3 * 5#64) + a3 * b2 * 5#64) + a4 * b1 * 5#64),
    (((((0#64 + a0 * b1) + a1 * b0) + a2 * b4 * 5#64) + a3 * b3 * 5#64) + a4 * b2 * 5#64),
    (((((0#64 + a0 * b2) + a1 * b1) + a2 * b0) + a3 * b4 * 5#64) + a4 * b3 * 5#64),
    (((((0#64 + a0 * b3) + a1 * b2) + a2 * b1) + a3 * b0) + a4 * b4 * 5#64),
    (((((0#64 + a0 * b4) + a1 * b3) + a2 * b2) + a3 * b1) + a4 * b0)] := by kernel_rfl
theorem prod_nat (x y : BitVec 64) (hx : x.toNat < 268435456) (hy : y.toNat < 67108864) : (x * y).toNat = x.toNat * y.toNat ∧ x.toNat * y.toNat < 18014398509481984 := by
  have h := Nat.mul_lt_mul'' hx hy
  exact ⟨mul_nat _ _ (by omega), h⟩
theorem prod5_nat (x y : BitVec 64) (hx : x.toNat < 268435456) (hy : y.toNat < 67108864) : (x * y * 5#64).toNat = 5 * (x.toNat * y.toNat) := by
  obtain ⟨h1, h2⟩ := prod_nat x y hx hy
  rw [mul_nat _ _ (by rw [h1]; show _ * 5 < _; omega), h1, Nat.mul_comm]
  rfl
theorem sum5_nat (x0 x1 x2 x3 x4 : BitVec 64) (B : Nat) (hB : B ≤ 144115188075855872) (h0 : x0.toNat < B) (h1 : x1.toNat < B) (h2 : x2.toNat < B) (h3 : x3.toNat < B) (h4 : x4.toNat < B) :
    (((((0#64 + x0) + x1) + x2) + x3) + x4).toNat = x0.toNat + x1.toNat + x2.toNat + x3.toNat + x4.toNat := by
  have e0 : (0#64 + x0).toNat = x0.toNat := by simp
  rw [add_nat _ _ (by rw [add_nat _ _ (by rw [add_nat _ _ (by rw [add_nat _ _ (by omega)]; omega), add_nat _ _ (by omega)]; omega), add_nat _ _ (by rw [add_nat _ _ (by omega)]; omega), add_nat _ _ (by omega)]; omega),
    add_nat _ _ (by rw [add_nat _ _ (by rw [add_nat _ _ (by omega)]; omega), add_nat _ _ (by omega)]; omega), add_nat _ _ (by rw [add_nat _ _ (by omega)]; omega), add_nat _ _ (by omega), e0]
theorem poly (a0 a1 a2 a3 a4 b0 b1 b2 b3 b4 : Nat) : (1 * a0 + 67108864 * a1 + 4503599627370496 * a2 + 302231454903657293676544 * a3 + 20282409603651670423947251286016 * a4) * (1 * b0 + 67108864 * b1 + 4503599627370496 * b2 + 302231454903657293676544 * b3 + 20282409603651670423947251286016 * b4) =
    1 * (a0 * b0) + 67108864 * (a0 * b1) + 4503599627370496 * (a0 * b2) + 302231454903657293676544 * (a0 * b3) + 20282409603651670423947251286016 * (a0 * b4) + 67108864 * (a1 * b0) + 4503599627370496 * (a1 * b1) + 302231454903657293676544 * (a1 * b2) + 20282409603651670423947251286016 * (a1 * b3) + 1361129467683753853853498429727072845824 * (a1 * b4) + 4503599627370496 * (a2 * b0) + 302231454903657293676544 * (a2 * b1) + 20282409603651670423947251286016 * (a2 * b2) + 1361129467683753853853498429727072845824 * (a2 * b3) + 91343852333181432387730302044767688728495783936 * (a2 * b4) + 302231454903657293676544 * (a3 * b0) + 20282409603651670423947251286016 * (a3 * b1) + 1361129467683753853853498429727072845824 * (a3 * b2) + 91343852333181432387730302044767688728495783936 * (a3 * b3) + 6129982163463555433433388108601236734474956488734408704 * (a3 * b4) + 20282409603651670423947251286016 * (a4 * b0) + 1361129467683753853853498429727072845824 * (a4 * b1) + 91343852333181432387730302044767688728495783936 * (a4 * b2) + 6129982163463555433433388108601236734474956488734408704 * (a4 * b3) + 411376139330301510538742295639337626245683966408394965837152256 * (a4 * b4) := by
  simp only [Nat.add_mul, Nat.mul_add]
  rw [Nat.mul_mul_mul_comm 1 a0 1 b0]
  rw [Nat.mul_mul_mul_comm 1 a0 67108864 b1]
  rw [Nat.mul_mul_mul_comm 1 a0 4503599627370496 b2]
  rw [Nat.mul_mul_mul_comm 1 a0 302231454903657293676544 b3]
  rw [Nat.mul_mul_mul_comm 1 a0 20282409603651670423947251286016 b4]
  rw [Nat.mul_mul_mul_comm 67108864 a1 1 b0]
  rw [Nat.mul_mul_mul_comm 67108864 a1 67108864 b1]
  rw [Nat.mul_mul_mul_comm 67108864 a1 4503599627370496 b2]
  rw [Nat.mul_mul_mul_comm 67108864 a1 302231454903657293676544 b3]
  rw [Nat.mul_mul_mul_comm 67108864 a1 20282409603651670423947251286016 b4]
  rw [Nat.mul_mul_mul_comm 4503599627370496 a2 1 b0]
  rw [Nat.mul_mul_mul_comm 4503599627370496 a2 67108864 b1]
  rw [Nat.mul_mul_mul_comm 4503599627370496 a2 4503599627370496 b2]
  rw [Nat.mul_mul_mul_comm 4503599627370496 a2 302231454903657293676544 b3]
  rw [Nat.mul_mul_mul_comm 4503599627370496 a2 20282409603651670423947251286016 b4]
  rw [Nat.mul_mul_mul_comm 302231454903657293676544 a3 1 b0]
  rw [Nat.mul_mul_mul_comm 302231454903657293676544 a3 67108864 b1]
  rw [Nat.mul_mul_mul_comm 302231454903657293676544 a3 4503599627370496 b2]
  rw [Nat.mul_mul_mul_comm 302231454903657293676544 a3 302231454903657293676544 b3]
  rw [Nat.mul_mul_mul_comm 302231454903657293676544 a3 20282409603651670423947251286016 b4]
  rw [Nat.mul_mul_mul_comm 20282409603651670423947251286016 a4 1 b0]
  rw [Nat.mul_mul_mul_comm 20282409603651670423947251286016 a4 67108864 b1]
  rw [Nat.mul_mul_mul_comm 20282409603651670423947251286016 a4 4503599627370496 b2]
  rw [Nat.mul_mul_mul_comm 20282409603651670423947251286016 a4 302231454903657293676544 b3]
  rw [Nat.mul_mul_mul_comm 20282409603651670423947251286016 a4 20282409603651670423947251286016 b4]
  omega
theorem mul_val (a b : List (BitVec 64)) (ha : a.length = 5) (hb : b.length = 5) (hA : below 268435456 a) (hB : below 67108864 b) : Over (v5 a * v5 b) (v5 (mulAll a b 5)) ∧ below 1152921504606846976 (mulAll a b 5) := by
  obtain ⟨a0, a1, a2, a3, a4, rfl⟩ := five ha
  obtain ⟨b0, b1, b2, b3, b4, rfl⟩ := five hb
  obtain ⟨hA0, hA1, hA2, hA3, hA4⟩ := hA
  obtain ⟨hB0, hB1, hB2, hB3, hB4⟩ := hB
  have hA0 : a0.toNat < 268435456 := hA0
  have hB0 : b0.toNat < 67108864 := hB0
  have hA1 : a1.toNat < 268435456 := hA1
  have hB1 : b1.toNat < 67108864 := hB1
  have hA2 : a2.toNat < 268435456 := hA2
  have hB2 : b2.toNat < 67108864 := hB2
  have hA3 : a3.toNat < 268435456 := hA3
  have hB3 : b3.toNat < 67108864 := hB3
  have hA4 : a4.toNat < 268435456 := hA4
  have hB4 : b4.toNat < 67108864 := hB4
  rw [mulAll5]
  obtain ⟨p00, q00⟩ := prod_nat a0 b0 hA0 hB0
  obtain ⟨p01, q01⟩ := prod_nat a0 b1 hA0 hB1
  obtain ⟨p02, q02⟩ := prod_nat a0 b2 hA0 hB2
  obtain ⟨p03, q03⟩ := prod_nat a0 b3 hA0 hB3
  obtain ⟨p04, q04⟩ := prod_nat a0 b4 hA0 hB4
  obtain ⟨p10, q10⟩ := prod_nat a1 b0 hA1 hB0
  obtain ⟨p11, q11⟩ := prod_nat a1 b1 hA1 hB1
  obtain ⟨p12, q12⟩ := prod_nat a1 b2 hA1 hB2
  obtain ⟨p13, q13⟩ := prod_nat a1 b3 hA1 hB3
  obtain ⟨p14, q14⟩ := prod_nat a1 b4 hA1 hB4
  have f14 := prod5_nat a1 b4 hA1 hB4
  obtain ⟨p20, q20⟩ := prod_nat a2 b0 hA2 hB0
  obtain ⟨p21, q21⟩ := prod_nat a2 b1 hA2 hB1
  obtain ⟨p22, q22⟩ := prod_nat a2 b2 hA2 hB2
  obtain ⟨p23, q23⟩ := prod_nat a2 b3 hA2 hB3
  have f23 := prod5_nat a2 b3 hA2 hB3
  obtain ⟨p24, q24⟩ := prod_nat a2 b4 hA2 hB4
  have f24 := prod5_nat a2 b4 hA2 hB4
  obtain ⟨p30, q30⟩ := prod_nat a3 b0 hA3 hB0
  obtain ⟨p31, q31⟩ := prod_nat a3 b1 hA3 hB1
  obtain ⟨p32, q32⟩ := prod_nat a3 b2 hA3 hB2
  have f32 := prod5_nat a3 b2 hA3 hB2
  obtain ⟨p33, q33⟩ := prod_nat a3 b3 hA3 hB3
  have f33 := prod5_nat a3 b3 hA3 hB3
  obtain ⟨p34, q34⟩ := prod_nat a3 b4 hA3 hB4
  have f34 := prod5_nat a3 b4 hA3 hB4
  obtain ⟨p40, q40⟩ := prod_nat a4 b0 hA4 hB0
  obtain ⟨p41, q41⟩ := prod_nat a4 b1 hA4 hB1
  have f41 := prod5_nat a4 b1 hA4 hB1
  obtain ⟨p42, q42⟩ := prod_nat a4 b2 hA4 hB2
  have f42 := prod5_nat a4 b2 hA4 hB2
  obtain ⟨p43, q43⟩ := prod_nat a4 b3 hA4 hB3
  have f43 := prod5_nat a4 b3 hA4 hB3
  obtain ⟨p44, q44⟩ := prod_nat a4 b4 hA4 hB4
  have f44 := prod5_nat a4 b4 hA4 hB4
  have hP := poly a0.toNat a1.toNat a2.toNat a3.toNat a4.toNat b0.toNat b1.toNat b2.toNat b3.toNat b4.toNat
  simp only [Nat.one_mul] at hP
  have s0 : ((((((0#64 + a0 * b0) + a1 * b4 * 5#64) + a2 * b3 * 5#64) + a3 * b2 * 5#64) + a4 * b1 * 5#64)).toNat = a0.toNat * b0.toNat + 5 * (a1.toNat * b4.toNat) + 5 * (a2.toNat * b3.toNat) + 5 * (a3.toNat * b2.toNat) + 5 * (a4.toNat * b1.toNat) := by
    rw [sum5_nat _ _ _ _ _ 90071992547409920 (by decide) (by rw [p00]; omega) (by rw [f14]; omega) (by rw [f23]; omega) (by rw [f32]; omega) (by rw [f41]; omega), p00, f14, f23, f32, f41]
  have s1 : ((((((0#64 + a0 * b1) + a1 * b0) + a2 * b4 * 5#64) + a3 * b3 * 5#64) + a4 * b2 * 5#64)).toNat = a0.toNat * b1.toNat + a1.toNat * b0.toNat + 5 * (a2.toNat * b4.toNat) + 5 * (a3.toNat * b3.toNat) + 5 * (a4.toNat * b2.toNat) := by
    rw [sum5_nat _ _ _ _ _ 90071992547409920 (by decide) (by rw [p01]; omega) (by rw [p10]; omega) (by rw [f24]; omega) (by rw [f33]; omega) (by rw [f42]; omega), p01, p10, f24, f33, f42]
  have s2 : ((((((0#64 + a0 * b2) + a1 * b1) + a2 * b0) + a3 * b4 * 5#64) + a4 * b3 * 5#64)).toNat = a0.toNat * b2.toNat + a1.toNat * b1.toNat + a2.toNat * b0.toNat + 5 * (a3.toNat * b4.toNat) + 5 * (a4.toNat * b3.toNat) := by
    rw [sum5_nat _ _ _ _ _ 90071992547409920 (by decide) (by rw [p02]; omega) (by rw [p11]; omega) (by rw [p20]; omega) (by rw [f34]; omega) (by rw [f43]; omega), p02, p11, p20, f34, f43]
  have s3 : ((((((0#64 + a0 * b3) + a1 * b2) + a2 * b1) + a3 * b0) + a4 * b4 * 5#64)).toNat = a0.toNat * b3.toNat + a1.toNat * b2.toNat + a2.toNat * b1.toNat + a3.toNat * b0.toNat + 5 * (a4.toNat * b4.toNat) := by
    rw [sum5_nat _ _ _ _ _ 90071992547409920 (by decide) (by rw [p03]; omega) (by rw [p12]; omega) (by rw [p21]; omega) (by rw [p30]; omega) (by rw [f44]; omega), p03, p12, p21, p30, f44]
  have s4 : ((((((0#64 + a0 * b4) + a1 * b3) + a2 * b2) + a3 * b1) + a4 * b0)).toNat = a0.toNat * b4.toNat + a1.toNat * b3.toNat + a2.toNat * b2.toNat + a3.toNat * b1.toNat + a4.toNat * b0.toNat := by
    rw [sum5_nat _ _ _ _ _ 90071992547409920 (by decide) (by rw [p04]; omega) (by rw [p13]; omega) (by rw [p22]; omega) (by rw [p31]; omega) (by rw [p40]; omega), p04, p13, p22, p31, p40]
  refine ⟨⟨1 * (a1.toNat * b4.toNat) + 1 * (a2.toNat * b3.toNat) + 67108864 * (a2.toNat * b4.toNat) + 1 * (a3.toNat * b2.toNat) + 67108864 * (a3.toNat * b3.toNat) + 4503599627370496 * (a3.toNat * b4.toNat) + 1 * (a4.toNat * b1.toNat) + 67108864 * (a4.toNat * b2.toNat) + 4503599627370496 * (a4.toNat * b3.toNat) + 302231454903657293676544 * (a4.toNat * b4.toNat), ?_⟩, ?_, ?_, ?_, ?_, ?_⟩
  · rw [v5_eq, v5_eq, v5_eq, s0, s1, s2, s3, s4, hP]
    unfold pP
    clear hP s0 s1 s2 s3 s4 p00 p01 p02 p03 p04 p10 p11 p12 p13 p14 p20 p21 p22 p23 p24 p30 p31 p32 p33 p34 p40 p41 p42 p43 p44 f14 f23 f24 f32 f33 f34 f41 f42 f43 f44 q00 q01 q02 q03 q04 q10 q11 q12 q13 q14 q20 q21 q22 q23 q24 q30 q31 q32 q33 q34 q40 q41 q42 q43 q44
    generalize a0.toNat * b0.toNat = m00
    generalize a0.toNat * b1.toNat = m01
    generalize a0.toNat * b2.toNat = m02
    generalize a0.toNat * b3.toNat = m03
    generalize a0.toNat * b4.toNat = m04
    generalize a1.toNat * b0.toNat = m10
    generalize a1.toNat * b1.toNat = m11
    generalize a1.toNat * b2.toNat = m12
    generalize a1.toNat * b3.toNat = m13
    generalize a1.toNat * b4.toNat = m14
    generalize a2.toNat * b0.toNat = m20
    generalize a2.toNat * b1.toNat = m21
    generalize a2.toNat * b2.toNat = m22
    generalize a2.toNat * b3.toNat = m23
    generalize a2.toNat * b4.toNat = m24
    generalize a3.toNat * b0.toNat = m30
    generalize a3.toNat * b1.toNat = m31
    generalize a3.toNat * b2.toNat = m32
    generalize a3.toNat * b3.toNat = m33
    generalize a3.toNat * b4.toNat = m34
    generalize a4.toNat * b0.toNat = m40
    generalize a4.toNat * b1.toNat = m41
    generalize a4.toNat * b2.toNat = m42
    generalize a4.toNat * b3.toNat = m43
    generalize a4.toNat * b4.toNat = m44
    omega
  · show BitVec.toNat ((((((0#64 + a0 * b0) + a1 * b4 * 5#64) + a2 * b3 * 5#64) + a3 * b2 * 5#64) + a4 * b1 * 5#64)) < _
    rw [s0]
    omega
  · show BitVec.toNat ((((((0#64 + a0 * b1) + a1 * b0) + a2 * b4 * 5#64) + a3 * b3 * 5#64) + a4 * b2 * 5#64)) < _
    rw [s1]
    omega
  · show BitVec.toNat ((((((0#64 + a0 * b2) + a1 * b1) + a2 * b0) + a3 * b4 * 5#64) + a4 * b3 * 5#64)) < _
    rw [s2]
    omega
  · show BitVec.toNat ((((((0#64 + a0 * b3) + a1 * b2) + a2 * b1) + a3 * b0) + a4 * b4 * 5#64)) < _
    rw [s3]
    omega
  · show BitVec.toNat ((((((0#64 + a0 * b4) + a1 * b3) + a2 * b2) + a3 * b1) + a4 * b0)) < _
    rw [s4]
    omega
end Go.Proofs.Ytcjponmaeamjdaa
/- Bytes as a number, and words of 26 bits of it. No program in sight. -/
namespace Go.Proofs.Ytcjponmaeamjdaa
open Go.RowKit
theorem times_val (a b : List (BitVec 64)) (ha : a.length = 5) (hb : b.length = 5) (hA : below 268435456 a) (hB : below 67108864 b) : Over (v5 a * v5 b) (v5 (timesL a b)) ∧ belowF 67108869 (timesL a b) := by
  obtain ⟨⟨k, hk⟩, h1⟩ := mul_val a b ha hb hA hB
  have hl := mulAll_length a b 5
  have h2 := carry_big _ hl h1
  have hl2 : (carriedL (mulAll a b 5)).length = 5 := by rw [carriedL_length, hl]
  obtain ⟨k2, hk2⟩ := carry_any _ hl (by unfold below at *; omega)
  obtain ⟨k3, hk3⟩ := carry_any _ hl2 (by unfold below; unfold belowF at h2; omega)
  rw [timesL_eq]
  refine ⟨⟨k + k2 + k3, ?_⟩, carry_mid _ hl2 h2⟩
  rw [hk, hk2, hk3, Nat.add_mul, Nat.add_mul]
  omega
/-- The number that bytes are, the lowest first. -/
def bN (l : List (BitVec 8)) : Nat := l.foldr (fun x n => x.toNat + 256 * n) 0
theorem bN_nil : bN [] = 0 := rfl
theorem bN_cons (x : BitVec 8) (l : List (BitVec 8)) : bN (x :: l) = x.toNat + 256 * bN l := rfl
theorem bN_lt (l : List (BitVec 8)) : bN l < 256 ^ l.length := by
  induction l with
  | nil => decide
  | cons x l ih =>
    rw [bN_cons, List.length_cons, Nat.pow_succ]
    have := x.isLt
    omega
theorem nth_bN (l : List (BitVec 8)) (k : Nat) : (nth l k).toNat = bN l / 256 ^ k % 256 := by
  induction l generalizing k with
  | nil => simp [nth, bN]
  | cons x l ih =>
    have hx := x.isLt
    rw [bN_cons]
    cases k with
    | zero =>
      show x.toNat = _
      rw [Nat.pow_zero, Nat.div_one]
      omega
    | succ k =>
      show (nth l k).toNat = _
      rw [ih k, Nat.pow_succ, Nat.mul_comm (256 ^ k) 256, ← Nat.div_div_eq_div_mul]
      congr 2
      omega
theorem bN_append (a b : List (BitVec 8)) : bN (a ++ b) = bN a + 256 ^ a.length * bN b := by
  induction a with
  | nil => simp [bN_nil]
  | cons x a ih =>
    rw [List.cons_append, bN_cons, bN_cons, ih, List.length_cons, Nat.pow_succ, Nat.mul_add, Nat.mul_comm (256 ^ a.length) 256, Nat.mul_assoc]
    omega
theorem or_add (a b : BitVec 64) (k : Nat) (hk : k < 64) (h : a.toNat < 2 ^ k) (hb : b.toNat < 2 ^ (64 - k)) : (a ||| (b <<< k)).toNat = a.toNat + b.toNat * 2 ^ k := by
  have hp : 2 ^ (64 - k) * 2 ^ k = 2 ^ 64 := by rw [← Nat.pow_add]; congr 1; omega
  have h1 : b.toNat * 2 ^ k < 2 ^ 64 := by rw [← hp]; exact Nat.mul_lt_mul_of_pos_right hb (Nat.two_pow_pos k)
  rw [BitVec.toNat_or, BitVec.toNat_shiftLeft, Nat.shiftLeft_eq, Nat.mod_eq_of_lt h1, Nat.or_comm, Nat.mul_comm, ← Nat.two_pow_add_eq_or_of_lt h]
  omega
/-- Low bytes from a place on. -/
theorem lowAt_nat (r : List (BitVec 8)) (o n : Nat) (hn : n ≤ 8) : (lowAt r o n).toNat = bN r / 256 ^ o % 256 ^ n := by
  induction n with
  | zero => simp [lowAt, Nat.mod_one]
  | succ n ih =>
    have ih := ih (by omega)
    have e : (256 : Nat) ^ n = 2 ^ (8 * n) := by rw [Nat.pow_mul]
    have hlt : (lowAt r o n).toNat < 2 ^ (8 * n) := by rw [ih, e]; exact Nat.mod_lt _ (Nat.two_pow_pos _)
    have hw : ((nth r (o + n)).setWidth 64).toNat = (nth r (o + n)).toNat := by
      rw [BitVec.toNat_setWidth, Nat.mod_eq_of_lt]
      have := (nth r (o + n)).isLt
      omega
    have hb : ((nth r (o + n)).setWidth 64).toNat < 2 ^ (64 - 8 * n) := by
      rw [hw]
      have h1 := (nth r (o + n)).isLt
      have h2 : 2 ^ 8 ≤ 2 ^ (64 - 8 * n) := Nat.pow_le_pow_right (by omega) (by omega)
      omega
    rw [lowAt, or_add _ _ _ (by omega) hlt hb, hw, ih, nth_bN, Nat.pow_add, ← Nat.div_div_eq_div_mul, ← e]
    generalize bN r / 256 ^ o = x
    rw [Nat.pow_succ, Nat.mod_mul, Nat.mul_comm (256 ^ n) (x / 256 ^ n % 256)]
end Go.Proofs.Ytcjponmaeamjdaa
/- Pieces and keys as numbers. No program in sight. -/
namespace Go.Proofs.Ytcjponmaeamjdaa
open Go.RowKit
theorem cut26 (X s : Nat) (hs : s < 8) : X % 1099511627776 / 2 ^ s % 67108864 = X / 2 ^ s % 67108864 := by
  match s, hs with
  | 0, _ => omega
  | 1, _ => omega
  | 2, _ => omega
  | 3, _ => omega
  | 4, _ => omega
  | 5, _ => omega
  | 6, _ => omega
  | 7, _ => omega
theorem wordAt_nat (r : List (BitVec 8)) (i : Nat) (hi : i / 8 ≤ r.length) : (wordAt r i).toNat = bN r / 2 ^ i % 67108864 := by
  have hpow : (256 : Nat) ^ (i / 8) * 2 ^ (i % 8) = 2 ^ i := by
    rw [show (256 : Nat) = 2 ^ 8 from rfl, ← Nat.pow_mul, ← Nat.pow_add]
    congr 1
    omega
  have hs : i % 8 < 8 := Nat.mod_lt _ (by omega)
  unfold wordAt
  rw [and26, BitVec.toNat_ushiftRight, Nat.shiftRight_eq_div_pow, lowAt_nat _ _ _ (by omega), ← hpow, ← Nat.div_div_eq_div_mul]
  by_cases h5 : i / 8 + 5 ≤ r.length
  · rw [show min (i / 8 + 5) r.length - i / 8 = 5 by omega]
    exact cut26 _ _ hs
  · have h1 := bN_lt r
    have h2 : (256 : Nat) ^ r.length = 256 ^ (i / 8) * 256 ^ (min (i / 8 + 5) r.length - i / 8) := by rw [← Nat.pow_add]; congr 1; omega
    have h3 : bN r / 256 ^ (i / 8) < 256 ^ (min (i / 8 + 5) r.length - i / 8) := Nat.div_lt_of_lt_mul (by rw [← h2]; exact h1)
    rw [Nat.mod_eq_of_lt h3]
theorem words_val (b : List (BitVec 8)) (hl : b.length = 17) (h : bN b < 1361129467683753853853498429727072845824) : v5 (wordsL b 5) = bN b ∧ below 67108864 (wordsL b 5) := by
  have e : wordsL b 5 = [wordAt b 0, wordAt b 26, wordAt b 52, wordAt b 78, wordAt b 104] := rfl
  have w0 := wordAt_nat b 0 (by omega)
  have w1 := wordAt_nat b 26 (by omega)
  have w2 := wordAt_nat b 52 (by omega)
  have w3 := wordAt_nat b 78 (by omega)
  have w4 := wordAt_nat b 104 (by omega)
  rw [e]
  refine ⟨?_, ?_, ?_, ?_, ?_, ?_⟩
  · rw [v5_eq, w0, w1, w2, w3, w4]
    omega
  · show (wordAt b 0).toNat < _
    omega
  · show (wordAt b 26).toNat < _
    omega
  · show (wordAt b 52).toNat < _
    omega
  · show (wordAt b 78).toNat < _
    omega
  · show (wordAt b 104).toNat < _
    omega
theorem hAdd_val (p : List (BitVec 8)) (h : List (BitVec 64)) (hl : p.length = 17) (hh : h.length = 5) (hp : bN p < 1361129467683753853853498429727072845824) (hF : belowF 67108869 h) : v5 (hAdd p h 5) = v5 h + bN p ∧ below 268435456 (hAdd p h 5) := by
  obtain ⟨a, b, c, d, e, rfl⟩ := five hh
  obtain ⟨ha, hb, hc, hd, he⟩ := hF
  have ha : a.toNat < 67108869 := ha
  have hb : b.toNat < 67108864 := hb
  have hc : c.toNat < 67108864 := hc
  have hd : d.toNat < 67108864 := hd
  have he : e.toNat < 67108864 := he
  have w0 := wordAt_nat p 0 (by omega)
  have w1 := wordAt_nat p 26 (by omega)
  have w2 := wordAt_nat p 52 (by omega)
  have w3 := wordAt_nat p 78 (by omega)
  have w4 := wordAt_nat p 104 (by omega)
  have eq : hAdd p [a, b, c, d, e] 5 = [a + wordAt p 0, b + wordAt p 26, c + wordAt p 52, d + wordAt p 78, e + wordAt p 104] := rfl
  have s0 := add_nat a (wordAt p 0) (by omega)
  have s1 := add_nat b (wordAt p 26) (by omega)
  have s2 := add_nat c (wordAt p 52) (by omega)
  have s3 := add_nat d (wordAt p 78) (by omega)
  have s4 := add_nat e (wordAt p 104) (by omega)
  rw [eq]
  refine ⟨?_, ?_, ?_, ?_, ?_, ?_⟩
  · rw [v5_eq, v5_eq, s0, s1, s2, s3, s4, w0, w1, w2, w3, w4]
    omega
  · show (a + wordAt p 0).toNat < _
    omega
  · show (b + wordAt p 26).toNat < _
    omega
  · show (c + wordAt p 52).toNat < _
    omega
  · show (d + wordAt p 78).toNat < _
    omega
  · show (e + wordAt p 104).toNat < _
    omega
theorem padL_bN (l : List (BitVec 8)) (k : Nat) : bN (padL l k) = bN l := by
  induction k with
  | zero => rfl
  | succ k ih => rw [padL, bN_append, ih]; simp [bN]
/-- A piece's number. -/
def pieceN (t : List (BitVec 8)) (i : Nat) : Nat := bN (cut t i (min (i + 16) t.length - i)) + 256 ^ (min (i + 16) t.length - i)
theorem piece_val (t : List (BitVec 8)) (i : Nat) (hi : i ≤ t.length) : bN (padL (piece t i) (17 - (piece t i).length)) = pieceN t i ∧ (padL (piece t i) (17 - (piece t i).length)).length = 17 ∧ pieceN t i < 1361129467683753853853498429727072845824 := by
  have hc : (cut t i (min (i + 16) t.length - i)).length = min (i + 16) t.length - i := by rw [cut_length]; omega
  have hlen : (piece t i).length = min (i + 16) t.length - i + 1 := by unfold piece; rw [List.length_append, hc]; rfl
  refine ⟨?_, by rw [padL_length, hlen]; omega, ?_⟩
  · rw [padL_bN]
    unfold piece pieceN
    rw [bN_append, hc]
    simp [bN]
  · unfold pieceN
    have h1 := bN_lt (cut t i (min (i + 16) t.length - i))
    rw [hc] at h1
    have h2 : (256 : Nat) ^ (min (i + 16) t.length - i) ≤ 256 ^ 16 := Nat.pow_le_pow_right (by omega) (by omega)
    have h3 : (256 : Nat) ^ 16 = 340282366920938463463374607431768211456 := by decide
    omega
/-- What is gathered, in numbers. -/
def accN (r : Nat) (t : List (BitVec 8)) : Nat → Nat
  | 0 => 0
  | q + 1 => (accN r t q + pieceN t (16 * q)) * r % pP
theorem tagSt_val (r : List (BitVec 64)) (t : List (BitVec 8)) (hr : r.length = 5) (hR : below 67108864 r) : ∀ q, 16 * q ≤ t.length + 15 → v5 (tagSt r t q) % pP = accN (v5 r) t q ∧ belowF 67108869 (tagSt r t q)
  | 0, _ => ⟨rfl, (by refine ⟨?_, ?_, ?_, ?_, ?_⟩ <;> decide : belowF 67108869 (zer64 5))⟩
  | q + 1, hq => by
    obtain ⟨h1, h2⟩ := tagSt_val r t hr hR q (by omega)
    obtain ⟨p1, p2, p3⟩ := piece_val t (16 * q) (by omega)
    obtain ⟨a1, a2⟩ := hAdd_val _ _ p2 (tagSt_length r t q) (by rw [p1]; exact p3) h2
    obtain ⟨m1, m2⟩ := times_val _ r (by rw [hAdd_length, tagSt_length]) hr a2 hR
    rw [tagSt, accN]
    refine ⟨?_, m2⟩
    rw [← m1.mod, a1, p1, ← h1]
    rw [Nat.mul_mod (v5 (tagSt r t q) + _), Nat.mul_mod (v5 (tagSt r t q) % pP + _), Nat.mod_add_mod]
end Go.Proofs.Ytcjponmaeamjdaa
/- What poly.tag tells, as a number. No program in sight. (Printed by a program.) -/
namespace Go.Proofs.Ytcjponmaeamjdaa
open Go.RowKit
theorem or_cut (a b : BitVec 64) (k : Nat) (hk : k < 64) (h : a.toNat < 2 ^ k) : (a ||| (b <<< k)).toNat = a.toNat + (b.toNat % 2 ^ (64 - k)) * 2 ^ k := by
  have hp : 2 ^ 64 = 2 ^ (64 - k) * 2 ^ k := by rw [← Nat.pow_add]; congr 1; omega
  rw [BitVec.toNat_or, BitVec.toNat_shiftLeft, Nat.shiftLeft_eq, hp, Nat.mul_mod_mul_right, Nat.or_comm, Nat.mul_comm, ← Nat.two_pow_add_eq_or_of_lt h]
  omega
theorem small_mid {l : List (BitVec 64)} (h : belowF 67108864 l) : belowF 67108869 l := by unfold belowF at *; omega
theorem modL_val (h : List (BitVec 64)) (hl : h.length = 5) (hF : belowF 67108869 h) : v5 (modL h) = v5 h % pP ∧ belowF 67108864 (modL h) ∧ (modL h).length = 5 := by
  have l1 : (carriedL h).length = 5 := by rw [carriedL_length, hl]
  have l2 : (carriedL (carriedL h)).length = 5 := by rw [carriedL_length, l1]
  have l3 : (carriedL (carriedL (carriedL h))).length = 5 := by rw [carriedL_length, l2]
  have f1 := carry_small h hl hF
  have f2 := carry_small _ l1 (small_mid f1)
  have f3 := carry_small _ l2 (small_mid f2)
  have o1 := (carry_any h hl (by unfold below; unfold belowF at hF; omega)).mod
  have o2 := (carry_any _ l1 (by unfold below; unfold belowF at f1; omega)).mod
  have o3 := (carry_any _ l2 (by unfold below; unfold belowF at f2; omega)).mod
  have hM := modL_eq h _ rfl
  rw [o1, o2, o3, hM]
  clear o1 o2 o3 hM f1 f2 hF
  generalize carriedL (carriedL (carriedL h)) = S at *
  obtain ⟨a, b, c, d, e, rfl⟩ := five l3
  obtain ⟨ha, hb, hc, hd, he⟩ := f3
  have ha : a.toNat < 67108864 := ha
  have hb : b.toNat < 67108864 := hb
  have hc : c.toNat < 67108864 := hc
  have hd : d.toNat < 67108864 := hd
  have he : e.toNat < 67108864 := he
  have h5 : (a + 5#64).toNat = a.toNat + 5 := add_nat a 5#64 (by show _ + 5 < _; omega)
  have hput : put [a, b, c, d, e] 0 (nth [a, b, c, d, e] 0 + 5#64) = [a + 5#64, b, c, d, e] := rfl
  rw [hput]
  obtain ⟨y0, y1, y2, y3, y4, k, c1, c2, c3, c4, hE, ⟨h0, h1, h2, h3, h4⟩⟩ := carrySt5 (a + 5#64) b c d e (by
    refine ⟨?_, ?_, ?_, ?_, ?_⟩
    · show (a + 5#64).toNat < _
      omega
    · show b.toNat < _
      omega
    · show c.toNat < _
      omega
    · show d.toNat < _
      omega
    · show e.toNat < _
      omega)
  rw [hE]
  dsimp only
  rw [h5] at h0
  by_cases hk : 0 < k.toNat
  · rw [if_pos hk]
    refine ⟨?_, ⟨h0.2, h1.2, h2.2, h3.2, h4.2⟩, rfl⟩
    have hk1 : k.toNat = 1 := by omega
    have hV : v5 [a, b, c, d, e] = v5 [y0, y1, y2, y3, y4] + pP := by
      rw [v5_eq, v5_eq]
      unfold pP
      omega
    have hlt : v5 [y0, y1, y2, y3, y4] < pP := by
      have : v5 [a, b, c, d, e] < 1361129467683753853853498429727072845824 := by rw [v5_eq]; omega
      unfold pP at *
      omega
    rw [hV, Nat.add_mod_right, Nat.mod_eq_of_lt hlt]
  · rw [if_neg hk]
    refine ⟨?_, ⟨ha, hb, hc, hd, he⟩, rfl⟩
    rw [v5_eq]
    unfold pP
    omega
theorem loL_eq (h : List (BitVec 64)) : loL h = (nth h 0 ||| (nth h 1 <<< 26)) ||| (nth h 2 <<< 52) := by with_unfolding_all rfl
theorem hiL_eq (h : List (BitVec 64)) : hiL h = ((nth h 2 >>> 12) ||| (nth h 3 <<< 14)) ||| (nth h 4 <<< 40) := by with_unfolding_all rfl
theorem half_val (l : List (BitVec 64)) (hl : l.length = 5) (hF : belowF 67108864 l) : (loL l).toNat + 18446744073709551616 * (hiL l).toNat = v5 l % 340282366920938463463374607431768211456 := by
  obtain ⟨a, b, c, d, e, rfl⟩ := five hl
  obtain ⟨ha, hb, hc, hd, he⟩ := hF
  have ha : a.toNat < 67108864 := ha
  have hb : b.toNat < 67108864 := hb
  have hc : c.toNat < 67108864 := hc
  have hd : d.toNat < 67108864 := hd
  have he : e.toNat < 67108864 := he
  have s1 := or_cut a b 26 (by omega) ha
  have s2 := or_cut (a ||| (b <<< 26)) c 52 (by omega) (by rw [s1]; omega)
  have c12 : (c >>> 12).toNat = c.toNat / 4096 := by rw [BitVec.toNat_ushiftRight, Nat.shiftRight_eq_div_pow]
  have t1 := or_cut (c >>> 12) d 14 (by omega) (by rw [c12]; omega)
  have t2 := or_cut ((c >>> 12) ||| (d <<< 14)) e 40 (by omega) (by rw [t1, c12]; omega)
  have hlo : (loL [a, b, c, d, e]).toNat = a.toNat + b.toNat % 2 ^ (64 - 26) * 2 ^ 26 + c.toNat % 2 ^ (64 - 52) * 2 ^ 52 := by rw [loL_eq, ← s1, ← s2]; rfl
  have hhi : (hiL [a, b, c, d, e]).toNat = c.toNat / 4096 + d.toNat % 2 ^ (64 - 14) * 2 ^ 14 + e.toNat % 2 ^ (64 - 40) * 2 ^ 40 := by rw [hiL_eq, ← c12, ← t1, ← t2]; rfl
  rw [hlo, hhi, v5_eq]
  omega
theorem sixteen8 (lo hi : BitVec 64) : sixteen lo hi 8 = [(lo >>> (8 * 0)).setWidth 8, (lo >>> (8 * 1)).setWidth 8, (lo >>> (8 * 2)).setWidth 8, (lo >>> (8 * 3)).setWidth 8, (lo >>> (8 * 4)).setWidth 8, (lo >>> (8 * 5)).setWidth 8, (lo >>> (8 * 6)).setWidth 8, (lo >>> (8 * 7)).setWidth 8, (hi >>> (8 * 0)).setWidth 8, (hi >>> (8 * 1)).setWidth 8, (hi >>> (8 * 2)).setWidth 8, (hi >>> (8 * 3)).setWidth 8, (hi >>> (8 * 4)).setWidth 8, (hi >>> (8 * 5)).setWidth 8, (hi >>> (8 * 6)).setWidth 8, (hi >>> (8 * 7)).setWidth 8] := by kernel_rfl
theorem byte_of (x : BitVec 64) (k : Nat) : ((x >>> k).setWidth 8).toNat = x.toNat / 2 ^ k % 256 := by
  rw [BitVec.toNat_setWidth, BitVec.toNat_ushiftRight, Nat.shiftRight_eq_div_pow]
theorem sixteen_val (lo hi : BitVec 64) : bN (sixteen lo hi 8) = lo.toNat + 18446744073709551616 * hi.toNat := by
  have h1 := lo.isLt
  have h2 := hi.isLt
  rw [sixteen8]
  simp only [bN_cons, bN_nil, byte_of]
  omega
/-- The second half of the key, as a number. -/
def sN (key : List (BitVec 8)) : Nat := bN key / 340282366920938463463374607431768211456 % 340282366920938463463374607431768211456
theorem tagEnd_val (h : List (BitVec 64)) (key : List (BitVec 8)) (hl : h.length = 5) (hF : belowF 67108869 h) : bN (tagEnd h key) = (v5 h % pP + sN key) % 340282366920938463463374607431768211456 := by
  obtain ⟨m1, m2, m3⟩ := modL_val h hl hF
  have hv := half_val _ m3 m2
  have k1 := lowAt_nat key 16 8 (by omega)
  have k2 := lowAt_nat key 24 8 (by omega)
  rw [tagEnd_eq, sixteen_val]
  rw [m1] at hv
  generalize loL (modL h) = lo at *
  generalize hiL (modL h) = hi at *
  have x1 := lo.isLt
  have x2 := hi.isLt
  generalize lowAt key 16 8 = a at *
  generalize lowAt key 24 8 = b at *
  have e1 : (lo + a + 0#64).toNat = (lo.toNat + a.toNat) % 18446744073709551616 := by rw [BitVec.add_zero, BitVec.toNat_add]
  have e2 : (addC lo a 0#64).toNat = (lo.toNat + a.toNat) / 18446744073709551616 := by
    unfold addC
    rw [BitVec.toNat_ofNat]
    show (lo.toNat + a.toNat + 0) / _ % _ = _
    have := a.isLt
    omega
  have e3 : (hi + b + addC lo a 0#64).toNat = (hi.toNat + b.toNat + (lo.toNat + a.toNat) / 18446744073709551616) % 18446744073709551616 := by
    rw [BitVec.toNat_add, BitVec.toNat_add, e2]
    omega
  have hs : sN key = a.toNat + 18446744073709551616 * b.toNat := by
    rw [k1, k2]
    unfold sN
    generalize bN key = N
    omega
  rw [e1, e3, hs]
  generalize v5 h % pP = V at *
  have := a.isLt
  have := b.isLt
  omega
theorem polyTag_val (key t : List (BitVec 8)) (hk : key.length = 32) (r : Nat) (hr : bN (rBytes key) = r) (hr2 : r < 1361129467683753853853498429727072845824) : bN (polyTag key t) = (accN r t ((t.length + 15) / 16) + sN key) % 340282366920938463463374607431768211456 := by
  have hrl : (rBytes key).length = 17 := by unfold rBytes; rw [List.length_append, clampB_length, clampA_length, cut_length]; show min 16 (key.length - 0) + 1 = 17; omega
  obtain ⟨w1, w2⟩ := words_val _ hrl (by rw [hr]; exact hr2)
  obtain ⟨t1, t2⟩ := tagSt_val _ t (wordsL_length (rBytes key) 5) w2 ((t.length + 15) / 16) (by omega)
  unfold polyTag
  rw [tagEnd_val _ key (tagSt_length _ _ _) t2, t1, w1, hr]
end Go.Proofs.Ytcjponmaeamjdaa
/- The walk of trystref01.mod1305. -/
namespace Go.Proofs.Ytcjponmaeamjdaa
open Go.RowKit
/-- What is carried from byte to byte: the bytes, and what is over. -/
def c8St (l : List (BitVec 32)) (c : BitVec 32) : Nat → List (BitVec 32) × BitVec 32
  | 0 => (l, c)
  | k + 1 => (put (c8St l c k).1 k (((c8St l c k).2 + nth (c8St l c k).1 k) &&& 255#32), ((c8St l c k).2 + nth (c8St l c k).1 k) >>> 8)
theorem c8St_succ (l : List (BitVec 32)) (c : BitVec 32) (k : Nat) : c8St l c (k + 1) = (put (c8St l c k).1 k (((c8St l c k).2 + nth (c8St l c k).1 k) &&& 255#32), ((c8St l c k).2 + nth (c8St l c k).1 k) >>> 8) := rfl
theorem c8St_length (l : List (BitVec 32)) (c : BitVec 32) (k : Nat) : (c8St l c k).1.length = l.length := by
  induction k with
  | zero => rfl
  | succ k ih => simp [c8St, ih]
/-- What lies above the bit 130. -/
def topL (a : List (BitVec 32)) : Nat → List (BitVec 32)
  | 0 => zer32 64
  | k + 1 => put (topL a k) k (if k + 17 < 64 then (nth a (k + 16) >>> 2) ||| ((nth a (k + 17) <<< 6) &&& 255#32) else nth a (k + 16) >>> 2)
theorem topL_length (a : List (BitVec 32)) (k : Nat) : (topL a k).length = 64 := by
  induction k with
  | zero => rfl
  | succ k ih => simp [topL, ih]
def zerTail (a : List (BitVec 32)) : Nat → List (BitVec 32)
  | 0 => a
  | k + 1 => put (zerTail a k) (17 + k) 0#32
theorem zerTail_length (a : List (BitVec 32)) (k : Nat) : (zerTail a k).length = a.length := by
  induction k with
  | zero => rfl
  | succ k ih => simp [zerTail, ih]
def addTop (a top : List (BitVec 32)) : Nat → List (BitVec 32)
  | 0 => a
  | k + 1 => put (addTop a top k) k (nth (addTop a top k) k + 5#32 * nth top k)
theorem addTop_length (a top : List (BitVec 32)) (k : Nat) : (addTop a top k).length = a.length := by
  induction k with
  | zero => rfl
  | succ k ih => simp [addTop, ih]
/-- What is above the bit 130, five times, below it. -/
def fold1 (a : List (BitVec 32)) : List (BitVec 32) := addTop (put (zerTail a 47) 16 (nth (zerTail a 47) 16 &&& 3#32)) (topL a 48) 64
def foldL (a : List (BitVec 32)) : Nat → List (BitVec 32)
  | 0 => a
  | k + 1 => fold1 (c8St (foldL a k) 0#32 64).1
theorem foldL_length (a : List (BitVec 32)) (h : a.length = 64) (k : Nat) : (foldL a k).length = 64 := by
  induction k with
  | zero => exact h
  | succ k ih => rw [foldL, fold1, addTop_length, put_length, zerTail_length, c8St_length, ih]
/-- What is left of a number modulo 2^130 - 5. -/
def modR (a : List (BitVec 32)) : List (BitVec 32) :=
  if 4 ≤ (nth (c8St (c8St (foldL a 4) 0#32 64).1 5#32 64).1 16).toNat then put (c8St (c8St (foldL a 4) 0#32 64).1 5#32 64).1 16 (nth (c8St (c8St (foldL a 4) 0#32 64).1 5#32 64).1 16 &&& 3#32) else (c8St (foldL a 4) 0#32 64).1
theorem modR_eq (a A5 G : List (BitVec 32)) (h5 : (c8St (foldL a 4) 0#32 64).1 = A5) (hG : (c8St A5 5#32 64).1 = G) : modR a = if 4 ≤ (nth G 16).toNat then put G 16 (nth G 16 &&& 3#32) else A5 := by subst hG; subst h5; rfl
@[simp] theorem modR_length (a : List (BitVec 32)) (h : a.length = 64) : (modR a).length = 64 := by
  unfold modR
  split <;> simp [c8St_length, foldL_length a h]
attribute [irreducible] modR
set_option maxRecDepth 100000 in
set_option maxHeartbeats 2000000 in
theorem mod1305_ev (a : List (BitVec 32)) (ha : a.length = 64) : Ev Try.prog (.call 40 [.agg (.a32 a)] []) (.val (.agg (.a32 (modR a))) []) := by
  have hM := fun A5 G => modR_eq a A5 G
  refine c_call Try.func40 rfl Try.ntmps40 rfl LEN_ ?_
  refine S_ ?_
  refine c_region ?_
  refine s_memN (m_box BX_ LEN_) APP_ rfl ?_
  refine s_memN (m_alloc al_69 LEN_) APP_ rfl ?_
  refine s_nil ?_
  refine S_ ?_
  refine c_region ?_
  refine s_val (v_assignC rfl) rfl ?_
  refine s_nil ?_
  refine S_ ?_
  refine c_loopC [1, 2, 3] (fun (x : Nat × List (BitVec 32)) => ⟨122, keepT [1, 2, 3] [.c (.ptr 0 0), .c (.ptr 1 0), .c (.val (.int .i64 (x.1)))], [.row true (.a32 (x.2)), .row true (.a32 (zer32 64))]⟩) (fun j => (j, foldL a j)) (4) (by kernel_rfl) ?_ ?_
  · intro q hq
    have h0 : (foldL a q).length = 64 := foldL_length a ha q
    simp only [foldL]
    generalize foldL a q = A at *
    refine S_ ?_
    refine c_region ?_
    first
      | refine s_val (v_moveC rfl) rfl ?_
      | refine s_val (v_moveA rfl) rfl ?_
      | refine s_val (v_moveT rfl) rfl ?_
    first
      | refine s_val (v_lssN (b := 4) rfl rfl) rfl ?_
      | refine s_val (v_lssI rfl rfl) rfl ?_
    refine s_nil ?_
    refine S_ ?_
    refine c_region ?_
    refine s_val (v_assignC rfl) rfl ?_
    refine s_nil ?_
    refine S_ ?_
    refine c_region ?_
    refine s_val (v_assignC rfl) rfl ?_
    refine s_nil ?_
    refine S_ ?_
    refine c_loopC [1, 2, 3, 4, 5] (fun (x : Nat × List (BitVec 32) × BitVec 32) => ⟨122, keepT [1, 2, 3, 4, 5] [.c (.ptr 0 0), .c (.ptr 1 0), .c (.val (.int .i64 (q))), .c (.val (U32 (x.2.2))), .c (.val (.int .i64 (x.1)))], [.row true (.a32 (x.2.1)), .row true (.a32 (zer32 64))]⟩) (fun j => (j, c8St A 0#32 j)) (64) (by kernel_rfl) ?_ ?_
    · intro j hj
      have h1 : (c8St A 0#32 j).1.length = 64 := by rw [c8St_length, h0]
      rw [c8St_succ]
      generalize c8St A 0#32 j = U at *
      obtain ⟨U, C⟩ := U
      dsimp only at h1 ⊢
      refine S_ ?_
      refine c_region ?_
      first
        | refine s_val (v_moveC rfl) rfl ?_
        | refine s_val (v_moveA rfl) rfl ?_
        | refine s_val (v_moveT rfl) rfl ?_
      first
        | refine s_val (v_lssN (b := 64) rfl rfl) rfl ?_
        | refine s_val (v_lssI rfl rfl) rfl ?_
      refine s_nil ?_
      refine S_ ?_
      refine c_region ?_
      first
        | refine s_val (v_moveC rfl) rfl ?_
        | refine s_val (v_moveA rfl) rfl ?_
        | refine s_val (v_moveT rfl) rfl ?_
      first
        | refine s_val (v_moveC rfl) rfl ?_
        | refine s_val (v_moveA rfl) rfl ?_
        | refine s_val (v_moveT rfl) rfl ?_
      first
        | refine s_val (v_idxA1 rfl rfl Try.underlying69 sz_41 (by omega)) rfl ?_
        | refine s_val (v_idxA rfl rfl Try.underlying69 sz_41 (by omega)) rfl ?_
      refine s_val (v_load32 rfl rfl row_41 LT_) rfl ?_
      refine s_val (v_add32 rfl rfl) rfl ?_
      first
        | refine s_val (v_assignC rfl) rfl ?_
        | refine s_val (v_assignA rfl) rfl ?_
        | refine s_val (v_assignT rfl) rfl ?_
      refine s_nil ?_
      refine S_ ?_
      refine c_region ?_
      first
        | refine s_val (v_moveC rfl) rfl ?_
        | refine s_val (v_moveA rfl) rfl ?_
        | refine s_val (v_moveT rfl) rfl ?_
      first
        | refine s_val (v_moveC rfl) rfl ?_
        | refine s_val (v_moveA rfl) rfl ?_
        | refine s_val (v_moveT rfl) rfl ?_
      refine s_val (v_and32 (b := 255#32) rfl rfl) rfl ?_
      first
        | refine s_val (v_idxA1 rfl rfl Try.underlying69 sz_41 (by omega)) rfl ?_
        | refine s_val (v_idxA rfl rfl Try.underlying69 sz_41 (by omega)) rfl ?_
      refine s_store32 rfl rfl rfl sz_41 LT_ SET_ ?_
      refine s_nil ?_
      refine S_ ?_
      refine c_region ?_
      first
        | refine s_val (v_moveC rfl) rfl ?_
        | refine s_val (v_moveA rfl) rfl ?_
        | refine s_val (v_moveT rfl) rfl ?_
      refine s_val (v_shr32n (j := 8) rfl rfl) rfl ?_
      first
        | refine s_val (v_assignC rfl) rfl ?_
        | refine s_val (v_assignA rfl) rfl ?_
        | refine s_val (v_assignT rfl) rfl ?_
      refine s_nil ?_
      refine S_ ?_
      refine c_region ?_
      first
        | refine s_val (v_moveC rfl) rfl ?_
        | refine s_val (v_moveA rfl) rfl ?_
        | refine s_val (v_moveT rfl) rfl ?_
      first
        | refine s_val (v_addN (b := 1) rfl rfl (by omega)) rfl ?_
        | refine s_val (v_addI rfl rfl (by omega)) rfl ?_
      first
        | refine s_val (v_assignC rfl) rfl ?_
        | refine s_val (v_assignA rfl) rfl ?_
        | refine s_val (v_assignT rfl) rfl ?_
      refine s_nil ?_
      exact ⟨_, by kernel_rfl, rfl⟩
    · have h1 : (c8St A 0#32 64).1.length = 64 := by rw [c8St_length, h0]
      generalize (c8St A 0#32 64) = U at *
      obtain ⟨U, C⟩ := U
      dsimp only at h1 ⊢
      unfold fold1
      refine S_ ?_
      refine c_region ?_
      first
        | refine s_val (v_moveC rfl) rfl ?_
        | refine s_val (v_moveA rfl) rfl ?_
        | refine s_val (v_moveT rfl) rfl ?_
      first
        | refine s_val (v_lssN (b := 64) rfl rfl) rfl ?_
        | refine s_val (v_lssI rfl rfl) rfl ?_
      refine s_nil ?_
      refine S_ ?_
      refine c_region ?_
      refine s_memN (m_alloc al_69 LEN_) APP_ rfl ?_
      refine s_nil ?_
      refine S_ ?_
      refine c_region ?_
      refine s_val (v_assignC rfl) rfl ?_
      refine s_nil ?_
      refine S_ ?_
      refine c_loopC [1, 2, 3, 6, 7] (fun (x : Nat × List (BitVec 32)) => ⟨122, keepT [1, 2, 3, 6, 7] [.c (.ptr 0 0), .c (.ptr 1 0), .c (.val (.int .i64 (q))), .c (.ptr 2 0), .c (.val (.int .i64 (x.1)))], [.row true (.a32 (U)), .row true (.a32 (zer32 64)), .row true (.a32 (x.2))]⟩) (fun j => (j, topL U j)) (48) (by kernel_rfl) ?_ ?_
      · intro j hj
        have h2 : (topL U j).length = 64 := topL_length U j
        simp only [topL]
        generalize topL U j = V at *
        refine S_ ?_
        refine c_region ?_
        first
          | refine s_val (v_moveC rfl) rfl ?_
          | refine s_val (v_moveA rfl) rfl ?_
          | refine s_val (v_moveT rfl) rfl ?_
        first
          | refine s_val (v_addN (b := 16) rfl rfl (by omega)) rfl ?_
          | refine s_val (v_addI rfl rfl (by omega)) rfl ?_
        first
          | refine s_val (v_lssN (b := 64) rfl rfl) rfl ?_
          | refine s_val (v_lssI rfl rfl) rfl ?_
        refine s_nil ?_
        refine S_ ?_
        refine c_region ?_
        first
          | refine s_val (v_moveC rfl) rfl ?_
          | refine s_val (v_moveA rfl) rfl ?_
          | refine s_val (v_moveT rfl) rfl ?_
        first
          | refine s_val (v_moveC rfl) rfl ?_
          | refine s_val (v_moveA rfl) rfl ?_
          | refine s_val (v_moveT rfl) rfl ?_
        first
          | refine s_val (v_addN (b := 16) rfl rfl (by omega)) rfl ?_
          | refine s_val (v_addI rfl rfl (by omega)) rfl ?_
        first
          | refine s_val (v_idxA1 rfl rfl Try.underlying69 sz_41 (by omega)) rfl ?_
          | refine s_val (v_idxA rfl rfl Try.underlying69 sz_41 (by omega)) rfl ?_
        refine s_val (v_load32 rfl rfl row_41 LT_) rfl ?_
        refine s_val (v_shr32n (j := 2) rfl rfl) rfl ?_
        first
          | refine s_val (v_idxA1 rfl rfl Try.underlying69 sz_41 (by omega)) rfl ?_
          | refine s_val (v_idxA rfl rfl Try.underlying69 sz_41 (by omega)) rfl ?_
        refine s_store32 rfl rfl rfl sz_41 LT_ SET_ ?_
        refine s_nil ?_
        refine S_ ?_
        refine c_region ?_
        first
          | refine s_val (v_moveC rfl) rfl ?_
          | refine s_val (v_moveA rfl) rfl ?_
          | refine s_val (v_moveT rfl) rfl ?_
        first
          | refine s_val (v_addN (b := 17) rfl rfl (by omega)) rfl ?_
          | refine s_val (v_addI rfl rfl (by omega)) rfl ?_
        first
          | refine s_val (v_lssN (b := 64) rfl rfl) rfl ?_
          | refine s_val (v_lssI rfl rfl) rfl ?_
        refine s_nil ?_
        by_cases h17 : j + 17 < 64
        · rw [if_pos h17]
          refine S_ ?_
          refine c_draw 11 mixed (by kernel_rfl) rfl rfl rfl ?_
          first
            | refine h_val (v_moveC rfl) rfl ?_
            | refine h_val (v_moveA rfl) rfl ?_
            | refine h_val (v_moveT rfl) rfl ?_
          first
            | refine h_val (v_idxA1 rfl rfl Try.underlying69 sz_41 (by omega)) rfl ?_
            | refine h_val (v_idxA rfl rfl Try.underlying69 sz_41 (by omega)) rfl ?_
          refine h_val (v_load32 rfl rfl row_41 LT_) rfl ?_
          first
            | refine h_val (v_moveC rfl) rfl ?_
            | refine h_val (v_moveA rfl) rfl ?_
            | refine h_val (v_moveT rfl) rfl ?_
          first
            | refine h_val (v_addN (b := 17) rfl rfl (by omega)) rfl ?_
            | refine h_val (v_addI rfl rfl (by omega)) rfl ?_
          first
            | refine h_val (v_idxA1 rfl rfl Try.underlying69 sz_41 (by omega)) rfl ?_
            | refine h_val (v_idxA rfl rfl Try.underlying69 sz_41 (by omega)) rfl ?_
          refine h_val (v_load32 rfl rfl row_41 LT_) rfl ?_
          refine h_val (v_shl32n (j := 6) rfl rfl) rfl ?_
          refine h_val (v_and32 (b := 255#32) rfl rfl) rfl ?_
          refine h_val (v_or32 rfl rfl) rfl ?_
          first
            | refine h_val (v_idxA1 rfl rfl Try.underlying69 sz_41 (by omega)) rfl ?_
            | refine h_val (v_idxA rfl rfl Try.underlying69 sz_41 (by omega)) rfl ?_
          refine h_nil ?_
          refine s_store32 rfl rfl rfl sz_41 LT_ SET_ ?_
          refine s_nil ?_
          simp only [put_again, nth_put _ _ _ _ (show j < V.length by omega), if_true]
          refine S_ ?_
          refine c_region ?_
          first
            | refine s_val (v_moveC rfl) rfl ?_
            | refine s_val (v_moveA rfl) rfl ?_
            | refine s_val (v_moveT rfl) rfl ?_
          first
            | refine s_val (v_addN (b := 1) rfl rfl (by omega)) rfl ?_
            | refine s_val (v_addI rfl rfl (by omega)) rfl ?_
          first
            | refine s_val (v_assignC rfl) rfl ?_
            | refine s_val (v_assignA rfl) rfl ?_
            | refine s_val (v_assignT rfl) rfl ?_
          refine s_nil ?_
          exact ⟨_, by kernel_rfl, rfl⟩
        · rw [if_neg h17]
          refine S_ ?_
          refine c_region ?_
          first
            | refine s_val (v_moveC rfl) rfl ?_
            | refine s_val (v_moveA rfl) rfl ?_
            | refine s_val (v_moveT rfl) rfl ?_
          first
            | refine s_val (v_addN (b := 1) rfl rfl (by omega)) rfl ?_
            | refine s_val (v_addI rfl rfl (by omega)) rfl ?_
          first
            | refine s_val (v_assignC rfl) rfl ?_
            | refine s_val (v_assignA rfl) rfl ?_
            | refine s_val (v_assignT rfl) rfl ?_
          refine s_nil ?_
          exact ⟨_, by kernel_rfl, rfl⟩
      · have h2 : (topL U 48).length = 64 := topL_length U 48
        generalize topL U 48 = V at *
        dsimp only
        refine S_ ?_
        refine c_region ?_
        first
          | refine s_val (v_moveC rfl) rfl ?_
          | refine s_val (v_moveA rfl) rfl ?_
          | refine s_val (v_moveT rfl) rfl ?_
        first
          | refine s_val (v_addN (b := 16) rfl rfl (by omega)) rfl ?_
          | refine s_val (v_addI rfl rfl (by omega)) rfl ?_
        first
          | refine s_val (v_lssN (b := 64) rfl rfl) rfl ?_
          | refine s_val (v_lssI rfl rfl) rfl ?_
        refine s_nil ?_
        refine S_ ?_
        refine c_region ?_
        refine s_val (v_assignC rfl) rfl ?_
        refine s_nil ?_
        refine S_ ?_
        refine c_loopC [1, 2, 3, 6, 8] (fun (x : Nat × List (BitVec 32)) => ⟨122, keepT [1, 2, 3, 6, 8] [.c (.ptr 0 0), .c (.ptr 1 0), .c (.val (.int .i64 (q))), .c (.ptr 2 0), .c (.val (.int .i64 (x.1)))], [.row true (.a32 (x.2)), .row true (.a32 (zer32 64)), .row true (.a32 (V))]⟩) (fun j => (17 + j, zerTail U j)) (47) (by kernel_rfl) ?_ ?_
        · intro j hj
          have h3 : (zerTail U j).length = 64 := by rw [zerTail_length, h1]
          simp only [zerTail]
          generalize zerTail U j = W at *
          refine S_ ?_
          refine c_region ?_
          first
            | refine s_val (v_moveC rfl) rfl ?_
            | refine s_val (v_moveA rfl) rfl ?_
            | refine s_val (v_moveT rfl) rfl ?_
          first
            | refine s_val (v_lssN (b := 64) rfl rfl) rfl ?_
            | refine s_val (v_lssI rfl rfl) rfl ?_
          refine s_nil ?_
          refine S_ ?_
          refine c_region ?_
          first
            | refine s_val (v_moveC rfl) rfl ?_
            | refine s_val (v_moveA rfl) rfl ?_
            | refine s_val (v_moveT rfl) rfl ?_
          first
            | refine s_val (v_idxA1 rfl rfl Try.underlying69 sz_41 (by omega)) rfl ?_
            | refine s_val (v_idxA rfl rfl Try.underlying69 sz_41 (by omega)) rfl ?_
          refine s_store32 (w := 0#32) rfl rfl rfl sz_41 LT_ SET_ ?_
          refine s_nil ?_
          refine S_ ?_
          refine c_region ?_
          first
            | refine s_val (v_moveC rfl) rfl ?_
            | refine s_val (v_moveA rfl) rfl ?_
            | refine s_val (v_moveT rfl) rfl ?_
          first
            | refine s_val (v_addN (b := 1) rfl rfl (by omega)) rfl ?_
            | refine s_val (v_addI rfl rfl (by omega)) rfl ?_
          first
            | refine s_val (v_assignC rfl) rfl ?_
            | refine s_val (v_assignA rfl) rfl ?_
            | refine s_val (v_assignT rfl) rfl ?_
          refine s_nil ?_
          exact ⟨_, by kernel_rfl, rfl⟩
        · have h3 : (zerTail U 47).length = 64 := by rw [zerTail_length, h1]
          generalize zerTail U 47 = W at *
          dsimp only
          refine S_ ?_
          refine c_region ?_
          first
            | refine s_val (v_moveC rfl) rfl ?_
            | refine s_val (v_moveA rfl) rfl ?_
            | refine s_val (v_moveT rfl) rfl ?_
          first
            | refine s_val (v_lssN (b := 64) rfl rfl) rfl ?_
            | refine s_val (v_lssI rfl rfl) rfl ?_
          refine s_nil ?_
          refine S_ ?_
          refine c_region ?_
          first
            | refine s_val (v_idxA1 (j := 16) rfl rfl Try.underlying69 sz_41 (by omega)) rfl ?_
            | refine s_val (v_idxA (j := 16) rfl rfl Try.underlying69 sz_41 (by omega)) rfl ?_
          refine s_val (v_load32 rfl rfl row_41 LT_) rfl ?_
          refine s_val (v_and32 (b := 3#32) rfl rfl) rfl ?_
          first
            | refine s_val (v_idxA1 (j := 16) rfl rfl Try.underlying69 sz_41 (by omega)) rfl ?_
            | refine s_val (v_idxA (j := 16) rfl rfl Try.underlying69 sz_41 (by omega)) rfl ?_
          refine s_store32 rfl rfl rfl sz_41 LT_ SET_ ?_
          refine s_nil ?_
          refine S_ ?_
          refine c_region ?_
          refine s_val (v_assignC rfl) rfl ?_
          refine s_nil ?_
          have h4 : (put W 16 (nth W 16 &&& 3#32)).length = 64 := by rw [put_length, h3]
          generalize put W 16 (nth W 16 &&& 3#32) = X at *
          refine S_ ?_
          refine c_loopC [1, 2, 3, 6, 9] (fun (x : Nat × List (BitVec 32)) => ⟨122, keepT [1, 2, 3, 6, 9] [.c (.ptr 0 0), .c (.ptr 1 0), .c (.val (.int .i64 (q))), .c (.ptr 2 0), .c (.val (.int .i64 (x.1)))], [.row true (.a32 (x.2)), .row true (.a32 (zer32 64)), .row true (.a32 (V))]⟩) (fun j => (j, addTop X V j)) (64) (by kernel_rfl) ?_ ?_
          · intro j hj
            have h5 : (addTop X V j).length = 64 := by rw [addTop_length, h4]
            simp only [addTop]
            generalize addTop X V j = Y at *
            refine S_ ?_
            refine c_region ?_
            first
              | refine s_val (v_moveC rfl) rfl ?_
              | refine s_val (v_moveA rfl) rfl ?_
              | refine s_val (v_moveT rfl) rfl ?_
            first
              | refine s_val (v_lssN (b := 64) rfl rfl) rfl ?_
              | refine s_val (v_lssI rfl rfl) rfl ?_
            refine s_nil ?_
            refine S_ ?_
            refine c_draw 9 mixed (by kernel_rfl) rfl rfl rfl ?_
            first
              | refine h_val (v_moveC rfl) rfl ?_
              | refine h_val (v_moveA rfl) rfl ?_
              | refine h_val (v_moveT rfl) rfl ?_
            first
              | refine h_val (v_idxA1 rfl rfl Try.underlying69 sz_41 (by omega)) rfl ?_
              | refine h_val (v_idxA rfl rfl Try.underlying69 sz_41 (by omega)) rfl ?_
            refine h_val (v_load32 rfl rfl row_41 LT_) rfl ?_
            first
              | refine h_val (v_moveC rfl) rfl ?_
              | refine h_val (v_moveA rfl) rfl ?_
              | refine h_val (v_moveT rfl) rfl ?_
            first
              | refine h_val (v_idxA1 rfl rfl Try.underlying69 sz_41 (by omega)) rfl ?_
              | refine h_val (v_idxA rfl rfl Try.underlying69 sz_41 (by omega)) rfl ?_
            refine h_val (v_load32 rfl rfl row_41 LT_) rfl ?_
            refine h_val (v_mul32 (a := 5#32) rfl rfl) rfl ?_
            refine h_val (v_add32 rfl rfl) rfl ?_
            first
              | refine h_val (v_idxA1 rfl rfl Try.underlying69 sz_41 (by omega)) rfl ?_
              | refine h_val (v_idxA rfl rfl Try.underlying69 sz_41 (by omega)) rfl ?_
            refine h_nil ?_
            refine s_store32 rfl rfl rfl sz_41 LT_ SET_ ?_
            refine s_nil ?_
            refine S_ ?_
            refine c_region ?_
            first
              | refine s_val (v_moveC rfl) rfl ?_
              | refine s_val (v_moveA rfl) rfl ?_
              | refine s_val (v_moveT rfl) rfl ?_
            first
              | refine s_val (v_addN (b := 1) rfl rfl (by omega)) rfl ?_
              | refine s_val (v_addI rfl rfl (by omega)) rfl ?_
            first
              | refine s_val (v_assignC rfl) rfl ?_
              | refine s_val (v_assignA rfl) rfl ?_
              | refine s_val (v_assignT rfl) rfl ?_
            refine s_nil ?_
            exact ⟨_, by kernel_rfl, rfl⟩
          · have h5 : (addTop X V 64).length = 64 := by rw [addTop_length, h4]
            generalize addTop X V 64 = Y at *
            dsimp only
            refine S_ ?_
            refine c_region ?_
            first
              | refine s_val (v_moveC rfl) rfl ?_
              | refine s_val (v_moveA rfl) rfl ?_
              | refine s_val (v_moveT rfl) rfl ?_
            first
              | refine s_val (v_lssN (b := 64) rfl rfl) rfl ?_
              | refine s_val (v_lssI rfl rfl) rfl ?_
            refine s_nil ?_
            refine S_ ?_
            refine c_region ?_
            first
              | refine s_val (v_moveC rfl) rfl ?_
              | refine s_val (v_moveA rfl) rfl ?_
              | refine s_val (v_moveT rfl) rfl ?_
            first
              | refine s_val (v_addN (b := 1) rfl rfl (by omega)) rfl ?_
              | refine s_val (v_addI rfl rfl (by omega)) rfl ?_
            first
              | refine s_val (v_assignC rfl) rfl ?_
              | refine s_val (v_assignA rfl) rfl ?_
              | refine s_val (v_assignT rfl) rfl ?_
            refine s_nil ?_
            exact ⟨_, by kernel_rfl, rfl⟩
  · have h0 : (foldL a 4).length = 64 := foldL_length a ha 4
    generalize foldL a 4 = A at *
    dsimp only
    refine S_ ?_
    refine c_region ?_
    first
      | refine s_val (v_moveC rfl) rfl ?_
      | refine s_val (v_moveA rfl) rfl ?_
      | refine s_val (v_moveT rfl) rfl ?_
    first
      | refine s_val (v_lssN (b := 4) rfl rfl) rfl ?_
      | refine s_val (v_lssI rfl rfl) rfl ?_
    refine s_nil ?_
    refine S_ ?_
    refine c_region ?_
    refine s_val (v_assignC rfl) rfl ?_
    refine s_nil ?_
    refine S_ ?_
    refine c_region ?_
    refine s_val (v_assignC rfl) rfl ?_
    refine s_nil ?_
    refine S_ ?_
    refine c_loopC [1, 2, 10, 11] (fun (x : Nat × List (BitVec 32) × BitVec 32) => ⟨122, keepT [1, 2, 10, 11] [.c (.ptr 0 0), .c (.ptr 1 0), .c (.val (U32 (x.2.2))), .c (.val (.int .i64 (x.1)))], [.row true (.a32 (x.2.1)), .row true (.a32 (zer32 64))]⟩) (fun j => (j, c8St A 0#32 j)) (64) (by kernel_rfl) ?_ ?_
    · intro j hj
      have h1 : (c8St A 0#32 j).1.length = 64 := by rw [c8St_length, h0]
      rw [c8St_succ]
      generalize c8St A 0#32 j = U at *
      obtain ⟨U, C⟩ := U
      dsimp only at h1 ⊢
      refine S_ ?_
      refine c_region ?_
      first
        | refine s_val (v_moveC rfl) rfl ?_
        | refine s_val (v_moveA rfl) rfl ?_
        | refine s_val (v_moveT rfl) rfl ?_
      first
        | refine s_val (v_lssN (b := 64) rfl rfl) rfl ?_
        | refine s_val (v_lssI rfl rfl) rfl ?_
      refine s_nil ?_
      refine S_ ?_
      refine c_region ?_
      first
        | refine s_val (v_moveC rfl) rfl ?_
        | refine s_val (v_moveA rfl) rfl ?_
        | refine s_val (v_moveT rfl) rfl ?_
      first
        | refine s_val (v_moveC rfl) rfl ?_
        | refine s_val (v_moveA rfl) rfl ?_
        | refine s_val (v_moveT rfl) rfl ?_
      first
        | refine s_val (v_idxA1 rfl rfl Try.underlying69 sz_41 (by omega)) rfl ?_
        | refine s_val (v_idxA rfl rfl Try.underlying69 sz_41 (by omega)) rfl ?_
      refine s_val (v_load32 rfl rfl row_41 LT_) rfl ?_
      refine s_val (v_add32 rfl rfl) rfl ?_
      first
        | refine s_val (v_assignC rfl) rfl ?_
        | refine s_val (v_assignA rfl) rfl ?_
        | refine s_val (v_assignT rfl) rfl ?_
      refine s_nil ?_
      refine S_ ?_
      refine c_region ?_
      first
        | refine s_val (v_moveC rfl) rfl ?_
        | refine s_val (v_moveA rfl) rfl ?_
        | refine s_val (v_moveT rfl) rfl ?_
      first
        | refine s_val (v_moveC rfl) rfl ?_
        | refine s_val (v_moveA rfl) rfl ?_
        | refine s_val (v_moveT rfl) rfl ?_
      refine s_val (v_and32 (b := 255#32) rfl rfl) rfl ?_
      first
        | refine s_val (v_idxA1 rfl rfl Try.underlying69 sz_41 (by omega)) rfl ?_
        | refine s_val (v_idxA rfl rfl Try.underlying69 sz_41 (by omega)) rfl ?_
      refine s_store32 rfl rfl rfl sz_41 LT_ SET_ ?_
      refine s_nil ?_
      refine S_ ?_
      refine c_region ?_
      first
        | refine s_val (v_moveC rfl) rfl ?_
        | refine s_val (v_moveA rfl) rfl ?_
        | refine s_val (v_moveT rfl) rfl ?_
      refine s_val (v_shr32n (j := 8) rfl rfl) rfl ?_
      first
        | refine s_val (v_assignC rfl) rfl ?_
        | refine s_val (v_assignA rfl) rfl ?_
        | refine s_val (v_assignT rfl) rfl ?_
      refine s_nil ?_
      refine S_ ?_
      refine c_region ?_
      first
        | refine s_val (v_moveC rfl) rfl ?_
        | refine s_val (v_moveA rfl) rfl ?_
        | refine s_val (v_moveT rfl) rfl ?_
      first
        | refine s_val (v_addN (b := 1) rfl rfl (by omega)) rfl ?_
        | refine s_val (v_addI rfl rfl (by omega)) rfl ?_
      first
        | refine s_val (v_assignC rfl) rfl ?_
        | refine s_val (v_assignA rfl) rfl ?_
        | refine s_val (v_assignT rfl) rfl ?_
      refine s_nil ?_
      exact ⟨_, by kernel_rfl, rfl⟩
    · have h1 : (c8St A 0#32 64).1.length = 64 := by rw [c8St_length, h0]
      replace hM := fun G => hM _ G rfl
      generalize (c8St A 0#32 64) = U at *
      obtain ⟨U, C⟩ := U
      dsimp only at h1 hM ⊢
      refine S_ ?_
      refine c_region ?_
      first
        | refine s_val (v_moveC rfl) rfl ?_
        | refine s_val (v_moveA rfl) rfl ?_
        | refine s_val (v_moveT rfl) rfl ?_
      first
        | refine s_val (v_lssN (b := 64) rfl rfl) rfl ?_
        | refine s_val (v_lssI rfl rfl) rfl ?_
      refine s_nil ?_
      refine S_ ?_
      refine c_region ?_
      first
        | refine s_val (v_loadR rfl rfl row_69 sz_69 EQ_ (by decide)) rfl ?_
        | refine s_val (v_loadW8 rfl rfl row_69 sz_69 LE_ (by decide)) rfl ?_
        | refine s_val (v_loadW64 rfl rfl row_69 sz_69 LE_ (by decide)) rfl ?_
      refine s_memN (m_alloc al_69 LEN_) APP_ rfl ?_
      refine s_storeR rfl rfl rfl rfl sz_69 EQ_ EQ_ SET_ ?_
      refine s_nil ?_
      refine S_ ?_
      refine c_region ?_
      refine s_val (v_assignC rfl) rfl ?_
      refine s_nil ?_
      refine S_ ?_
      refine c_region ?_
      refine s_val (v_assignC rfl) rfl ?_
      refine s_nil ?_
      refine S_ ?_
      refine c_loopC [1, 2, 10, 12, 13] (fun (x : Nat × List (BitVec 32) × BitVec 32) => ⟨122, keepT [1, 2, 10, 12, 13] [.c (.ptr 0 0), .c (.ptr 1 0), .c (.val (U32 (x.2.2))), .c (.ptr 2 0), .c (.val (.int .i64 (x.1)))], [.row true (.a32 (U)), .row true (.a32 (zer32 64)), .row true (.a32 (x.2.1))]⟩) (fun j => (j, c8St U 5#32 j)) (64) (by kernel_rfl) ?_ ?_
      · intro j hj
        have h2 : (c8St U 5#32 j).1.length = 64 := by rw [c8St_length, h1]
        rw [c8St_succ]
        generalize c8St U 5#32 j = V at *
        obtain ⟨V, D⟩ := V
        dsimp only at h2 ⊢
        refine S_ ?_
        refine c_region ?_
        first
          | refine s_val (v_moveC rfl) rfl ?_
          | refine s_val (v_moveA rfl) rfl ?_
          | refine s_val (v_moveT rfl) rfl ?_
        first
          | refine s_val (v_lssN (b := 64) rfl rfl) rfl ?_
          | refine s_val (v_lssI rfl rfl) rfl ?_
        refine s_nil ?_
        refine S_ ?_
        refine c_region ?_
        first
          | refine s_val (v_moveC rfl) rfl ?_
          | refine s_val (v_moveA rfl) rfl ?_
          | refine s_val (v_moveT rfl) rfl ?_
        first
          | refine s_val (v_moveC rfl) rfl ?_
          | refine s_val (v_moveA rfl) rfl ?_
          | refine s_val (v_moveT rfl) rfl ?_
        first
          | refine s_val (v_idxA1 rfl rfl Try.underlying69 sz_41 (by omega)) rfl ?_
          | refine s_val (v_idxA rfl rfl Try.underlying69 sz_41 (by omega)) rfl ?_
        refine s_val (v_load32 rfl rfl row_41 LT_) rfl ?_
        refine s_val (v_add32 rfl rfl) rfl ?_
        first
          | refine s_val (v_assignC rfl) rfl ?_
          | refine s_val (v_assignA rfl) rfl ?_
          | refine s_val (v_assignT rfl) rfl ?_
        refine s_nil ?_
        refine S_ ?_
        refine c_region ?_
        first
          | refine s_val (v_moveC rfl) rfl ?_
          | refine s_val (v_moveA rfl) rfl ?_
          | refine s_val (v_moveT rfl) rfl ?_
        first
          | refine s_val (v_moveC rfl) rfl ?_
          | refine s_val (v_moveA rfl) rfl ?_
          | refine s_val (v_moveT rfl) rfl ?_
        refine s_val (v_and32 (b := 255#32) rfl rfl) rfl ?_
        first
          | refine s_val (v_idxA1 rfl rfl Try.underlying69 sz_41 (by omega)) rfl ?_
          | refine s_val (v_idxA rfl rfl Try.underlying69 sz_41 (by omega)) rfl ?_
        refine s_store32 rfl rfl rfl sz_41 LT_ SET_ ?_
        refine s_nil ?_
        refine S_ ?_
        refine c_region ?_
        first
          | refine s_val (v_moveC rfl) rfl ?_
          | refine s_val (v_moveA rfl) rfl ?_
          | refine s_val (v_moveT rfl) rfl ?_
        refine s_val (v_shr32n (j := 8) rfl rfl) rfl ?_
        first
          | refine s_val (v_assignC rfl) rfl ?_
          | refine s_val (v_assignA rfl) rfl ?_
          | refine s_val (v_assignT rfl) rfl ?_
        refine s_nil ?_
        refine S_ ?_
        refine c_region ?_
        first
          | refine s_val (v_moveC rfl) rfl ?_
          | refine s_val (v_moveA rfl) rfl ?_
          | refine s_val (v_moveT rfl) rfl ?_
        first
          | refine s_val (v_addN (b := 1) rfl rfl (by omega)) rfl ?_
          | refine s_val (v_addI rfl rfl (by omega)) rfl ?_
        first
          | refine s_val (v_assignC rfl) rfl ?_
          | refine s_val (v_assignA rfl) rfl ?_
          | refine s_val (v_assignT rfl) rfl ?_
        refine s_nil ?_
        exact ⟨_, by kernel_rfl, rfl⟩
      · have h2 : (c8St U 5#32 64).1.length = 64 := by rw [c8St_length, h1]
        replace hM := hM _ rfl
        generalize c8St U 5#32 64 = V at *
        obtain ⟨V, D⟩ := V
        dsimp only at h2 hM ⊢
        rw [hM]
        refine S_ ?_
        refine c_region ?_
        first
          | refine s_val (v_moveC rfl) rfl ?_
          | refine s_val (v_moveA rfl) rfl ?_
          | refine s_val (v_moveT rfl) rfl ?_
        first
          | refine s_val (v_lssN (b := 64) rfl rfl) rfl ?_
          | refine s_val (v_lssI rfl rfl) rfl ?_
        refine s_nil ?_
        refine S_ ?_
        refine c_region ?_
        first
          | refine s_val (v_idxA1 (j := 16) rfl rfl Try.underlying69 sz_41 (by omega)) rfl ?_
          | refine s_val (v_idxA (j := 16) rfl rfl Try.underlying69 sz_41 (by omega)) rfl ?_
        refine s_val (v_load32 rfl rfl row_41 LT_) rfl ?_
        refine s_val (v_geq32 (b := 4#32) rfl rfl) rfl ?_
        refine s_nil ?_
        refine Q_ ?_
        by_cases h4 : 4 ≤ (nth V 16).toNat
        · rw [if_pos h4]
          refine c_condT rfl (decide_eq_true h4) ?_
          refine S_ ?_
          refine c_region ?_
          first
            | refine s_val (v_idxA1 (j := 16) rfl rfl Try.underlying69 sz_41 (by omega)) rfl ?_
            | refine s_val (v_idxA (j := 16) rfl rfl Try.underlying69 sz_41 (by omega)) rfl ?_
          refine s_val (v_load32 rfl rfl row_41 LT_) rfl ?_
          refine s_val (v_and32 (b := 3#32) rfl rfl) rfl ?_
          first
            | refine s_val (v_idxA1 (j := 16) rfl rfl Try.underlying69 sz_41 (by omega)) rfl ?_
            | refine s_val (v_idxA (j := 16) rfl rfl Try.underlying69 sz_41 (by omega)) rfl ?_
          refine s_store32 rfl rfl rfl sz_41 LT_ SET_ ?_
          refine s_nil ?_
          refine S_ ?_
          refine c_region ?_
          first
            | refine s_val (v_loadR rfl rfl row_69 sz_69 EQ_ (by decide)) rfl ?_
            | refine s_val (v_loadW8 rfl rfl row_69 sz_69 LE_ (by decide)) rfl ?_
            | refine s_val (v_loadW64 rfl rfl row_69 sz_69 LE_ (by decide)) rfl ?_
          refine s_storeR rfl rfl rfl rfl sz_69 EQ_ EQ_ SET_ ?_
          refine s_nil ?_
          refine S_ ?_
          exact k_1 (r_row rfl rfl row_69 sz_69 EQ_ (by decide)) (by first | kernel_rfl | rfl)
        · rw [if_neg h4]
          refine c_condF rfl (decide_eq_false h4) ?_
          refine S_ ?_
          refine c_region ?_
          first
            | refine s_val (v_loadR rfl rfl row_69 sz_69 EQ_ (by decide)) rfl ?_
            | refine s_val (v_loadW8 rfl rfl row_69 sz_69 LE_ (by decide)) rfl ?_
            | refine s_val (v_loadW64 rfl rfl row_69 sz_69 LE_ (by decide)) rfl ?_
          refine s_storeR rfl rfl rfl rfl sz_69 EQ_ EQ_ SET_ ?_
          refine s_nil ?_
          refine S_ ?_
          exact k_1 (r_row rfl rfl row_69 sz_69 EQ_ (by decide)) (by first | kernel_rfl | rfl)
end Go.Proofs.Ytcjponmaeamjdaa
