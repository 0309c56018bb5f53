/- The walk of trystref01.mod1305. -/
import Derived.Test.YtlphiohgehkjlaaAvTy
namespace Go.Proofs.Ytlphiohgehkjlaa
open Go.RowKit
/-- What is carried from byte to byte: the bytes, and what is over. -/
def c8St (l : List (BitVec 32)) (c : BitVec 32) : Nat → List (BitVec 32) × BitVec 32
  | 0 => (l, c)
  | k + 1 => (put (c8St l c k).1 k (((c8St l c k).2 + nth (c8St l c k).1 k) &&& 255#32), ((c8St l c k).2 + nth (c8St l c k).1 k) >>> 8)
theorem c8St_succ (l : List (BitVec 32)) (c : BitVec 32) (k : Nat) : c8St l c (k + 1) = (put (c8St l c k).1 k (((c8St l c k).2 + nth (c8St l c k).1 k) &&& 255#32), ((c8St l c k).2 + nth (c8St l c k).1 k) >>> 8) := rfl
theorem c8St_length (l : List (BitVec 32)) (c : BitVec 32) (k : Nat) : (c8St l c k).1.length = l.length := by
  induction k with
  | zero => rfl
  | succ k ih => simp [c8St, ih]
/-- What lies above the bit 130. -/
def topL (a : List (BitVec 32)) : Nat → List (BitVec 32)
  | 0 => zer32 64
  | k + 1 => put (topL a k) k (if k + 17 < 64 then (nth a (k + 16) >>> 2) ||| ((nth a (k + 17) <<< 6) &&& 255#32) else nth a (k + 16) >>> 2)
theorem topL_length (a : List (BitVec 32)) (k : Nat) : (topL a k).length = 64 := by
  induction k with
  | zero => rfl
  | succ k ih => simp [topL, ih]
def zerTail (a : List (BitVec 32)) : Nat → List (BitVec 32)
  | 0 => a
  | k + 1 => put (zerTail a k) (17 + k) 0#32
theorem zerTail_length (a : List (BitVec 32)) (k : Nat) : (zerTail a k).length = a.length := by
  induction k with
  | zero => rfl
  | succ k ih => simp [zerTail, ih]
def addTop (a top : List (BitVec 32)) : Nat → List (BitVec 32)
  | 0 => a
  | k + 1 => put (addTop a top k) k (nth (addTop a top k) k + 5#32 * nth top k)
theorem addTop_length (a top : List (BitVec 32)) (k : Nat) : (addTop a top k).length = a.length := by
  induction k with
  | zero => rfl
  | succ k ih => simp [addTop, ih]
/-- What is above the bit 130, five times, below it. -/
def fold1 (a : List (BitVec 32)) : List (BitVec 32) := addTop (put (zerTail a 47) 16 (nth (zerTail a 47) 16 &&& 3#32)) (topL a 48) 64
def foldL (a : List (BitVec 32)) : Nat → List (BitVec 32)
  | 0 => a
  | k + 1 => fold1 (c8St (foldL a k) 0#32 64).1
theorem foldL_length (a : List (BitVec 32)) (h : a.length = 64) (k : Nat) : (foldL a k).length = 64 := by
  induction k with
  | zero => exact h
  | succ k ih => rw [foldL, fold1, addTop_length, put_length, zerTail_length, c8St_length, ih]
/-- What is left of a number modulo 2^130 - 5. -/
def modR (a : List (BitVec 32)) : List (BitVec 32) :=
  if 4 ≤ (nth (c8St (c8St (foldL a 4) 0#32 64).1 5#32 64).1 16).toNat then put (c8St (c8St (foldL a 4) 0#32 64).1 5#32 64).1 16 (nth (c8St (c8St (foldL a 4) 0#32 64).1 5#32 64).1 16 &&& 3#32) else (c8St (foldL a 4) 0#32 64).1
theorem modR_eq (a A5 G : List (BitVec 32)) (h5 : (c8St (foldL a 4) 0#32 64).1 = A5) (hG : (c8St A5 5#32 64).1 = G) : modR a = if 4 ≤ (nth G 16).toNat then put G 16 (nth G 16 &&& 3#32) else A5 := by subst hG; subst h5; rfl
@[simp] theorem modR_length (a : List (BitVec 32)) (h : a.length = 64) : (modR a).length = 64 := by
  unfold modR
  split <;> simp [c8St_length, foldL_length a h]
attribute [irreducible] modR
set_option maxRecDepth 100000 in
set_option maxHeartbeats 2000000 in
theorem mod1305_ev (a : List (BitVec 32)) (ha : a.length = 64) : Ev Try.prog (.call 15 [.agg (.a32 a)] []) (.val (.agg (.a32 (modR a))) []) := by
  have hM := fun A5 G => modR_eq a A5 G
  refine c_call Try.func15 rfl Try.ntmps15 rfl LEN_ ?_
  refine S_ ?_
  refine c_region ?_
  refine s_memN (m_box BX_ LEN_) APP_ rfl ?_
  refine s_memN (m_alloc al_44 LEN_) APP_ rfl ?_
  refine s_nil ?_
  refine S_ ?_
  refine c_region ?_
  refine s_val (v_assignC rfl) rfl ?_
  refine s_nil ?_
  refine S_ ?_
  refine c_loopC [1, 2, 3] (fun (x : Nat × List (BitVec 32)) => ⟨122, keepT [1, 2, 3] [.c (.ptr 0 0), .c (.ptr 1 0), .c (.val (.int .i64 (x.1)))], [.row true (.a32 (x.2)), .row true (.a32 (zer32 64))]⟩) (fun j => (j, foldL a j)) (4) (by kernel_rfl) ?_ ?_
  · intro q hq
    have h0 : (foldL a q).length = 64 := foldL_length a ha q
    simp only [foldL]
    generalize foldL a q = A at *
    refine S_ ?_
    refine c_region ?_
    first
      | refine s_val (v_moveC rfl) rfl ?_
      | refine s_val (v_moveA rfl) rfl ?_
      | refine s_val (v_moveT rfl) rfl ?_
    first
      | refine s_val (v_lssN (b := 4) rfl rfl) rfl ?_
      | refine s_val (v_lssI rfl rfl) rfl ?_
    refine s_nil ?_
    refine S_ ?_
    refine c_region ?_
    refine s_val (v_assignC rfl) rfl ?_
    refine s_nil ?_
    refine S_ ?_
    refine c_region ?_
    refine s_val (v_assignC rfl) rfl ?_
    refine s_nil ?_
    refine S_ ?_
    refine c_loopC [1, 2, 3, 4, 5] (fun (x : Nat × List (BitVec 32) × BitVec 32) => ⟨122, keepT [1, 2, 3, 4, 5] [.c (.ptr 0 0), .c (.ptr 1 0), .c (.val (.int .i64 (q))), .c (.val (U32 (x.2.2))), .c (.val (.int .i64 (x.1)))], [.row true (.a32 (x.2.1)), .row true (.a32 (zer32 64))]⟩) (fun j => (j, c8St A 0#32 j)) (64) (by kernel_rfl) ?_ ?_
    · intro j hj
      have h1 : (c8St A 0#32 j).1.length = 64 := by rw [c8St_length, h0]
      rw [c8St_succ]
      generalize c8St A 0#32 j = U at *
      obtain ⟨U, C⟩ := U
      dsimp only at h1 ⊢
      refine S_ ?_
      refine c_region ?_
      first
        | refine s_val (v_moveC rfl) rfl ?_
        | refine s_val (v_moveA rfl) rfl ?_
        | refine s_val (v_moveT rfl) rfl ?_
      first
        | refine s_val (v_lssN (b := 64) rfl rfl) rfl ?_
        | refine s_val (v_lssI rfl rfl) rfl ?_
      refine s_nil ?_
      refine S_ ?_
      refine c_region ?_
      first
        | refine s_val (v_moveC rfl) rfl ?_
        | refine s_val (v_moveA rfl) rfl ?_
        | refine s_val (v_moveT rfl) rfl ?_
      first
        | refine s_val (v_moveC rfl) rfl ?_
        | refine s_val (v_moveA rfl) rfl ?_
        | refine s_val (v_moveT rfl) rfl ?_
      first
        | refine s_val (v_idxA1 rfl rfl Try.underlying44 sz_42 (by omega)) rfl ?_
        | refine s_val (v_idxA rfl rfl Try.underlying44 sz_42 (by omega)) rfl ?_
      refine s_val (v_load32 rfl rfl row_42 LT_) rfl ?_
      refine s_val (v_add32 rfl rfl) rfl ?_
      first
        | refine s_val (v_assignC rfl) rfl ?_
        | refine s_val (v_assignA rfl) rfl ?_
        | refine s_val (v_assignT rfl) rfl ?_
      refine s_nil ?_
      refine S_ ?_
      refine c_region ?_
      first
        | refine s_val (v_moveC rfl) rfl ?_
        | refine s_val (v_moveA rfl) rfl ?_
        | refine s_val (v_moveT rfl) rfl ?_
      first
        | refine s_val (v_moveC rfl) rfl ?_
        | refine s_val (v_moveA rfl) rfl ?_
        | refine s_val (v_moveT rfl) rfl ?_
      refine s_val (v_and32 (b := 255#32) rfl rfl) rfl ?_
      first
        | refine s_val (v_idxA1 rfl rfl Try.underlying44 sz_42 (by omega)) rfl ?_
        | refine s_val (v_idxA rfl rfl Try.underlying44 sz_42 (by omega)) rfl ?_
      refine s_store32 rfl rfl rfl sz_42 LT_ SET_ ?_
      refine s_nil ?_
      refine S_ ?_
      refine c_region ?_
      first
        | refine s_val (v_moveC rfl) rfl ?_
        | refine s_val (v_moveA rfl) rfl ?_
        | refine s_val (v_moveT rfl) rfl ?_
      refine s_val (v_shr32n (j := 8) rfl rfl) rfl ?_
      first
        | refine s_val (v_assignC rfl) rfl ?_
        | refine s_val (v_assignA rfl) rfl ?_
        | refine s_val (v_assignT rfl) rfl ?_
      refine s_nil ?_
      refine S_ ?_
      refine c_region ?_
      first
        | refine s_val (v_moveC rfl) rfl ?_
        | refine s_val (v_moveA rfl) rfl ?_
        | refine s_val (v_moveT rfl) rfl ?_
      first
        | refine s_val (v_addN (b := 1) rfl rfl (by omega)) rfl ?_
        | refine s_val (v_addI rfl rfl (by omega)) rfl ?_
      first
        | refine s_val (v_assignC rfl) rfl ?_
        | refine s_val (v_assignA rfl) rfl ?_
        | refine s_val (v_assignT rfl) rfl ?_
      refine s_nil ?_
      exact ⟨_, by kernel_rfl, rfl⟩
    · have h1 : (c8St A 0#32 64).1.length = 64 := by rw [c8St_length, h0]
      generalize (c8St A 0#32 64) = U at *
      obtain ⟨U, C⟩ := U
      dsimp only at h1 ⊢
      unfold fold1
      refine S_ ?_
      refine c_region ?_
      first
        | refine s_val (v_moveC rfl) rfl ?_
        | refine s_val (v_moveA rfl) rfl ?_
        | refine s_val (v_moveT rfl) rfl ?_
      first
        | refine s_val (v_lssN (b := 64) rfl rfl) rfl ?_
        | refine s_val (v_lssI rfl rfl) rfl ?_
      refine s_nil ?_
      refine S_ ?_
      refine c_region ?_
      refine s_memN (m_alloc al_44 LEN_) APP_ rfl ?_
      refine s_nil ?_
      refine S_ ?_
      refine c_region ?_
      refine s_val (v_assignC rfl) rfl ?_
      refine s_nil ?_
      refine S_ ?_
      refine c_loopC [1, 2, 3, 6, 7] (fun (x : Nat × List (BitVec 32)) => ⟨122, keepT [1, 2, 3, 6, 7] [.c (.ptr 0 0), .c (.ptr 1 0), .c (.val (.int .i64 (q))), .c (.ptr 2 0), .c (.val (.int .i64 (x.1)))], [.row true (.a32 (U)), .row true (.a32 (zer32 64)), .row true (.a32 (x.2))]⟩) (fun j => (j, topL U j)) (48) (by kernel_rfl) ?_ ?_
      · intro j hj
        have h2 : (topL U j).length = 64 := topL_length U j
        simp only [topL]
        generalize topL U j = V at *
        refine S_ ?_
        refine c_region ?_
        first
          | refine s_val (v_moveC rfl) rfl ?_
          | refine s_val (v_moveA rfl) rfl ?_
          | refine s_val (v_moveT rfl) rfl ?_
        first
          | refine s_val (v_addN (b := 16) rfl rfl (by omega)) rfl ?_
          | refine s_val (v_addI rfl rfl (by omega)) rfl ?_
        first
          | refine s_val (v_lssN (b := 64) rfl rfl) rfl ?_
          | refine s_val (v_lssI rfl rfl) rfl ?_
        refine s_nil ?_
        refine S_ ?_
        refine c_region ?_
        first
          | refine s_val (v_moveC rfl) rfl ?_
          | refine s_val (v_moveA rfl) rfl ?_
          | refine s_val (v_moveT rfl) rfl ?_
        first
          | refine s_val (v_moveC rfl) rfl ?_
          | refine s_val (v_moveA rfl) rfl ?_
          | refine s_val (v_moveT rfl) rfl ?_
        first
          | refine s_val (v_addN (b := 16) rfl rfl (by omega)) rfl ?_
          | refine s_val (v_addI rfl rfl (by omega)) rfl ?_
        first
          | refine s_val (v_idxA1 rfl rfl Try.underlying44 sz_42 (by omega)) rfl ?_
          | refine s_val (v_idxA rfl rfl Try.underlying44 sz_42 (by omega)) rfl ?_
        refine s_val (v_load32 rfl rfl row_42 LT_) rfl ?_
        refine s_val (v_shr32n (j := 2) rfl rfl) rfl ?_
        first
          | refine s_val (v_idxA1 rfl rfl Try.underlying44 sz_42 (by omega)) rfl ?_
          | refine s_val (v_idxA rfl rfl Try.underlying44 sz_42 (by omega)) rfl ?_
        refine s_store32 rfl rfl rfl sz_42 LT_ SET_ ?_
        refine s_nil ?_
        refine S_ ?_
        refine c_region ?_
        first
          | refine s_val (v_moveC rfl) rfl ?_
          | refine s_val (v_moveA rfl) rfl ?_
          | refine s_val (v_moveT rfl) rfl ?_
        first
          | refine s_val (v_addN (b := 17) rfl rfl (by omega)) rfl ?_
          | refine s_val (v_addI rfl rfl (by omega)) rfl ?_
        first
          | refine s_val (v_lssN (b := 64) rfl rfl) rfl ?_
          | refine s_val (v_lssI rfl rfl) rfl ?_
        refine s_nil ?_
        by_cases h17 : j + 17 < 64
        · rw [if_pos h17]
          refine S_ ?_
          refine c_draw 11 mixed (by kernel_rfl) rfl rfl rfl ?_
          first
            | refine h_val (v_moveC rfl) rfl ?_
            | refine h_val (v_moveA rfl) rfl ?_
            | refine h_val (v_moveT rfl) rfl ?_
          first
            | refine h_val (v_idxA1 rfl rfl Try.underlying44 sz_42 (by omega)) rfl ?_
            | refine h_val (v_idxA rfl rfl Try.underlying44 sz_42 (by omega)) rfl ?_
          refine h_val (v_load32 rfl rfl row_42 LT_) rfl ?_
          first
            | refine h_val (v_moveC rfl) rfl ?_
            | refine h_val (v_moveA rfl) rfl ?_
            | refine h_val (v_moveT rfl) rfl ?_
          first
            | refine h_val (v_addN (b := 17) rfl rfl (by omega)) rfl ?_
            | refine h_val (v_addI rfl rfl (by omega)) rfl ?_
          first
            | refine h_val (v_idxA1 rfl rfl Try.underlying44 sz_42 (by omega)) rfl ?_
            | refine h_val (v_idxA rfl rfl Try.underlying44 sz_42 (by omega)) rfl ?_
          refine h_val (v_load32 rfl rfl row_42 LT_) rfl ?_
          refine h_val (v_shl32n (j := 6) rfl rfl) rfl ?_
          refine h_val (v_and32 (b := 255#32) rfl rfl) rfl ?_
          refine h_val (v_or32 rfl rfl) rfl ?_
          first
            | refine h_val (v_idxA1 rfl rfl Try.underlying44 sz_42 (by omega)) rfl ?_
            | refine h_val (v_idxA rfl rfl Try.underlying44 sz_42 (by omega)) rfl ?_
          refine h_nil ?_
          refine s_store32 rfl rfl rfl sz_42 LT_ SET_ ?_
          refine s_nil ?_
          simp only [put_again, nth_put _ _ _ _ (show j < V.length by omega), if_true]
          refine S_ ?_
          refine c_region ?_
          first
            | refine s_val (v_moveC rfl) rfl ?_
            | refine s_val (v_moveA rfl) rfl ?_
            | refine s_val (v_moveT rfl) rfl ?_
          first
            | refine s_val (v_addN (b := 1) rfl rfl (by omega)) rfl ?_
            | refine s_val (v_addI rfl rfl (by omega)) rfl ?_
          first
            | refine s_val (v_assignC rfl) rfl ?_
            | refine s_val (v_assignA rfl) rfl ?_
            | refine s_val (v_assignT rfl) rfl ?_
          refine s_nil ?_
          exact ⟨_, by kernel_rfl, rfl⟩
        · rw [if_neg h17]
          refine S_ ?_
          refine c_region ?_
          first
            | refine s_val (v_moveC rfl) rfl ?_
            | refine s_val (v_moveA rfl) rfl ?_
            | refine s_val (v_moveT rfl) rfl ?_
          first
            | refine s_val (v_addN (b := 1) rfl rfl (by omega)) rfl ?_
            | refine s_val (v_addI rfl rfl (by omega)) rfl ?_
          first
            | refine s_val (v_assignC rfl) rfl ?_
            | refine s_val (v_assignA rfl) rfl ?_
            | refine s_val (v_assignT rfl) rfl ?_
          refine s_nil ?_
          exact ⟨_, by kernel_rfl, rfl⟩
      · have h2 : (topL U 48).length = 64 := topL_length U 48
        generalize topL U 48 = V at *
        dsimp only
        refine S_ ?_
        refine c_region ?_
        first
          | refine s_val (v_moveC rfl) rfl ?_
          | refine s_val (v_moveA rfl) rfl ?_
          | refine s_val (v_moveT rfl) rfl ?_
        first
          | refine s_val (v_addN (b := 16) rfl rfl (by omega)) rfl ?_
          | refine s_val (v_addI rfl rfl (by omega)) rfl ?_
        first
          | refine s_val (v_lssN (b := 64) rfl rfl) rfl ?_
          | refine s_val (v_lssI rfl rfl) rfl ?_
        refine s_nil ?_
        refine S_ ?_
        refine c_region ?_
        refine s_val (v_assignC rfl) rfl ?_
        refine s_nil ?_
        refine S_ ?_
        refine c_loopC [1, 2, 3, 6, 8] (fun (x : Nat × List (BitVec 32)) => ⟨122, keepT [1, 2, 3, 6, 8] [.c (.ptr 0 0), .c (.ptr 1 0), .c (.val (.int .i64 (q))), .c (.ptr 2 0), .c (.val (.int .i64 (x.1)))], [.row true (.a32 (x.2)), .row true (.a32 (zer32 64)), .row true (.a32 (V))]⟩) (fun j => (17 + j, zerTail U j)) (47) (by kernel_rfl) ?_ ?_
        · intro j hj
          have h3 : (zerTail U j).length = 64 := by rw [zerTail_length, h1]
          simp only [zerTail]
          generalize zerTail U j = W at *
          refine S_ ?_
          refine c_region ?_
          first
            | refine s_val (v_moveC rfl) rfl ?_
            | refine s_val (v_moveA rfl) rfl ?_
            | refine s_val (v_moveT rfl) rfl ?_
          first
            | refine s_val (v_lssN (b := 64) rfl rfl) rfl ?_
            | refine s_val (v_lssI rfl rfl) rfl ?_
          refine s_nil ?_
          refine S_ ?_
          refine c_region ?_
          first
            | refine s_val (v_moveC rfl) rfl ?_
            | refine s_val (v_moveA rfl) rfl ?_
            | refine s_val (v_moveT rfl) rfl ?_
          first
            | refine s_val (v_idxA1 rfl rfl Try.underlying44 sz_42 (by omega)) rfl ?_
            | refine s_val (v_idxA rfl rfl Try.underlying44 sz_42 (by omega)) rfl ?_
          refine s_store32 (w := 0#32) rfl rfl rfl sz_42 LT_ SET_ ?_
          refine s_nil ?_
          refine S_ ?_
          refine c_region ?_
          first
            | refine s_val (v_moveC rfl) rfl ?_
            | refine s_val (v_moveA rfl) rfl ?_
            | refine s_val (v_moveT rfl) rfl ?_
          first
            | refine s_val (v_addN (b := 1) rfl rfl (by omega)) rfl ?_
            | refine s_val (v_addI rfl rfl (by omega)) rfl ?_
          first
            | refine s_val (v_assignC rfl) rfl ?_
            | refine s_val (v_assignA rfl) rfl ?_
            | refine s_val (v_assignT rfl) rfl ?_
          refine s_nil ?_
          exact ⟨_, by kernel_rfl, rfl⟩
        · have h3 : (zerTail U 47).length = 64 := by rw [zerTail_length, h1]
          generalize zerTail U 47 = W at *
          dsimp only
          refine S_ ?_
          refine c_region ?_
          first
            | refine s_val (v_moveC rfl) rfl ?_
            | refine s_val (v_moveA rfl) rfl ?_
            | refine s_val (v_moveT rfl) rfl ?_
          first
            | refine s_val (v_lssN (b := 64) rfl rfl) rfl ?_
            | refine s_val (v_lssI rfl rfl) rfl ?_
          refine s_nil ?_
          refine S_ ?_
          refine c_region ?_
          first
            | refine s_val (v_idxA1 (j := 16) rfl rfl Try.underlying44 sz_42 (by omega)) rfl ?_
            | refine s_val (v_idxA (j := 16) rfl rfl Try.underlying44 sz_42 (by omega)) rfl ?_
          refine s_val (v_load32 rfl rfl row_42 LT_) rfl ?_
          refine s_val (v_and32 (b := 3#32) rfl rfl) rfl ?_
          first
            | refine s_val (v_idxA1 (j := 16) rfl rfl Try.underlying44 sz_42 (by omega)) rfl ?_
            | refine s_val (v_idxA (j := 16) rfl rfl Try.underlying44 sz_42 (by omega)) rfl ?_
          refine s_store32 rfl rfl rfl sz_42 LT_ SET_ ?_
          refine s_nil ?_
          refine S_ ?_
          refine c_region ?_
          refine s_val (v_assignC rfl) rfl ?_
          refine s_nil ?_
          have h4 : (put W 16 (nth W 16 &&& 3#32)).length = 64 := by rw [put_length, h3]
          generalize put W 16 (nth W 16 &&& 3#32) = X at *
          refine S_ ?_
          refine c_loopC [1, 2, 3, 6, 9] (fun (x : Nat × List (BitVec 32)) => ⟨122, keepT [1, 2, 3, 6, 9] [.c (.ptr 0 0), .c (.ptr 1 0), .c (.val (.int .i64 (q))), .c (.ptr 2 0), .c (.val (.int .i64 (x.1)))], [.row true (.a32 (x.2)), .row true (.a32 (zer32 64)), .row true (.a32 (V))]⟩) (fun j => (j, addTop X V j)) (64) (by kernel_rfl) ?_ ?_
          · intro j hj
            have h5 : (addTop X V j).length = 64 := by rw [addTop_length, h4]
            simp only [addTop]
            generalize addTop X V j = Y at *
            refine S_ ?_
            refine c_region ?_
            first
              | refine s_val (v_moveC rfl) rfl ?_
              | refine s_val (v_moveA rfl) rfl ?_
              | refine s_val (v_moveT rfl) rfl ?_
            first
              | refine s_val (v_lssN (b := 64) rfl rfl) rfl ?_
              | refine s_val (v_lssI rfl rfl) rfl ?_
            refine s_nil ?_
            refine S_ ?_
            refine c_draw 9 mixed (by kernel_rfl) rfl rfl rfl ?_
            first
              | refine h_val (v_moveC rfl) rfl ?_
              | refine h_val (v_moveA rfl) rfl ?_
              | refine h_val (v_moveT rfl) rfl ?_
            first
              | refine h_val (v_idxA1 rfl rfl Try.underlying44 sz_42 (by omega)) rfl ?_
              | refine h_val (v_idxA rfl rfl Try.underlying44 sz_42 (by omega)) rfl ?_
            refine h_val (v_load32 rfl rfl row_42 LT_) rfl ?_
            first
              | refine h_val (v_moveC rfl) rfl ?_
              | refine h_val (v_moveA rfl) rfl ?_
              | refine h_val (v_moveT rfl) rfl ?_
            first
              | refine h_val (v_idxA1 rfl rfl Try.underlying44 sz_42 (by omega)) rfl ?_
              | refine h_val (v_idxA rfl rfl Try.underlying44 sz_42 (by omega)) rfl ?_
            refine h_val (v_load32 rfl rfl row_42 LT_) rfl ?_
            refine h_val (v_mul32 (a := 5#32) rfl rfl) rfl ?_
            refine h_val (v_add32 rfl rfl) rfl ?_
            first
              | refine h_val (v_idxA1 rfl rfl Try.underlying44 sz_42 (by omega)) rfl ?_
              | refine h_val (v_idxA rfl rfl Try.underlying44 sz_42 (by omega)) rfl ?_
            refine h_nil ?_
            refine s_store32 rfl rfl rfl sz_42 LT_ SET_ ?_
            refine s_nil ?_
            refine S_ ?_
            refine c_region ?_
            first
              | refine s_val (v_moveC rfl) rfl ?_
              | refine s_val (v_moveA rfl) rfl ?_
              | refine s_val (v_moveT rfl) rfl ?_
            first
              | refine s_val (v_addN (b := 1) rfl rfl (by omega)) rfl ?_
              | refine s_val (v_addI rfl rfl (by omega)) rfl ?_
            first
              | refine s_val (v_assignC rfl) rfl ?_
              | refine s_val (v_assignA rfl) rfl ?_
              | refine s_val (v_assignT rfl) rfl ?_
            refine s_nil ?_
            exact ⟨_, by kernel_rfl, rfl⟩
          · have h5 : (addTop X V 64).length = 64 := by rw [addTop_length, h4]
            generalize addTop X V 64 = Y at *
            dsimp only
            refine S_ ?_
            refine c_region ?_
            first
              | refine s_val (v_moveC rfl) rfl ?_
              | refine s_val (v_moveA rfl) rfl ?_
              | refine s_val (v_moveT rfl) rfl ?_
            first
              | refine s_val (v_lssN (b := 64) rfl rfl) rfl ?_
              | refine s_val (v_lssI rfl rfl) rfl ?_
            refine s_nil ?_
            refine S_ ?_
            refine c_region ?_
            first
              | refine s_val (v_moveC rfl) rfl ?_
              | refine s_val (v_moveA rfl) rfl ?_
              | refine s_val (v_moveT rfl) rfl ?_
            first
              | refine s_val (v_addN (b := 1) rfl rfl (by omega)) rfl ?_
              | refine s_val (v_addI rfl rfl (by omega)) rfl ?_
            first
              | refine s_val (v_assignC rfl) rfl ?_
              | refine s_val (v_assignA rfl) rfl ?_
              | refine s_val (v_assignT rfl) rfl ?_
            refine s_nil ?_
            exact ⟨_, by kernel_rfl, rfl⟩
  · have h0 : (foldL a 4).length = 64 := foldL_length a ha 4
    generalize foldL a 4 = A at *
    dsimp only
    refine S_ ?_
    refine c_region ?_
    first
      | refine s_val (v_moveC rfl) rfl ?_
      | refine s_val (v_moveA rfl) rfl ?_
      | refine s_val (v_moveT rfl) rfl ?_
    first
      | refine s_val (v_lssN (b := 4) rfl rfl) rfl ?_
      | refine s_val (v_lssI rfl rfl) rfl ?_
    refine s_nil ?_
    refine S_ ?_
    refine c_region ?_
    refine s_val (v_assignC rfl) rfl ?_
    refine s_nil ?_
    refine S_ ?_
    refine c_region ?_
    refine s_val (v_assignC rfl) rfl ?_
    refine s_nil ?_
    refine S_ ?_
    refine c_loopC [1, 2, 10, 11] (fun (x : Nat × List (BitVec 32) × BitVec 32) => ⟨122, keepT [1, 2, 10, 11] [.c (.ptr 0 0), .c (.ptr 1 0), .c (.val (U32 (x.2.2))), .c (.val (.int .i64 (x.1)))], [.row true (.a32 (x.2.1)), .row true (.a32 (zer32 64))]⟩) (fun j => (j, c8St A 0#32 j)) (64) (by kernel_rfl) ?_ ?_
    · intro j hj
      have h1 : (c8St A 0#32 j).1.length = 64 := by rw [c8St_length, h0]
      rw [c8St_succ]
      generalize c8St A 0#32 j = U at *
      obtain ⟨U, C⟩ := U
      dsimp only at h1 ⊢
      refine S_ ?_
      refine c_region ?_
      first
        | refine s_val (v_moveC rfl) rfl ?_
        | refine s_val (v_moveA rfl) rfl ?_
        | refine s_val (v_moveT rfl) rfl ?_
      first
        | refine s_val (v_lssN (b := 64) rfl rfl) rfl ?_
        | refine s_val (v_lssI rfl rfl) rfl ?_
      refine s_nil ?_
      refine S_ ?_
      refine c_region ?_
      first
        | refine s_val (v_moveC rfl) rfl ?_
        | refine s_val (v_moveA rfl) rfl ?_
        | refine s_val (v_moveT rfl) rfl ?_
      first
        | refine s_val (v_moveC rfl) rfl ?_
        | refine s_val (v_moveA rfl) rfl ?_
        | refine s_val (v_moveT rfl) rfl ?_
      first
        | refine s_val (v_idxA1 rfl rfl Try.underlying44 sz_42 (by omega)) rfl ?_
        | refine s_val (v_idxA rfl rfl Try.underlying44 sz_42 (by omega)) rfl ?_
      refine s_val (v_load32 rfl rfl row_42 LT_) rfl ?_
      refine s_val (v_add32 rfl rfl) rfl ?_
      first
        | refine s_val (v_assignC rfl) rfl ?_
        | refine s_val (v_assignA rfl) rfl ?_
        | refine s_val (v_assignT rfl) rfl ?_
      refine s_nil ?_
      refine S_ ?_
      refine c_region ?_
      first
        | refine s_val (v_moveC rfl) rfl ?_
        | refine s_val (v_moveA rfl) rfl ?_
        | refine s_val (v_moveT rfl) rfl ?_
      first
        | refine s_val (v_moveC rfl) rfl ?_
        | refine s_val (v_moveA rfl) rfl ?_
        | refine s_val (v_moveT rfl) rfl ?_
      refine s_val (v_and32 (b := 255#32) rfl rfl) rfl ?_
      first
        | refine s_val (v_idxA1 rfl rfl Try.underlying44 sz_42 (by omega)) rfl ?_
        | refine s_val (v_idxA rfl rfl Try.underlying44 sz_42 (by omega)) rfl ?_
      refine s_store32 rfl rfl rfl sz_42 LT_ SET_ ?_
      refine s_nil ?_
      refine S_ ?_
      refine c_region ?_
      first
        | refine s_val (v_moveC rfl) rfl ?_
        | refine s_val (v_moveA rfl) rfl ?_
        | refine s_val (v_moveT rfl) rfl ?_
      refine s_val (v_shr32n (j := 8) rfl rfl) rfl ?_
      first
        | refine s_val (v_assignC rfl) rfl ?_
        | refine s_val (v_assignA rfl) rfl ?_
        | refine s_val (v_assignT rfl) rfl ?_
      refine s_nil ?_
      refine S_ ?_
      refine c_region ?_
      first
        | refine s_val (v_moveC rfl) rfl ?_
        | refine s_val (v_moveA rfl) rfl ?_
        | refine s_val (v_moveT rfl) rfl ?_
      first
        | refine s_val (v_addN (b := 1) rfl rfl (by omega)) rfl ?_
        | refine s_val (v_addI rfl rfl (by omega)) rfl ?_
      first
        | refine s_val (v_assignC rfl) rfl ?_
        | refine s_val (v_assignA rfl) rfl ?_
        | refine s_val (v_assignT rfl) rfl ?_
      refine s_nil ?_
      exact ⟨_, by kernel_rfl, rfl⟩
    · have h1 : (c8St A 0#32 64).1.length = 64 := by rw [c8St_length, h0]
      replace hM := fun G => hM _ G rfl
      generalize (c8St A 0#32 64) = U at *
      obtain ⟨U, C⟩ := U
      dsimp only at h1 hM ⊢
      refine S_ ?_
      refine c_region ?_
      first
        | refine s_val (v_moveC rfl) rfl ?_
        | refine s_val (v_moveA rfl) rfl ?_
        | refine s_val (v_moveT rfl) rfl ?_
      first
        | refine s_val (v_lssN (b := 64) rfl rfl) rfl ?_
        | refine s_val (v_lssI rfl rfl) rfl ?_
      refine s_nil ?_
      refine S_ ?_
      refine c_region ?_
      refine s_val (v_loadR rfl rfl row_44 sz_44 EQ_ (by decide)) rfl ?_
      refine s_memN (m_alloc al_44 LEN_) APP_ rfl ?_
      refine s_storeR rfl rfl rfl rfl sz_44 EQ_ EQ_ SET_ ?_
      refine s_nil ?_
      refine S_ ?_
      refine c_region ?_
      refine s_val (v_assignC rfl) rfl ?_
      refine s_nil ?_
      refine S_ ?_
      refine c_region ?_
      refine s_val (v_assignC rfl) rfl ?_
      refine s_nil ?_
      refine S_ ?_
      refine c_loopC [1, 2, 10, 12, 13] (fun (x : Nat × List (BitVec 32) × BitVec 32) => ⟨122, keepT [1, 2, 10, 12, 13] [.c (.ptr 0 0), .c (.ptr 1 0), .c (.val (U32 (x.2.2))), .c (.ptr 2 0), .c (.val (.int .i64 (x.1)))], [.row true (.a32 (U)), .row true (.a32 (zer32 64)), .row true (.a32 (x.2.1))]⟩) (fun j => (j, c8St U 5#32 j)) (64) (by kernel_rfl) ?_ ?_
      · intro j hj
        have h2 : (c8St U 5#32 j).1.length = 64 := by rw [c8St_length, h1]
        rw [c8St_succ]
        generalize c8St U 5#32 j = V at *
        obtain ⟨V, D⟩ := V
        dsimp only at h2 ⊢
        refine S_ ?_
        refine c_region ?_
        first
          | refine s_val (v_moveC rfl) rfl ?_
          | refine s_val (v_moveA rfl) rfl ?_
          | refine s_val (v_moveT rfl) rfl ?_
        first
          | refine s_val (v_lssN (b := 64) rfl rfl) rfl ?_
          | refine s_val (v_lssI rfl rfl) rfl ?_
        refine s_nil ?_
        refine S_ ?_
        refine c_region ?_
        first
          | refine s_val (v_moveC rfl) rfl ?_
          | refine s_val (v_moveA rfl) rfl ?_
          | refine s_val (v_moveT rfl) rfl ?_
        first
          | refine s_val (v_moveC rfl) rfl ?_
          | refine s_val (v_moveA rfl) rfl ?_
          | refine s_val (v_moveT rfl) rfl ?_
        first
          | refine s_val (v_idxA1 rfl rfl Try.underlying44 sz_42 (by omega)) rfl ?_
          | refine s_val (v_idxA rfl rfl Try.underlying44 sz_42 (by omega)) rfl ?_
        refine s_val (v_load32 rfl rfl row_42 LT_) rfl ?_
        refine s_val (v_add32 rfl rfl) rfl ?_
        first
          | refine s_val (v_assignC rfl) rfl ?_
          | refine s_val (v_assignA rfl) rfl ?_
          | refine s_val (v_assignT rfl) rfl ?_
        refine s_nil ?_
        refine S_ ?_
        refine c_region ?_
        first
          | refine s_val (v_moveC rfl) rfl ?_
          | refine s_val (v_moveA rfl) rfl ?_
          | refine s_val (v_moveT rfl) rfl ?_
        first
          | refine s_val (v_moveC rfl) rfl ?_
          | refine s_val (v_moveA rfl) rfl ?_
          | refine s_val (v_moveT rfl) rfl ?_
        refine s_val (v_and32 (b := 255#32) rfl rfl) rfl ?_
        first
          | refine s_val (v_idxA1 rfl rfl Try.underlying44 sz_42 (by omega)) rfl ?_
          | refine s_val (v_idxA rfl rfl Try.underlying44 sz_42 (by omega)) rfl ?_
        refine s_store32 rfl rfl rfl sz_42 LT_ SET_ ?_
        refine s_nil ?_
        refine S_ ?_
        refine c_region ?_
        first
          | refine s_val (v_moveC rfl) rfl ?_
          | refine s_val (v_moveA rfl) rfl ?_
          | refine s_val (v_moveT rfl) rfl ?_
        refine s_val (v_shr32n (j := 8) rfl rfl) rfl ?_
        first
          | refine s_val (v_assignC rfl) rfl ?_
          | refine s_val (v_assignA rfl) rfl ?_
          | refine s_val (v_assignT rfl) rfl ?_
        refine s_nil ?_
        refine S_ ?_
        refine c_region ?_
        first
          | refine s_val (v_moveC rfl) rfl ?_
          | refine s_val (v_moveA rfl) rfl ?_
          | refine s_val (v_moveT rfl) rfl ?_
        first
          | refine s_val (v_addN (b := 1) rfl rfl (by omega)) rfl ?_
          | refine s_val (v_addI rfl rfl (by omega)) rfl ?_
        first
          | refine s_val (v_assignC rfl) rfl ?_
          | refine s_val (v_assignA rfl) rfl ?_
          | refine s_val (v_assignT rfl) rfl ?_
        refine s_nil ?_
        exact ⟨_, by kernel_rfl, rfl⟩
      · have h2 : (c8St U 5#32 64).1.length = 64 := by rw [c8St_length, h1]
        replace hM := hM _ rfl
        generalize c8St U 5#32 64 = V at *
        obtain ⟨V, D⟩ := V
        dsimp only at h2 hM ⊢
        rw [hM]
        refine S_ ?_
        refine c_region ?_
        first
          | refine s_val (v_moveC rfl) rfl ?_
          | refine s_val (v_moveA rfl) rfl ?_
          | refine s_val (v_moveT rfl) rfl ?_
        first
          | refine s_val (v_lssN (b := 64) rfl rfl) rfl ?_
          | refine s_val (v_lssI rfl rfl) rfl ?_
        refine s_nil ?_
        refine S_ ?_
        refine c_region ?_
        first
          | refine s_val (v_idxA1 (j := 16) rfl rfl Try.underlying44 sz_42 (by omega)) rfl ?_
          | refine s_val (v_idxA (j := 16) rfl rfl Try.underlying44 sz_42 (by omega)) rfl ?_
        refine s_val (v_load32 rfl rfl row_42 LT_) rfl ?_
        refine s_val (v_geq32 (b := 4#32) rfl rfl) rfl ?_
        refine s_nil ?_
        refine Q_ ?_
        by_cases h4 : 4 ≤ (nth V 16).toNat
        · rw [if_pos h4]
          refine c_condT rfl (decide_eq_true h4) ?_
          refine S_ ?_
          refine c_region ?_
          first
            | refine s_val (v_idxA1 (j := 16) rfl rfl Try.underlying44 sz_42 (by omega)) rfl ?_
            | refine s_val (v_idxA (j := 16) rfl rfl Try.underlying44 sz_42 (by omega)) rfl ?_
          refine s_val (v_load32 rfl rfl row_42 LT_) rfl ?_
          refine s_val (v_and32 (b := 3#32) rfl rfl) rfl ?_
          first
            | refine s_val (v_idxA1 (j := 16) rfl rfl Try.underlying44 sz_42 (by omega)) rfl ?_
            | refine s_val (v_idxA (j := 16) rfl rfl Try.underlying44 sz_42 (by omega)) rfl ?_
          refine s_store32 rfl rfl rfl sz_42 LT_ SET_ ?_
          refine s_nil ?_
          refine S_ ?_
          refine c_region ?_
          refine s_val (v_loadR rfl rfl row_44 sz_44 EQ_ (by decide)) rfl ?_
          refine s_storeR rfl rfl rfl rfl sz_44 EQ_ EQ_ SET_ ?_
          refine s_nil ?_
          refine S_ ?_
          exact k_1 (r_row rfl rfl row_44 sz_44 EQ_ (by decide)) (by first | kernel_rfl | rfl)
        · rw [if_neg h4]
          refine c_condF rfl (decide_eq_false h4) ?_
          refine S_ ?_
          refine c_region ?_
          refine s_val (v_loadR rfl rfl row_44 sz_44 EQ_ (by decide)) rfl ?_
          refine s_storeR rfl rfl rfl rfl sz_44 EQ_ EQ_ SET_ ?_
          refine s_nil ?_
          refine S_ ?_
          exact k_1 (r_row rfl rfl row_44 sz_44 EQ_ (by decide)) (by first | kernel_rfl | rfl)
end Go.Proofs.Ytlphiohgehkjlaa
