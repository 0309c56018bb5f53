/- The walk of trystref01.Tag. -/
import Derived.Test.YtlphiohgehkjlaaPRefMod
namespace Go.Proofs.Ytlphiohgehkjlaa
open Go.RowKit
def setR (key : List (BitVec 8)) : Nat → List (BitVec 32)
  | 0 => zer32 64
  | k + 1 => put (setR key k) k ((nth key k).setWidth 32)
theorem setR_length (key : List (BitVec 8)) (k : Nat) : (setR key k).length = 64 := by
  induction k with
  | zero => rfl
  | succ k ih => simp [setR, ih]
def rA (l : List (BitVec 32)) : Nat → List (BitVec 32)
  | 0 => l
  | k + 1 => put (rA l k) (3 + 4 * k) (nth (rA l k) (3 + 4 * k) &&& 15#32)
theorem rA_length (l : List (BitVec 32)) (k : Nat) : (rA l k).length = l.length := by
  induction k with
  | zero => rfl
  | succ k ih => simp [rA, ih]
def rB (l : List (BitVec 32)) : Nat → List (BitVec 32)
  | 0 => l
  | k + 1 => put (rB l k) (4 + 4 * k) (nth (rB l k) (4 + 4 * k) &&& 252#32)
theorem rB_length (l : List (BitVec 32)) (k : Nat) : (rB l k).length = l.length := by
  induction k with
  | zero => rfl
  | succ k ih => simp [rB, ih]
/-- The first half of the key, as it counts. -/
def refR (key : List (BitVec 8)) : List (BitVec 32) := rB (rA (setR key 16) 4) 3
def addText (t : List (BitVec 8)) (i : Nat) (h : List (BitVec 32)) : Nat → List (BitVec 32)
  | 0 => h
  | k + 1 => put (addText t i h k) k (nth (addText t i h k) k + (nth t (i + k)).setWidth 32)
theorem addText_length (t : List (BitVec 8)) (i : Nat) (h : List (BitVec 32)) (k : Nat) : (addText t i h k).length = h.length := by
  induction k with
  | zero => rfl
  | succ k ih => simp [addText, ih]
def addPiece (t : List (BitVec 8)) (i L : Nat) (h : List (BitVec 32)) : List (BitVec 32) := put (addText t i h L) L (nth (addText t i h L) L + 1#32)
def prodRow (h r p : List (BitVec 32)) (i : Nat) : Nat → List (BitVec 32)
  | 0 => p
  | j + 1 => put (prodRow h r p i j) (i + j) (nth (prodRow h r p i j) (i + j) + nth h i * nth r j)
theorem prodRow_length (h r p : List (BitVec 32)) (i j : Nat) : (prodRow h r p i j).length = p.length := by
  induction j with
  | zero => rfl
  | succ j ih => simp [prodRow, ih]
def prodAll (h r : List (BitVec 32)) : Nat → List (BitVec 32)
  | 0 => zer32 64
  | i + 1 => prodRow h r (prodAll h r i) i 16
theorem prodAll_length (h r : List (BitVec 32)) (i : Nat) : (prodAll h r i).length = 64 := by
  induction i with
  | zero => rfl
  | succ i ih => rw [prodAll, prodRow_length, ih]
def refSt (r : List (BitVec 32)) (t : List (BitVec 8)) : Nat → List (BitVec 32)
  | 0 => zer32 64
  | q + 1 => modR (prodAll (modR (addPiece t (16 * q) (min (t.length - 16 * q) 16) (refSt r t q))) r 17)
theorem refSt_length (r : List (BitVec 32)) (t : List (BitVec 8)) (q : Nat) : (refSt r t q).length = 64 := by
  cases q with
  | zero => rfl
  | succ q => exact modR_length _ (prodAll_length _ _ _)
def outSt (h : List (BitVec 32)) (key : List (BitVec 8)) : Nat → List (BitVec 8) × BitVec 32
  | 0 => (zer8 16, 0#32)
  | k + 1 => (put (outSt h key k).1 k (((outSt h key k).2 + (nth h k + (nth key (16 + k)).setWidth 32)).setWidth 8), ((outSt h key k).2 + (nth h k + (nth key (16 + k)).setWidth 32)) >>> 8)
theorem outSt_succ (h : List (BitVec 32)) (key : List (BitVec 8)) (k : Nat) : outSt h key (k + 1) = (put (outSt h key k).1 k (((outSt h key k).2 + (nth h k + (nth key (16 + k)).setWidth 32)).setWidth 8), ((outSt h key k).2 + (nth h k + (nth key (16 + k)).setWidth 32)) >>> 8) := rfl
theorem outSt_length (h : List (BitVec 32)) (key : List (BitVec 8)) (k : Nat) : (outSt h key k).1.length = 16 := by
  induction k with
  | zero => rfl
  | succ k ih => simp [outSt, ih]
def refTag (key t : List (BitVec 8)) : List (BitVec 8) := (outSt (refSt (refR key) t ((t.length + 15) / 16)) key 16).1
theorem refTag_eq (key t : List (BitVec 8)) (n : Nat) (h : t.length = n) : refTag key t = (outSt (refSt (rB (rA (setR key 16) 4) 3) t ((n + 15) / 16)) key 16).1 := by subst h; rfl
@[simp] theorem refTag_length (key t : List (BitVec 8)) : (refTag key t).length = 16 := outSt_length _ _ _
attribute [irreducible] refTag
set_option maxRecDepth 100000 in
set_option maxHeartbeats 2000000 in
theorem refTag_ev (key t : List (BitVec 8)) (n cap : Nat) (hk : key.length = 32) (ht : t.length = n) (hn : n ≤ 1099511627776) : Ev Try.prog (.call 9 [.agg (.a8 key), .c (.sl 0 0 n cap 1)] [.row false (.a8 t)]) (.val (.agg (.a8 (refTag key t))) [.row false (.a8 t)]) := by
  have hP := refTag_eq key t n ht
  refine c_call Try.func9 rfl Try.ntmps9 rfl LEN_ ?_
  refine S_ ?_
  refine c_region ?_
  refine s_memN (m_box BX_ LEN_) APP_ rfl ?_
  refine s_memN (m_alloc al_25 LEN_) APP_ rfl ?_
  refine s_nil ?_
  refine S_ ?_
  refine c_region ?_
  refine s_memN (m_alloc al_44 LEN_) APP_ rfl ?_
  refine s_memN (m_alloc al_44 LEN_) APP_ rfl ?_
  refine s_nil ?_
  refine S_ ?_
  refine c_region ?_
  refine s_val (v_assignC rfl) rfl ?_
  refine s_nil ?_
  refine S_ ?_
  refine c_loopC [2, 4, 5, 6, 7, 1] (fun (x : Nat × List (BitVec 32)) => ⟨128, keepT [2, 4, 5, 6, 7, 1] [.c (.ptr 1 0), .c (.ptr 2 0), .c (.ptr 3 0), .c (.ptr 4 0), .c (.val (.int .i64 (x.1))), .c (.sl 0 0 n cap 1)], [.row false (.a8 (t)), .row true (.a8 (key)), .row true (.a8 (zer8 16)), .row true (.a32 (x.2)), .row true (.a32 (zer32 64))]⟩) (fun j => (j, setR key j)) (16) (by kernel_rfl) ?_ ?_
  · intro j hj
    have h1 : (setR key j).length = 64 := setR_length key j
    simp only [setR]
    generalize setR key j = U at *
    refine S_ ?_
    refine c_region ?_
    first
      | refine s_val (v_moveC rfl) rfl ?_
      | refine s_val (v_moveA rfl) rfl ?_
      | refine s_val (v_moveT rfl) rfl ?_
    first
      | refine s_val (v_lssN (b := 16) rfl rfl) rfl ?_
      | refine s_val (v_lssI rfl rfl) rfl ?_
    refine s_nil ?_
    refine S_ ?_
    refine c_region ?_
    first
      | refine s_val (v_moveC rfl) rfl ?_
      | refine s_val (v_moveA rfl) rfl ?_
      | refine s_val (v_moveT rfl) rfl ?_
    first
      | refine s_val (v_moveC rfl) rfl ?_
      | refine s_val (v_moveA rfl) rfl ?_
      | refine s_val (v_moveT rfl) rfl ?_
    first
      | refine s_val (v_idxA1 rfl rfl Try.underlying22 sz_5 (by omega)) rfl ?_
      | refine s_val (v_idxA rfl rfl Try.underlying22 sz_5 (by omega)) rfl ?_
    refine s_val (v_load8 rfl rfl row_5 LT_) rfl ?_
    refine s_val (v_conv rfl Try.underlying5 Try.underlying42 (w8_32 _)) rfl ?_
    first
      | refine s_val (v_idxA1 rfl rfl Try.underlying44 sz_42 (by omega)) rfl ?_
      | refine s_val (v_idxA rfl rfl Try.underlying44 sz_42 (by omega)) rfl ?_
    refine s_store32 rfl rfl rfl sz_42 LT_ SET_ ?_
    refine s_nil ?_
    refine S_ ?_
    refine c_region ?_
    first
      | refine s_val (v_moveC rfl) rfl ?_
      | refine s_val (v_moveA rfl) rfl ?_
      | refine s_val (v_moveT rfl) rfl ?_
    first
      | refine s_val (v_addN (b := 1) rfl rfl (by omega)) rfl ?_
      | refine s_val (v_addI rfl rfl (by omega)) rfl ?_
    first
      | refine s_val (v_assignC rfl) rfl ?_
      | refine s_val (v_assignA rfl) rfl ?_
      | refine s_val (v_assignT rfl) rfl ?_
    refine s_nil ?_
    exact ⟨_, by kernel_rfl, rfl⟩
  · have h1 : (setR key 16).length = 64 := setR_length key 16
    generalize setR key 16 = U at *
    dsimp only
    refine S_ ?_
    refine c_region ?_
    first
      | refine s_val (v_moveC rfl) rfl ?_
      | refine s_val (v_moveA rfl) rfl ?_
      | refine s_val (v_moveT rfl) rfl ?_
    first
      | refine s_val (v_lssN (b := 16) rfl rfl) rfl ?_
      | refine s_val (v_lssI rfl rfl) rfl ?_
    refine s_nil ?_
    refine S_ ?_
    refine c_region ?_
    refine s_val (v_assignC rfl) rfl ?_
    refine s_nil ?_
    refine S_ ?_
    refine c_loopC [2, 4, 5, 6, 8, 1] (fun (x : Nat × List (BitVec 32)) => ⟨128, keepT [2, 4, 5, 6, 8, 1] [.c (.ptr 1 0), .c (.ptr 2 0), .c (.ptr 3 0), .c (.ptr 4 0), .c (.val (.int .i64 (x.1))), .c (.sl 0 0 n cap 1)], [.row false (.a8 (t)), .row true (.a8 (key)), .row true (.a8 (zer8 16)), .row true (.a32 (x.2)), .row true (.a32 (zer32 64))]⟩) (fun j => (3 + 4 * j, rA U j)) (4) (by kernel_rfl) ?_ ?_
    · intro j hj
      have h2 : (rA U j).length = 64 := by rw [rA_length, h1]
      simp only [rA]
      generalize rA U j = V at *
      refine S_ ?_
      refine c_region ?_
      first
        | refine s_val (v_moveC rfl) rfl ?_
        | refine s_val (v_moveA rfl) rfl ?_
        | refine s_val (v_moveT rfl) rfl ?_
      first
        | refine s_val (v_lssN (b := 16) rfl rfl) rfl ?_
        | refine s_val (v_lssI rfl rfl) rfl ?_
      refine s_nil ?_
      refine S_ ?_
      refine c_region ?_
      first
        | refine s_val (v_moveC rfl) rfl ?_
        | refine s_val (v_moveA rfl) rfl ?_
        | refine s_val (v_moveT rfl) rfl ?_
      first
        | refine s_val (v_idxA1 rfl rfl Try.underlying44 sz_42 (by omega)) rfl ?_
        | refine s_val (v_idxA rfl rfl Try.underlying44 sz_42 (by omega)) rfl ?_
      refine s_val (v_load32 rfl rfl row_42 LT_) rfl ?_
      refine s_val (v_and32 (b := 15#32) rfl rfl) rfl ?_
      first
        | refine s_val (v_idxA1 rfl rfl Try.underlying44 sz_42 (by omega)) rfl ?_
        | refine s_val (v_idxA rfl rfl Try.underlying44 sz_42 (by omega)) rfl ?_
      refine s_store32 rfl rfl rfl sz_42 LT_ SET_ ?_
      refine s_nil ?_
      refine S_ ?_
      refine c_region ?_
      first
        | refine s_val (v_moveC rfl) rfl ?_
        | refine s_val (v_moveA rfl) rfl ?_
        | refine s_val (v_moveT rfl) rfl ?_
      first
        | refine s_val (v_addN (b := 4) rfl rfl (by omega)) rfl ?_
        | refine s_val (v_addI rfl rfl (by omega)) rfl ?_
      first
        | refine s_val (v_assignC rfl) rfl ?_
        | refine s_val (v_assignA rfl) rfl ?_
        | refine s_val (v_assignT rfl) rfl ?_
      refine s_nil ?_
      exact ⟨(3 + 4 * j + 4, _), by kernel_rfl, by rw [Nat.mul_succ, Nat.add_assoc]⟩
    · have h2 : (rA U 4).length = 64 := by rw [rA_length, h1]
      generalize rA U 4 = V at *
      dsimp only
      refine S_ ?_
      refine c_region ?_
      first
        | refine s_val (v_moveC rfl) rfl ?_
        | refine s_val (v_moveA rfl) rfl ?_
        | refine s_val (v_moveT rfl) rfl ?_
      first
        | refine s_val (v_lssN (b := 16) rfl rfl) rfl ?_
        | refine s_val (v_lssI rfl rfl) rfl ?_
      refine s_nil ?_
      refine S_ ?_
      refine c_region ?_
      refine s_val (v_assignC rfl) rfl ?_
      refine s_nil ?_
      refine S_ ?_
      refine c_loopC [2, 4, 5, 6, 9, 1] (fun (x : Nat × List (BitVec 32)) => ⟨128, keepT [2, 4, 5, 6, 9, 1] [.c (.ptr 1 0), .c (.ptr 2 0), .c (.ptr 3 0), .c (.ptr 4 0), .c (.val (.int .i64 (x.1))), .c (.sl 0 0 n cap 1)], [.row false (.a8 (t)), .row true (.a8 (key)), .row true (.a8 (zer8 16)), .row true (.a32 (x.2)), .row true (.a32 (zer32 64))]⟩) (fun j => (4 + 4 * j, rB V j)) (3) (by kernel_rfl) ?_ ?_
      · intro j hj
        have h3 : (rB V j).length = 64 := by rw [rB_length, h2]
        simp only [rB]
        generalize rB V j = W at *
        refine S_ ?_
        refine c_region ?_
        first
          | refine s_val (v_moveC rfl) rfl ?_
          | refine s_val (v_moveA rfl) rfl ?_
          | refine s_val (v_moveT rfl) rfl ?_
        first
          | refine s_val (v_lssN (b := 16) rfl rfl) rfl ?_
          | refine s_val (v_lssI rfl rfl) rfl ?_
        refine s_nil ?_
        refine S_ ?_
        refine c_region ?_
        first
          | refine s_val (v_moveC rfl) rfl ?_
          | refine s_val (v_moveA rfl) rfl ?_
          | refine s_val (v_moveT rfl) rfl ?_
        first
          | refine s_val (v_idxA1 rfl rfl Try.underlying44 sz_42 (by omega)) rfl ?_
          | refine s_val (v_idxA rfl rfl Try.underlying44 sz_42 (by omega)) rfl ?_
        refine s_val (v_load32 rfl rfl row_42 LT_) rfl ?_
        refine s_val (v_and32 (b := 252#32) rfl rfl) rfl ?_
        first
          | refine s_val (v_idxA1 rfl rfl Try.underlying44 sz_42 (by omega)) rfl ?_
          | refine s_val (v_idxA rfl rfl Try.underlying44 sz_42 (by omega)) rfl ?_
        refine s_store32 rfl rfl rfl sz_42 LT_ SET_ ?_
        refine s_nil ?_
        refine S_ ?_
        refine c_region ?_
        first
          | refine s_val (v_moveC rfl) rfl ?_
          | refine s_val (v_moveA rfl) rfl ?_
          | refine s_val (v_moveT rfl) rfl ?_
        first
          | refine s_val (v_addN (b := 4) rfl rfl (by omega)) rfl ?_
          | refine s_val (v_addI rfl rfl (by omega)) rfl ?_
        first
          | refine s_val (v_assignC rfl) rfl ?_
          | refine s_val (v_assignA rfl) rfl ?_
          | refine s_val (v_assignT rfl) rfl ?_
        refine s_nil ?_
        exact ⟨(4 + 4 * j + 4, _), by kernel_rfl, by rw [Nat.mul_succ, Nat.add_assoc]⟩
      · have h3 : (rB V 3).length = 64 := by rw [rB_length, h2]
        generalize rB V 3 = W at *
        dsimp only
        refine S_ ?_
        refine c_region ?_
        first
          | refine s_val (v_moveC rfl) rfl ?_
          | refine s_val (v_moveA rfl) rfl ?_
          | refine s_val (v_moveT rfl) rfl ?_
        first
          | refine s_val (v_lssN (b := 16) rfl rfl) rfl ?_
          | refine s_val (v_lssI rfl rfl) rfl ?_
        refine s_nil ?_
        refine S_ ?_
        refine c_region ?_
        refine s_val (v_assignC rfl) rfl ?_
        refine s_nil ?_
        refine S_ ?_
        refine c_loopC [2, 4, 5, 6, 10, 1] (fun (x : Nat × List (BitVec 32)) => ⟨128, keepT [2, 4, 5, 6, 10, 1] [.c (.ptr 1 0), .c (.ptr 2 0), .c (.ptr 3 0), .c (.ptr 4 0), .c (.val (.int .i64 (x.1))), .c (.sl 0 0 n cap 1)], [.row false (.a8 (t)), .row true (.a8 (key)), .row true (.a8 (zer8 16)), .row true (.a32 (W)), .row true (.a32 (x.2))]⟩) (fun q => (16 * q, refSt W t q)) ((n + 15) / 16) (by kernel_rfl) ?_ ?_
        · intro q hq
          have h4 : (refSt W t q).length = 64 := refSt_length W t q
          rw [refSt, ht]
          generalize refSt W t q = H at *
          refine S_ ?_
          refine c_region ?_
          first
            | refine s_val (v_moveC rfl) rfl ?_
            | refine s_val (v_moveA rfl) rfl ?_
            | refine s_val (v_moveT rfl) rfl ?_
          first
            | refine s_val (v_moveC rfl) rfl ?_
            | refine s_val (v_moveA rfl) rfl ?_
            | refine s_val (v_moveT rfl) rfl ?_
          first
            | refine s_val (v_lenS rfl Try.underlying23) rfl ?_
            | refine s_val (v_lenN rfl Try.underlying23) rfl ?_
            | refine s_val (v_lenE rfl Try.underlying23) rfl ?_
          first
            | refine s_val (v_lssN rfl rfl) rfl ?_
            | refine s_val (v_lssI rfl rfl) rfl ?_
          refine s_nil ?_
          refine S_ ?_
          refine c_region ?_
          first
            | refine s_val (v_moveC rfl) rfl ?_
            | refine s_val (v_moveA rfl) rfl ?_
            | refine s_val (v_moveT rfl) rfl ?_
          first
            | refine s_val (v_lenS rfl Try.underlying23) rfl ?_
            | refine s_val (v_lenN rfl Try.underlying23) rfl ?_
            | refine s_val (v_lenE rfl Try.underlying23) rfl ?_
          first
            | refine s_val (v_moveC rfl) rfl ?_
            | refine s_val (v_moveA rfl) rfl ?_
            | refine s_val (v_moveT rfl) rfl ?_
          first
            | refine s_val (v_subN rfl rfl (by omega) (by omega)) rfl ?_
            | refine s_val (v_subI rfl rfl (by omega)) rfl ?_
          refine s_val (v_minN (b := 16) rfl rfl) rfl ?_
          first
            | refine s_val (v_assignC rfl) rfl ?_
            | refine s_val (v_assignA rfl) rfl ?_
            | refine s_val (v_assignT rfl) rfl ?_
          refine s_nil ?_
          refine S_ ?_
          refine c_region ?_
          refine s_val (v_assignC rfl) rfl ?_
          refine s_nil ?_
          have hL : min (n - 16 * q) 16 ≤ 16 ∧ 16 * q + min (n - 16 * q) 16 ≤ n := by omega
          generalize min (n - 16 * q) 16 = L at *
          unfold addPiece
          refine S_ ?_
          refine c_loopC [2, 4, 5, 6, 10, 1, 11, 12] (fun (x : Nat × List (BitVec 32)) => ⟨128, keepT [2, 4, 5, 6, 10, 1, 11, 12] [.c (.ptr 1 0), .c (.ptr 2 0), .c (.ptr 3 0), .c (.ptr 4 0), .c (.val (.int .i64 (((16 * q : Nat) : Int)))), .c (.sl 0 0 n cap 1), .c (.val (.int .i64 (L))), .c (.val (.int .i64 (x.1)))], [.row false (.a8 (t)), .row true (.a8 (key)), .row true (.a8 (zer8 16)), .row true (.a32 (W)), .row true (.a32 (x.2))]⟩) (fun j => (j, addText t (16 * q) H j)) (L) (by kernel_rfl) ?_ ?_
          · intro j hj
            have h5 : (addText t (16 * q) H j).length = 64 := by rw [addText_length, h4]
            simp only [addText]
            generalize addText t (16 * q) H j = X at *
            refine S_ ?_
            refine c_region ?_
            first
              | refine s_val (v_moveC rfl) rfl ?_
              | refine s_val (v_moveA rfl) rfl ?_
              | refine s_val (v_moveT rfl) rfl ?_
            first
              | refine s_val (v_moveC rfl) rfl ?_
              | refine s_val (v_moveA rfl) rfl ?_
              | refine s_val (v_moveT rfl) rfl ?_
            first
              | refine s_val (v_lssN rfl rfl) rfl ?_
              | refine s_val (v_lssI rfl rfl) rfl ?_
            refine s_nil ?_
            refine S_ ?_
            refine c_draw 12 mixed (by kernel_rfl) rfl rfl rfl ?_
            first
              | refine h_val (v_moveC rfl) rfl ?_
              | refine h_val (v_moveA rfl) rfl ?_
              | refine h_val (v_moveT rfl) rfl ?_
            first
              | refine h_val (v_idxA1 rfl rfl Try.underlying44 sz_42 (by omega)) rfl ?_
              | refine h_val (v_idxA rfl rfl Try.underlying44 sz_42 (by omega)) rfl ?_
            refine h_val (v_load32 rfl rfl row_42 LT_) rfl ?_
            first
              | refine h_val (v_moveC rfl) rfl ?_
              | refine h_val (v_moveA rfl) rfl ?_
              | refine h_val (v_moveT rfl) rfl ?_
            first
              | refine h_val (v_moveC rfl) rfl ?_
              | refine h_val (v_moveA rfl) rfl ?_
              | refine h_val (v_moveT rfl) rfl ?_
            first
              | refine h_val (v_moveC rfl) rfl ?_
              | refine h_val (v_moveA rfl) rfl ?_
              | refine h_val (v_moveT rfl) rfl ?_
            first
              | refine h_val (v_addN rfl rfl (by omega)) rfl ?_
              | refine h_val (v_addI rfl rfl (by omega)) rfl ?_
            first
              | refine h_val (v_idxS1 rfl rfl Try.underlying23 sz_5 (by omega)) rfl ?_
              | refine h_val (v_idxSo rfl rfl Try.underlying23 sz_5 (by omega)) rfl ?_
              | refine h_val (v_idxS rfl rfl Try.underlying23 sz_5 (by omega)) rfl ?_
            refine h_val (v_load8 rfl rfl row_5 LT_) rfl ?_
            refine h_val (v_conv rfl Try.underlying5 Try.underlying42 (w8_32 _)) rfl ?_
            refine h_val (v_add32 rfl rfl) rfl ?_
            first
              | refine h_val (v_idxA1 rfl rfl Try.underlying44 sz_42 (by omega)) rfl ?_
              | refine h_val (v_idxA rfl rfl Try.underlying44 sz_42 (by omega)) rfl ?_
            refine h_nil ?_
            refine s_store32 rfl rfl rfl sz_42 LT_ SET_ ?_
            refine s_nil ?_
            refine S_ ?_
            refine c_region ?_
            first
              | refine s_val (v_moveC rfl) rfl ?_
              | refine s_val (v_moveA rfl) rfl ?_
              | refine s_val (v_moveT rfl) rfl ?_
            first
              | refine s_val (v_addN (b := 1) rfl rfl (by omega)) rfl ?_
              | refine s_val (v_addI rfl rfl (by omega)) rfl ?_
            first
              | refine s_val (v_assignC rfl) rfl ?_
              | refine s_val (v_assignA rfl) rfl ?_
              | refine s_val (v_assignT rfl) rfl ?_
            refine s_nil ?_
            exact ⟨_, by kernel_rfl, rfl⟩
          · have h5 : (addText t (16 * q) H L).length = 64 := by rw [addText_length, h4]
            generalize addText t (16 * q) H L = X at *
            dsimp only
            refine S_ ?_
            refine c_region ?_
            first
              | refine s_val (v_moveC rfl) rfl ?_
              | refine s_val (v_moveA rfl) rfl ?_
              | refine s_val (v_moveT rfl) rfl ?_
            first
              | refine s_val (v_moveC rfl) rfl ?_
              | refine s_val (v_moveA rfl) rfl ?_
              | refine s_val (v_moveT rfl) rfl ?_
            first
              | refine s_val (v_lssN rfl rfl) rfl ?_
              | refine s_val (v_lssI rfl rfl) rfl ?_
            refine s_nil ?_
            have h6 : (put X L (nth X L + 1#32)).length = 64 := by rw [put_length, h5]
            refine S_ ?_
            refine c_region ?_
            first
              | refine s_val (v_moveC rfl) rfl ?_
              | refine s_val (v_moveA rfl) rfl ?_
              | refine s_val (v_moveT rfl) rfl ?_
            first
              | refine s_val (v_idxA1 rfl rfl Try.underlying44 sz_42 (by omega)) rfl ?_
              | refine s_val (v_idxA rfl rfl Try.underlying44 sz_42 (by omega)) rfl ?_
            refine s_val (v_load32 rfl rfl row_42 LT_) rfl ?_
            refine s_val (v_add32 (b := 1#32) rfl rfl) rfl ?_
            first
              | refine s_val (v_idxA1 rfl rfl Try.underlying44 sz_42 (by omega)) rfl ?_
              | refine s_val (v_idxA rfl rfl Try.underlying44 sz_42 (by omega)) rfl ?_
            refine s_store32 rfl rfl rfl sz_42 LT_ SET_ ?_
            refine s_nil ?_
            generalize put X L (nth X L + 1#32) = Y at *
            have h7 : (modR Y).length = 64 := modR_length Y h6
            refine S_ ?_
            refine c_region ?_
            refine s_val (v_loadR rfl rfl row_44 sz_44 EQ_ (by decide)) rfl ?_
            refine s_evN (e_callR (mod1305_ev _ h6) ok_15 rfl rfl rfl VAL_) APP_ rfl ?_
            refine s_storeR rfl rfl rfl rfl sz_44 EQ_ EQ_ SET_ ?_
            refine s_nil ?_
            generalize modR Y = Z at *
            refine S_ ?_
            refine c_region ?_
            refine s_memN (m_alloc al_44 LEN_) APP_ rfl ?_
            refine s_nil ?_
            refine S_ ?_
            refine c_region ?_
            refine s_val (v_assignC rfl) rfl ?_
            refine s_nil ?_
            refine S_ ?_
            refine c_loopC [2, 4, 5, 6, 10, 1, 13, 14] (fun (x : Nat × List (BitVec 32)) => ⟨128, keepT [2, 4, 5, 6, 10, 1, 13, 14] [.c (.ptr 1 0), .c (.ptr 2 0), .c (.ptr 3 0), .c (.ptr 4 0), .c (.val (.int .i64 (((16 * q : Nat) : Int)))), .c (.sl 0 0 n cap 1), .c (.ptr 5 0), .c (.val (.int .i64 (x.1)))], [.row false (.a8 (t)), .row true (.a8 (key)), .row true (.a8 (zer8 16)), .row true (.a32 (W)), .row true (.a32 (Z)), .row true (.a32 (x.2))]⟩) (fun j => (j, prodAll Z W j)) (17) (by kernel_rfl) ?_ ?_
            · intro i hi
              have h8 : (prodAll Z W i).length = 64 := prodAll_length Z W i
              simp only [prodAll]
              generalize prodAll Z W i = F at *
              refine S_ ?_
              refine c_region ?_
              first
                | refine s_val (v_moveC rfl) rfl ?_
                | refine s_val (v_moveA rfl) rfl ?_
                | refine s_val (v_moveT rfl) rfl ?_
              first
                | refine s_val (v_lssN (b := 17) rfl rfl) rfl ?_
                | refine s_val (v_lssI rfl rfl) rfl ?_
              refine s_nil ?_
              refine S_ ?_
              refine c_region ?_
              refine s_val (v_assignC rfl) rfl ?_
              refine s_nil ?_
              refine S_ ?_
              refine c_loopC [2, 4, 5, 6, 10, 1, 13, 14, 15] (fun (x : Nat × List (BitVec 32)) => ⟨128, keepT [2, 4, 5, 6, 10, 1, 13, 14, 15] [.c (.ptr 1 0), .c (.ptr 2 0), .c (.ptr 3 0), .c (.ptr 4 0), .c (.val (.int .i64 (((16 * q : Nat) : Int)))), .c (.sl 0 0 n cap 1), .c (.ptr 5 0), .c (.val (.int .i64 (i))), .c (.val (.int .i64 (x.1)))], [.row false (.a8 (t)), .row true (.a8 (key)), .row true (.a8 (zer8 16)), .row true (.a32 (W)), .row true (.a32 (Z)), .row true (.a32 (x.2))]⟩) (fun j => (j, prodRow Z W F i j)) (16) (by kernel_rfl) ?_ ?_
              · intro j hj
                have h9 : (prodRow Z W F i j).length = 64 := by rw [prodRow_length, h8]
                simp only [prodRow]
                generalize prodRow Z W F i j = G at *
                refine S_ ?_
                refine c_region ?_
                first
                  | refine s_val (v_moveC rfl) rfl ?_
                  | refine s_val (v_moveA rfl) rfl ?_
                  | refine s_val (v_moveT rfl) rfl ?_
                first
                  | refine s_val (v_lssN (b := 16) rfl rfl) rfl ?_
                  | refine s_val (v_lssI rfl rfl) rfl ?_
                refine s_nil ?_
                refine S_ ?_
                refine c_draw 14 mixed (by kernel_rfl) rfl rfl rfl ?_
                first
                  | refine h_val (v_moveC rfl) rfl ?_
                  | refine h_val (v_moveA rfl) rfl ?_
                  | refine h_val (v_moveT rfl) rfl ?_
                first
                  | refine h_val (v_moveC rfl) rfl ?_
                  | refine h_val (v_moveA rfl) rfl ?_
                  | refine h_val (v_moveT rfl) rfl ?_
                first
                  | refine h_val (v_addN rfl rfl (by omega)) rfl ?_
                  | refine h_val (v_addI rfl rfl (by omega)) rfl ?_
                first
                  | refine h_val (v_idxA1 rfl rfl Try.underlying44 sz_42 (by omega)) rfl ?_
                  | refine h_val (v_idxA rfl rfl Try.underlying44 sz_42 (by omega)) rfl ?_
                refine h_val (v_load32 rfl rfl row_42 LT_) rfl ?_
                first
                  | refine h_val (v_moveC rfl) rfl ?_
                  | refine h_val (v_moveA rfl) rfl ?_
                  | refine h_val (v_moveT rfl) rfl ?_
                first
                  | refine h_val (v_idxA1 rfl rfl Try.underlying44 sz_42 (by omega)) rfl ?_
                  | refine h_val (v_idxA rfl rfl Try.underlying44 sz_42 (by omega)) rfl ?_
                refine h_val (v_load32 rfl rfl row_42 LT_) rfl ?_
                first
                  | refine h_val (v_moveC rfl) rfl ?_
                  | refine h_val (v_moveA rfl) rfl ?_
                  | refine h_val (v_moveT rfl) rfl ?_
                first
                  | refine h_val (v_idxA1 rfl rfl Try.underlying44 sz_42 (by omega)) rfl ?_
                  | refine h_val (v_idxA rfl rfl Try.underlying44 sz_42 (by omega)) rfl ?_
                refine h_val (v_load32 rfl rfl row_42 LT_) rfl ?_
                refine h_val (v_mul32 rfl rfl) rfl ?_
                refine h_val (v_add32 rfl rfl) rfl ?_
                first
                  | refine h_val (v_idxA1 rfl rfl Try.underlying44 sz_42 (by omega)) rfl ?_
                  | refine h_val (v_idxA rfl rfl Try.underlying44 sz_42 (by omega)) rfl ?_
                refine h_nil ?_
                refine s_store32 rfl rfl rfl sz_42 LT_ SET_ ?_
                refine s_nil ?_
                refine S_ ?_
                refine c_region ?_
                first
                  | refine s_val (v_moveC rfl) rfl ?_
                  | refine s_val (v_moveA rfl) rfl ?_
                  | refine s_val (v_moveT rfl) rfl ?_
                first
                  | refine s_val (v_addN (b := 1) rfl rfl (by omega)) rfl ?_
                  | refine s_val (v_addI rfl rfl (by omega)) rfl ?_
                first
                  | refine s_val (v_assignC rfl) rfl ?_
                  | refine s_val (v_assignA rfl) rfl ?_
                  | refine s_val (v_assignT rfl) rfl ?_
                refine s_nil ?_
                exact ⟨_, by kernel_rfl, rfl⟩
              · have h9 : (prodRow Z W F i 16).length = 64 := by rw [prodRow_length, h8]
                generalize prodRow Z W F i 16 = G at *
                dsimp only
                refine S_ ?_
                refine c_region ?_
                first
                  | refine s_val (v_moveC rfl) rfl ?_
                  | refine s_val (v_moveA rfl) rfl ?_
                  | refine s_val (v_moveT rfl) rfl ?_
                first
                  | refine s_val (v_lssN (b := 16) rfl rfl) rfl ?_
                  | refine s_val (v_lssI rfl rfl) rfl ?_
                refine s_nil ?_
                refine S_ ?_
                refine c_region ?_
                first
                  | refine s_val (v_moveC rfl) rfl ?_
                  | refine s_val (v_moveA rfl) rfl ?_
                  | refine s_val (v_moveT rfl) rfl ?_
                first
                  | refine s_val (v_addN (b := 1) rfl rfl (by omega)) rfl ?_
                  | refine s_val (v_addI rfl rfl (by omega)) rfl ?_
                first
                  | refine s_val (v_assignC rfl) rfl ?_
                  | refine s_val (v_assignA rfl) rfl ?_
                  | refine s_val (v_assignT rfl) rfl ?_
                refine s_nil ?_
                exact ⟨_, by kernel_rfl, rfl⟩
            · have h8 : (prodAll Z W 17).length = 64 := prodAll_length Z W 17
              generalize prodAll Z W 17 = F at *
              dsimp only
              refine S_ ?_
              refine c_region ?_
              first
                | refine s_val (v_moveC rfl) rfl ?_
                | refine s_val (v_moveA rfl) rfl ?_
                | refine s_val (v_moveT rfl) rfl ?_
              first
                | refine s_val (v_lssN (b := 17) rfl rfl) rfl ?_
                | refine s_val (v_lssI rfl rfl) rfl ?_
              refine s_nil ?_
              have h9 : (modR F).length = 64 := modR_length F h8
              refine S_ ?_
              refine c_region ?_
              refine s_val (v_loadR rfl rfl row_44 sz_44 EQ_ (by decide)) rfl ?_
              refine s_evN (e_callR (mod1305_ev _ h8) ok_15 rfl rfl rfl VAL_) APP_ rfl ?_
              refine s_storeR rfl rfl rfl rfl sz_44 EQ_ EQ_ SET_ ?_
              refine s_nil ?_
              refine S_ ?_
              refine c_region ?_
              first
                | refine s_val (v_moveC rfl) rfl ?_
                | refine s_val (v_moveA rfl) rfl ?_
                | refine s_val (v_moveT rfl) rfl ?_
              first
                | refine s_val (v_addN (b := 16) rfl rfl (by omega)) rfl ?_
                | refine s_val (v_addI rfl rfl (by omega)) rfl ?_
              first
                | refine s_val (v_assignC rfl) rfl ?_
                | refine s_val (v_assignA rfl) rfl ?_
                | refine s_val (v_assignT rfl) rfl ?_
              refine s_nil ?_
              exact ⟨(16 * q + 16, _), by kernel_rfl, by rw [Nat.mul_succ]⟩
        · have h4 : (refSt W t ((n + 15) / 16)).length = 64 := refSt_length W t _
          rw [hP]
          dsimp only
          generalize refSt W t ((n + 15) / 16) = H at *
          refine S_ ?_
          refine c_region ?_
          first
            | refine s_val (v_moveC rfl) rfl ?_
            | refine s_val (v_moveA rfl) rfl ?_
            | refine s_val (v_moveT rfl) rfl ?_
          first
            | refine s_val (v_moveC rfl) rfl ?_
            | refine s_val (v_moveA rfl) rfl ?_
            | refine s_val (v_moveT rfl) rfl ?_
          first
            | refine s_val (v_lenS rfl Try.underlying23) rfl ?_
            | refine s_val (v_lenN rfl Try.underlying23) rfl ?_
            | refine s_val (v_lenE rfl Try.underlying23) rfl ?_
          first
            | refine s_val (v_lssN rfl rfl) rfl ?_
            | refine s_val (v_lssI rfl rfl) rfl ?_
          refine s_nil ?_
          refine S_ ?_
          refine c_region ?_
          refine s_memN (m_alloc al_25 LEN_) APP_ rfl ?_
          refine s_nil ?_
          refine S_ ?_
          refine c_region ?_
          refine s_val (v_assignC rfl) rfl ?_
          refine s_nil ?_
          refine S_ ?_
          refine c_region ?_
          refine s_val (v_assignC rfl) rfl ?_
          refine s_nil ?_
          refine S_ ?_
          refine c_loopC [2, 4, 6, 16, 17, 18] (fun (x : Nat × List (BitVec 8) × BitVec 32) => ⟨128, keepT [2, 4, 6, 16, 17, 18] [.c (.ptr 1 0), .c (.ptr 2 0), .c (.ptr 3 0), .c (.ptr 4 0), .c (.val (U32 (x.2.2))), .c (.val (.int .i64 (x.1)))], [.row false (.a8 (t)), .row true (.a8 (key)), .row true (.a8 (zer8 16)), .row true (.a32 (H)), .row true (.a8 (x.2.1))]⟩) (fun j => (j, outSt H key j)) (16) (by kernel_rfl) ?_ ?_
          · intro j hj
            have h5 : (outSt H key j).1.length = 16 := outSt_length H key j
            rw [outSt_succ]
            generalize outSt H key j = U at *
            obtain ⟨U, C⟩ := U
            dsimp only at h5 ⊢
            refine S_ ?_
            refine c_region ?_
            first
              | refine s_val (v_moveC rfl) rfl ?_
              | refine s_val (v_moveA rfl) rfl ?_
              | refine s_val (v_moveT rfl) rfl ?_
            first
              | refine s_val (v_lssN (b := 16) rfl rfl) rfl ?_
              | refine s_val (v_lssI rfl rfl) rfl ?_
            refine s_nil ?_
            refine S_ ?_
            refine c_draw 12 mixed (by kernel_rfl) rfl rfl rfl ?_
            first
              | refine h_val (v_moveC rfl) rfl ?_
              | refine h_val (v_moveA rfl) rfl ?_
              | refine h_val (v_moveT rfl) rfl ?_
            first
              | refine h_val (v_moveC rfl) rfl ?_
              | refine h_val (v_moveA rfl) rfl ?_
              | refine h_val (v_moveT rfl) rfl ?_
            first
              | refine h_val (v_idxA1 rfl rfl Try.underlying44 sz_42 (by omega)) rfl ?_
              | refine h_val (v_idxA rfl rfl Try.underlying44 sz_42 (by omega)) rfl ?_
            refine h_val (v_load32 rfl rfl row_42 LT_) rfl ?_
            first
              | refine h_val (v_moveC rfl) rfl ?_
              | refine h_val (v_moveA rfl) rfl ?_
              | refine h_val (v_moveT rfl) rfl ?_
            first
              | refine h_val (v_addN (a := 16) rfl rfl (by omega)) rfl ?_
              | refine h_val (v_addI rfl rfl (by omega)) rfl ?_
            first
              | refine h_val (v_idxA1 rfl rfl Try.underlying22 sz_5 (by omega)) rfl ?_
              | refine h_val (v_idxA rfl rfl Try.underlying22 sz_5 (by omega)) rfl ?_
            refine h_val (v_load8 rfl rfl row_5 LT_) rfl ?_
            refine h_val (v_conv rfl Try.underlying5 Try.underlying42 (w8_32 _)) rfl ?_
            refine h_val (v_add32 rfl rfl) rfl ?_
            refine h_val (v_add32 rfl rfl) rfl ?_
            first
              | refine h_val (v_assignC rfl) rfl ?_
              | refine h_val (v_assignA rfl) rfl ?_
              | refine h_val (v_assignT rfl) rfl ?_
            refine h_nil ?_
            refine s_nil ?_
            refine S_ ?_
            refine c_region ?_
            first
              | refine s_val (v_moveC rfl) rfl ?_
              | refine s_val (v_moveA rfl) rfl ?_
              | refine s_val (v_moveT rfl) rfl ?_
            first
              | refine s_val (v_moveC rfl) rfl ?_
              | refine s_val (v_moveA rfl) rfl ?_
              | refine s_val (v_moveT rfl) rfl ?_
            refine s_val (v_conv rfl Try.underlying42 Try.underlying5 (w32_8 _)) rfl ?_
            first
              | refine s_val (v_idxA1 rfl rfl Try.underlying25 sz_5 (by omega)) rfl ?_
              | refine s_val (v_idxA rfl rfl Try.underlying25 sz_5 (by omega)) rfl ?_
            refine s_store8 rfl rfl rfl sz_5 LT_ SET_ ?_
            refine s_nil ?_
            refine S_ ?_
            refine c_region ?_
            first
              | refine s_val (v_moveC rfl) rfl ?_
              | refine s_val (v_moveA rfl) rfl ?_
              | refine s_val (v_moveT rfl) rfl ?_
            refine s_val (v_shr32n (j := 8) rfl rfl) rfl ?_
            first
              | refine s_val (v_assignC rfl) rfl ?_
              | refine s_val (v_assignA rfl) rfl ?_
              | refine s_val (v_assignT rfl) rfl ?_
            refine s_nil ?_
            refine S_ ?_
            refine c_region ?_
            first
              | refine s_val (v_moveC rfl) rfl ?_
              | refine s_val (v_moveA rfl) rfl ?_
              | refine s_val (v_moveT rfl) rfl ?_
            first
              | refine s_val (v_addN (b := 1) rfl rfl (by omega)) rfl ?_
              | refine s_val (v_addI rfl rfl (by omega)) rfl ?_
            first
              | refine s_val (v_assignC rfl) rfl ?_
              | refine s_val (v_assignA rfl) rfl ?_
              | refine s_val (v_assignT rfl) rfl ?_
            refine s_nil ?_
            exact ⟨_, by kernel_rfl, rfl⟩
          · have h5 : (outSt H key 16).1.length = 16 := outSt_length H key 16
            generalize outSt H key 16 = U at *
            obtain ⟨U, C⟩ := U
            dsimp only at h5 ⊢
            refine S_ ?_
            refine c_region ?_
            first
              | refine s_val (v_moveC rfl) rfl ?_
              | refine s_val (v_moveA rfl) rfl ?_
              | refine s_val (v_moveT rfl) rfl ?_
            first
              | refine s_val (v_lssN (b := 16) rfl rfl) rfl ?_
              | refine s_val (v_lssI rfl rfl) rfl ?_
            refine s_nil ?_
            refine S_ ?_
            refine c_region ?_
            refine s_val (v_loadR rfl rfl row_25 sz_25 EQ_ (by decide)) rfl ?_
            refine s_storeR rfl rfl rfl rfl sz_25 EQ_ EQ_ SET_ ?_
            refine s_nil ?_
            refine S_ ?_
            exact k_1 (r_row rfl rfl row_25 sz_25 EQ_ (by decide)) (by first | kernel_rfl | rfl)
end Go.Proofs.Ytlphiohgehkjlaa
