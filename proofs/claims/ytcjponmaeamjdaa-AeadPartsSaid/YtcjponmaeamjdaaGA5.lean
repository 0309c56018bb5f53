/- The texts PRefTag, PRefVal, PRefFold, PRefMod2, PRefMod3, PRefEnd, PRefAll, PSame, ASame, ARfJoin, ARfTag, ARfSeal, ARfOpen, ABoth, ABack, AWakes, PKeep, ASeals, Slice, Open, AvOpen, AOpensS, AOpens1, AOpensE, AOpens, ASpoil, merged into one. -/
import Derived.Test.YtcjponmaeamjdaaGA4
import Derived.Laws.AppendOwnNone
import Derived.Deep.RegionLaw
import Derived.WalkKit
import Derived.ProofKit
import Derived.OpenShut
import Derived.ShutString
import Derived.ChangeOld
import Derived.Below
/- The walk of trystref01.Tag. -/
namespace Go.Proofs.Ytcjponmaeamjdaa
open Go.RowKit
def setR (key : List (BitVec 8)) : Nat → List (BitVec 32)
  | 0 => zer32 64
  | k + 1 => put (setR key k) k ((nth key k).setWidth 32)
theorem setR_length (key : List (BitVec 8)) (k : Nat) : (setR key k).length = 64 := by
  induction k with
  | zero => rfl
  | succ k ih => simp [setR, ih]
def rA (l : List (BitVec 32)) : Nat → List (BitVec 32)
  | 0 => l
  | k + 1 => put (rA l k) (3 + 4 * k) (nth (rA l k) (3 + 4 * k) &&& 15#32)
theorem rA_length (l : List (BitVec 32)) (k : Nat) : (rA l k).length = l.length := by
  induction k with
  | zero => rfl
  | succ k ih => simp [rA, ih]
def rB (l : List (BitVec 32)) : Nat → List (BitVec 32)
  | 0 => l
  | k + 1 => put (rB l k) (4 + 4 * k) (nth (rB l k) (4 + 4 * k) &&& 252#32)
theorem rB_length (l : List (BitVec 32)) (k : Nat) : (rB l k).length = l.length := by
  induction k with
  | zero => rfl
  | succ k ih => simp [rB, ih]
/-- The first half of the key, as it counts. -/
def refR (key : List (BitVec 8)) : List (BitVec 32) := rB (rA (setR key 16) 4) 3
def addText (t : List (BitVec 8)) (i : Nat) (h : List (BitVec 32)) : Nat → List (BitVec 32)
  | 0 => h
  | k + 1 => put (addText t i h k) k (nth (addText t i h k) k + (nth t (i + k)).setWidth 32)
theorem addText_length (t : List (BitVec 8)) (i : Nat) (h : List (BitVec 32)) (k : Nat) : (addText t i h k).length = h.length := by
  induction k with
  | zero => rfl
  | succ k ih => simp [addText, ih]
def addPiece (t : List (BitVec 8)) (i L : Nat) (h : List (BitVec 32)) : List (BitVec 32) := put (addText t i h L) L (nth (addText t i h L) L + 1#32)
def prodRow (h r p : List (BitVec 32)) (i : Nat) : Nat → List (BitVec 32)
  | 0 => p
  | j + 1 => put (prodRow h r p i j) (i + j) (nth (prodRow h r p i j) (i + j) + nth h i * nth r j)
theorem prodRow_length (h r p : List (BitVec 32)) (i j : Nat) : (prodRow h r p i j).length = p.length := by
  induction j with
  | zero => rfl
  | succ j ih => simp [prodRow, ih]
def prodAll (h r : List (BitVec 32)) : Nat → List (BitVec 32)
  | 0 => zer32 64
  | i + 1 => prodRow h r (prodAll h r i) i 16
theorem prodAll_length (h r : List (BitVec 32)) (i : Nat) : (prodAll h r i).length = 64 := by
  induction i with
  | zero => rfl
  | succ i ih => rw [prodAll, prodRow_length, ih]
def refSt (r : List (BitVec 32)) (t : List (BitVec 8)) : Nat → List (BitVec 32)
  | 0 => zer32 64
  | q + 1 => modR (prodAll (modR (addPiece t (16 * q) (min (t.length - 16 * q) 16) (refSt r t q))) r 17)
theorem refSt_length (r : List (BitVec 32)) (t : List (BitVec 8)) (q : Nat) : (refSt r t q).length = 64 := by
  cases q with
  | zero => rfl
  | succ q => exact modR_length _ (prodAll_length _ _ _)
def outSt (h : List (BitVec 32)) (key : List (BitVec 8)) : Nat → List (BitVec 8) × BitVec 32
  | 0 => (zer8 16, 0#32)
  | k + 1 => (put (outSt h key k).1 k (((outSt h key k).2 + (nth h k + (nth key (16 + k)).setWidth 32)).setWidth 8), ((outSt h key k).2 + (nth h k + (nth key (16 + k)).setWidth 32)) >>> 8)
theorem outSt_succ (h : List (BitVec 32)) (key : List (BitVec 8)) (k : Nat) : outSt h key (k + 1) = (put (outSt h key k).1 k (((outSt h key k).2 + (nth h k + (nth key (16 + k)).setWidth 32)).setWidth 8), ((outSt h key k).2 + (nth h k + (nth key (16 + k)).setWidth 32)) >>> 8) := rfl
theorem outSt_length (h : List (BitVec 32)) (key : List (BitVec 8)) (k : Nat) : (outSt h key k).1.length = 16 := by
  induction k with
  | zero => rfl
  | succ k ih => simp [outSt, ih]
def refTag (key t : List (BitVec 8)) : List (BitVec 8) := (outSt (refSt (refR key) t ((t.length + 15) / 16)) key 16).1
theorem refTag_eq (key t : List (BitVec 8)) (n : Nat) (h : t.length = n) : refTag key t = (outSt (refSt (rB (rA (setR key 16) 4) 3) t ((n + 15) / 16)) key 16).1 := by subst h; rfl
@[simp] theorem refTag_length (key t : List (BitVec 8)) : (refTag key t).length = 16 := outSt_length _ _ _
attribute [irreducible] refTag
set_option maxRecDepth 100000 in
set_option maxHeartbeats 2000000 in
theorem refTag_ev (key t : List (BitVec 8)) (n cap : Nat) (hk : key.length = 32) (ht : t.length = n) (hn : n ≤ 1099511627776) : Ev Try.prog (.call 30 [.agg (.a8 key), .c (.sl 0 0 n cap 1)] [.row false (.a8 t)]) (.val (.agg (.a8 (refTag key t))) [.row false (.a8 t)]) := by
  have hP := refTag_eq key t n ht
  refine c_call Try.func30 rfl Try.ntmps30 rfl LEN_ ?_
  refine S_ ?_
  refine c_region ?_
  refine s_memN (m_box BX_ LEN_) APP_ rfl ?_
  refine s_memN (m_alloc al_42 LEN_) APP_ rfl ?_
  refine s_nil ?_
  refine S_ ?_
  refine c_region ?_
  refine s_memN (m_alloc al_69 LEN_) APP_ rfl ?_
  refine s_memN (m_alloc al_69 LEN_) APP_ rfl ?_
  refine s_nil ?_
  refine S_ ?_
  refine c_region ?_
  refine s_val (v_assignC rfl) rfl ?_
  refine s_nil ?_
  refine S_ ?_
  refine c_loopC [2, 4, 5, 6, 7, 1] (fun (x : Nat × List (BitVec 32)) => ⟨128, keepT [2, 4, 5, 6, 7, 1] [.c (.ptr 1 0), .c (.ptr 2 0), .c (.ptr 3 0), .c (.ptr 4 0), .c (.val (.int .i64 (x.1))), .c (.sl 0 0 n cap 1)], [.row false (.a8 (t)), .row true (.a8 (key)), .row true (.a8 (zer8 16)), .row true (.a32 (x.2)), .row true (.a32 (zer32 64))]⟩) (fun j => (j, setR key j)) (16) (by kernel_rfl) ?_ ?_
  · intro j hj
    have h1 : (setR key j).length = 64 := setR_length key j
    simp only [setR]
    generalize setR key j = U at *
    refine S_ ?_
    refine c_region ?_
    first
      | refine s_val (v_moveC rfl) rfl ?_
      | refine s_val (v_moveA rfl) rfl ?_
      | refine s_val (v_moveT rfl) rfl ?_
    first
      | refine s_val (v_lssN (b := 16) rfl rfl) rfl ?_
      | refine s_val (v_lssI rfl rfl) rfl ?_
    refine s_nil ?_
    refine S_ ?_
    refine c_region ?_
    first
      | refine s_val (v_moveC rfl) rfl ?_
      | refine s_val (v_moveA rfl) rfl ?_
      | refine s_val (v_moveT rfl) rfl ?_
    first
      | refine s_val (v_moveC rfl) rfl ?_
      | refine s_val (v_moveA rfl) rfl ?_
      | refine s_val (v_moveT rfl) rfl ?_
    first
      | refine s_val (v_idxA1 rfl rfl Try.underlying22 sz_5 (by omega)) rfl ?_
      | refine s_val (v_idxA rfl rfl Try.underlying22 sz_5 (by omega)) rfl ?_
    refine s_val (v_load8 rfl rfl row_5 LT_) rfl ?_
    refine s_val (v_conv rfl Try.underlying5 Try.underlying41 (w8_32 _)) rfl ?_
    first
      | refine s_val (v_idxA1 rfl rfl Try.underlying69 sz_41 (by omega)) rfl ?_
      | refine s_val (v_idxA rfl rfl Try.underlying69 sz_41 (by omega)) rfl ?_
    refine s_store32 rfl rfl rfl sz_41 LT_ SET_ ?_
    refine s_nil ?_
    refine S_ ?_
    refine c_region ?_
    first
      | refine s_val (v_moveC rfl) rfl ?_
      | refine s_val (v_moveA rfl) rfl ?_
      | refine s_val (v_moveT rfl) rfl ?_
    first
      | refine s_val (v_addN (b := 1) rfl rfl (by omega)) rfl ?_
      | refine s_val (v_addI rfl rfl (by omega)) rfl ?_
    first
      | refine s_val (v_assignC rfl) rfl ?_
      | refine s_val (v_assignA rfl) rfl ?_
      | refine s_val (v_assignT rfl) rfl ?_
    refine s_nil ?_
    exact ⟨_, by kernel_rfl, rfl⟩
  · have h1 : (setR key 16).length = 64 := setR_length key 16
    generalize setR key 16 = U at *
    dsimp only
    refine S_ ?_
    refine c_region ?_
    first
      | refine s_val (v_moveC rfl) rfl ?_
      | refine s_val (v_moveA rfl) rfl ?_
      | refine s_val (v_moveT rfl) rfl ?_
    first
      | refine s_val (v_lssN (b := 16) rfl rfl) rfl ?_
      | refine s_val (v_lssI rfl rfl) rfl ?_
    refine s_nil ?_
    refine S_ ?_
    refine c_region ?_
    refine s_val (v_assignC rfl) rfl ?_
    refine s_nil ?_
    refine S_ ?_
    refine c_loopC [2, 4, 5, 6, 8, 1] (fun (x : Nat × List (BitVec 32)) => ⟨128, keepT [2, 4, 5, 6, 8, 1] [.c (.ptr 1 0), .c (.ptr 2 0), .c (.ptr 3 0), .c (.ptr 4 0), .c (.val (.int .i64 (x.1))), .c (.sl 0 0 n cap 1)], [.row false (.a8 (t)), .row true (.a8 (key)), .row true (.a8 (zer8 16)), .row true (.a32 (x.2)), .row true (.a32 (zer32 64))]⟩) (fun j => (3 + 4 * j, rA U j)) (4) (by kernel_rfl) ?_ ?_
    · intro j hj
      have h2 : (rA U j).length = 64 := by rw [rA_length, h1]
      simp only [rA]
      generalize rA U j = V at *
      refine S_ ?_
      refine c_region ?_
      first
        | refine s_val (v_moveC rfl) rfl ?_
        | refine s_val (v_moveA rfl) rfl ?_
        | refine s_val (v_moveT rfl) rfl ?_
      first
        | refine s_val (v_lssN (b := 16) rfl rfl) rfl ?_
        | refine s_val (v_lssI rfl rfl) rfl ?_
      refine s_nil ?_
      refine S_ ?_
      refine c_region ?_
      first
        | refine s_val (v_moveC rfl) rfl ?_
        | refine s_val (v_moveA rfl) rfl ?_
        | refine s_val (v_moveT rfl) rfl ?_
      first
        | refine s_val (v_idxA1 rfl rfl Try.underlying69 sz_41 (by omega)) rfl ?_
        | refine s_val (v_idxA rfl rfl Try.underlying69 sz_41 (by omega)) rfl ?_
      refine s_val (v_load32 rfl rfl row_41 LT_) rfl ?_
      refine s_val (v_and32 (b := 15#32) rfl rfl) rfl ?_
      first
        | refine s_val (v_idxA1 rfl rfl Try.underlying69 sz_41 (by omega)) rfl ?_
        | refine s_val (v_idxA rfl rfl Try.underlying69 sz_41 (by omega)) rfl ?_
      refine s_store32 rfl rfl rfl sz_41 LT_ SET_ ?_
      refine s_nil ?_
      refine S_ ?_
      refine c_region ?_
      first
        | refine s_val (v_moveC rfl) rfl ?_
        | refine s_val (v_moveA rfl) rfl ?_
        | refine s_val (v_moveT rfl) rfl ?_
      first
        | refine s_val (v_addN (b := 4) rfl rfl (by omega)) rfl ?_
        | refine s_val (v_addI rfl rfl (by omega)) rfl ?_
      first
        | refine s_val (v_assignC rfl) rfl ?_
        | refine s_val (v_assignA rfl) rfl ?_
        | refine s_val (v_assignT rfl) rfl ?_
      refine s_nil ?_
      exact ⟨(3 + 4 * j + 4, _), by kernel_rfl, by rw [Nat.mul_succ, Nat.add_assoc]⟩
    · have h2 : (rA U 4).length = 64 := by rw [rA_length, h1]
      generalize rA U 4 = V at *
      dsimp only
      refine S_ ?_
      refine c_region ?_
      first
        | refine s_val (v_moveC rfl) rfl ?_
        | refine s_val (v_moveA rfl) rfl ?_
        | refine s_val (v_moveT rfl) rfl ?_
      first
        | refine s_val (v_lssN (b := 16) rfl rfl) rfl ?_
        | refine s_val (v_lssI rfl rfl) rfl ?_
      refine s_nil ?_
      refine S_ ?_
      refine c_region ?_
      refine s_val (v_assignC rfl) rfl ?_
      refine s_nil ?_
      refine S_ ?_
      refine c_loopC [2, 4, 5, 6, 9, 1] (fun (x : Nat × List (BitVec 32)) => ⟨128, keepT [2, 4, 5, 6, 9, 1] [.c (.ptr 1 0), .c (.ptr 2 0), .c (.ptr 3 0), .c (.ptr 4 0), .c (.val (.int .i64 (x.1))), .c (.sl 0 0 n cap 1)], [.row false (.a8 (t)), .row true (.a8 (key)), .row true (.a8 (zer8 16)), .row true (.a32 (x.2)), .row true (.a32 (zer32 64))]⟩) (fun j => (4 + 4 * j, rB V j)) (3) (by kernel_rfl) ?_ ?_
      · intro j hj
        have h3 : (rB V j).length = 64 := by rw [rB_length, h2]
        simp only [rB]
        generalize rB V j = W at *
        refine S_ ?_
        refine c_region ?_
        first
          | refine s_val (v_moveC rfl) rfl ?_
          | refine s_val (v_moveA rfl) rfl ?_
          | refine s_val (v_moveT rfl) rfl ?_
        first
          | refine s_val (v_lssN (b := 16) rfl rfl) rfl ?_
          | refine s_val (v_lssI rfl rfl) rfl ?_
        refine s_nil ?_
        refine S_ ?_
        refine c_region ?_
        first
          | refine s_val (v_moveC rfl) rfl ?_
          | refine s_val (v_moveA rfl) rfl ?_
          | refine s_val (v_moveT rfl) rfl ?_
        first
          | refine s_val (v_idxA1 rfl rfl Try.underlying69 sz_41 (by omega)) rfl ?_
          | refine s_val (v_idxA rfl rfl Try.underlying69 sz_41 (by omega)) rfl ?_
        refine s_val (v_load32 rfl rfl row_41 LT_) rfl ?_
        refine s_val (v_and32 (b := 252#32) rfl rfl) rfl ?_
        first
          | refine s_val (v_idxA1 rfl rfl Try.underlying69 sz_41 (by omega)) rfl ?_
          | refine s_val (v_idxA rfl rfl Try.underlying69 sz_41 (by omega)) rfl ?_
        refine s_store32 rfl rfl rfl sz_41 LT_ SET_ ?_
        refine s_nil ?_
        refine S_ ?_
        refine c_region ?_
        first
          | refine s_val (v_moveC rfl) rfl ?_
          | refine s_val (v_moveA rfl) rfl ?_
          | refine s_val (v_moveT rfl) rfl ?_
        first
          | refine s_val (v_addN (b := 4) rfl rfl (by omega)) rfl ?_
          | refine s_val (v_addI rfl rfl (by omega)) rfl ?_
        first
          | refine s_val (v_assignC rfl) rfl ?_
          | refine s_val (v_assignA rfl) rfl ?_
          | refine s_val (v_assignT rfl) rfl ?_
        refine s_nil ?_
        exact ⟨(4 + 4 * j + 4, _), by kernel_rfl, by rw [Nat.mul_succ, Nat.add_assoc]⟩
      · have h3 : (rB V 3).length = 64 := by rw [rB_length, h2]
        generalize rB V 3 = W at *
        dsimp only
        refine S_ ?_
        refine c_region ?_
        first
          | refine s_val (v_moveC rfl) rfl ?_
          | refine s_val (v_moveA rfl) rfl ?_
          | refine s_val (v_moveT rfl) rfl ?_
        first
          | refine s_val (v_lssN (b := 16) rfl rfl) rfl ?_
          | refine s_val (v_lssI rfl rfl) rfl ?_
        refine s_nil ?_
        refine S_ ?_
        refine c_region ?_
        refine s_val (v_assignC rfl) rfl ?_
        refine s_nil ?_
        refine S_ ?_
        refine c_loopC [2, 4, 5, 6, 10, 1] (fun (x : Nat × List (BitVec 32)) => ⟨128, keepT [2, 4, 5, 6, 10, 1] [.c (.ptr 1 0), .c (.ptr 2 0), .c (.ptr 3 0), .c (.ptr 4 0), .c (.val (.int .i64 (x.1))), .c (.sl 0 0 n cap 1)], [.row false (.a8 (t)), .row true (.a8 (key)), .row true (.a8 (zer8 16)), .row true (.a32 (W)), .row true (.a32 (x.2))]⟩) (fun q => (16 * q, refSt W t q)) ((n + 15) / 16) (by kernel_rfl) ?_ ?_
        · intro q hq
          have h4 : (refSt W t q).length = 64 := refSt_length W t q
          rw [refSt, ht]
          generalize refSt W t q = H at *
          refine S_ ?_
          refine c_region ?_
          first
            | refine s_val (v_moveC rfl) rfl ?_
            | refine s_val (v_moveA rfl) rfl ?_
            | refine s_val (v_moveT rfl) rfl ?_
          first
            | refine s_val (v_moveC rfl) rfl ?_
            | refine s_val (v_moveA rfl) rfl ?_
            | refine s_val (v_moveT rfl) rfl ?_
          first
            | refine s_val (v_lenS rfl Try.underlying24) rfl ?_
            | refine s_val (v_lenN rfl Try.underlying24) rfl ?_
            | refine s_val (v_lenE rfl Try.underlying24) rfl ?_
          first
            | refine s_val (v_lssN rfl rfl) rfl ?_
            | refine s_val (v_lssI rfl rfl) rfl ?_
          refine s_nil ?_
          refine S_ ?_
          refine c_region ?_
          first
            | refine s_val (v_moveC rfl) rfl ?_
            | refine s_val (v_moveA rfl) rfl ?_
            | refine s_val (v_moveT rfl) rfl ?_
          first
            | refine s_val (v_lenS rfl Try.underlying24) rfl ?_
            | refine s_val (v_lenN rfl Try.underlying24) rfl ?_
            | refine s_val (v_lenE rfl Try.underlying24) rfl ?_
          first
            | refine s_val (v_moveC rfl) rfl ?_
            | refine s_val (v_moveA rfl) rfl ?_
            | refine s_val (v_moveT rfl) rfl ?_
          first
            | refine s_val (v_subN rfl rfl (by omega) (by omega)) rfl ?_
            | refine s_val (v_subI rfl rfl (by omega)) rfl ?_
          first
            | refine s_val (v_minN (b := 16) rfl rfl) rfl ?_
            | refine s_val (v_minL (b := 16) rfl rfl (by omega)) rfl ?_
            | refine s_val (v_minR (b := 16) rfl rfl (by omega)) rfl ?_
          first
            | refine s_val (v_assignC rfl) rfl ?_
            | refine s_val (v_assignA rfl) rfl ?_
            | refine s_val (v_assignT rfl) rfl ?_
          refine s_nil ?_
          refine S_ ?_
          refine c_region ?_
          refine s_val (v_assignC rfl) rfl ?_
          refine s_nil ?_
          have hL : min (n - 16 * q) 16 ≤ 16 ∧ 16 * q + min (n - 16 * q) 16 ≤ n := by omega
          generalize min (n - 16 * q) 16 = L at *
          unfold addPiece
          refine S_ ?_
          refine c_loopC [2, 4, 5, 6, 10, 1, 11, 12] (fun (x : Nat × List (BitVec 32)) => ⟨128, keepT [2, 4, 5, 6, 10, 1, 11, 12] [.c (.ptr 1 0), .c (.ptr 2 0), .c (.ptr 3 0), .c (.ptr 4 0), .c (.val (.int .i64 (((16 * q : Nat) : Int)))), .c (.sl 0 0 n cap 1), .c (.val (.int .i64 (L))), .c (.val (.int .i64 (x.1)))], [.row false (.a8 (t)), .row true (.a8 (key)), .row true (.a8 (zer8 16)), .row true (.a32 (W)), .row true (.a32 (x.2))]⟩) (fun j => (j, addText t (16 * q) H j)) (L) (by kernel_rfl) ?_ ?_
          · intro j hj
            have h5 : (addText t (16 * q) H j).length = 64 := by rw [addText_length, h4]
            simp only [addText]
            generalize addText t (16 * q) H j = X at *
            refine S_ ?_
            refine c_region ?_
            first
              | refine s_val (v_moveC rfl) rfl ?_
              | refine s_val (v_moveA rfl) rfl ?_
              | refine s_val (v_moveT rfl) rfl ?_
            first
              | refine s_val (v_moveC rfl) rfl ?_
              | refine s_val (v_moveA rfl) rfl ?_
              | refine s_val (v_moveT rfl) rfl ?_
            first
              | refine s_val (v_lssN rfl rfl) rfl ?_
              | refine s_val (v_lssI rfl rfl) rfl ?_
            refine s_nil ?_
            refine S_ ?_
            refine c_draw 12 mixed (by kernel_rfl) rfl rfl rfl ?_
            first
              | refine h_val (v_moveC rfl) rfl ?_
              | refine h_val (v_moveA rfl) rfl ?_
              | refine h_val (v_moveT rfl) rfl ?_
            first
              | refine h_val (v_idxA1 rfl rfl Try.underlying69 sz_41 (by omega)) rfl ?_
              | refine h_val (v_idxA rfl rfl Try.underlying69 sz_41 (by omega)) rfl ?_
            refine h_val (v_load32 rfl rfl row_41 LT_) rfl ?_
            first
              | refine h_val (v_moveC rfl) rfl ?_
              | refine h_val (v_moveA rfl) rfl ?_
              | refine h_val (v_moveT rfl) rfl ?_
            first
              | refine h_val (v_moveC rfl) rfl ?_
              | refine h_val (v_moveA rfl) rfl ?_
              | refine h_val (v_moveT rfl) rfl ?_
            first
              | refine h_val (v_moveC rfl) rfl ?_
              | refine h_val (v_moveA rfl) rfl ?_
              | refine h_val (v_moveT rfl) rfl ?_
            first
              | refine h_val (v_addN rfl rfl (by omega)) rfl ?_
              | refine h_val (v_addI rfl rfl (by omega)) rfl ?_
            first
              | refine h_val (v_idxS1 rfl rfl Try.underlying24 sz_5 (by omega)) rfl ?_
              | refine h_val (v_idxSo rfl rfl Try.underlying24 sz_5 (by omega)) rfl ?_
              | refine h_val (v_idxS rfl rfl Try.underlying24 sz_5 (by omega)) rfl ?_
            refine h_val (v_load8 rfl rfl row_5 LT_) rfl ?_
            refine h_val (v_conv rfl Try.underlying5 Try.underlying41 (w8_32 _)) rfl ?_
            refine h_val (v_add32 rfl rfl) rfl ?_
            first
              | refine h_val (v_idxA1 rfl rfl Try.underlying69 sz_41 (by omega)) rfl ?_
              | refine h_val (v_idxA rfl rfl Try.underlying69 sz_41 (by omega)) rfl ?_
            refine h_nil ?_
            refine s_store32 rfl rfl rfl sz_41 LT_ SET_ ?_
            refine s_nil ?_
            refine S_ ?_
            refine c_region ?_
            first
              | refine s_val (v_moveC rfl) rfl ?_
              | refine s_val (v_moveA rfl) rfl ?_
              | refine s_val (v_moveT rfl) rfl ?_
            first
              | refine s_val (v_addN (b := 1) rfl rfl (by omega)) rfl ?_
              | refine s_val (v_addI rfl rfl (by omega)) rfl ?_
            first
              | refine s_val (v_assignC rfl) rfl ?_
              | refine s_val (v_assignA rfl) rfl ?_
              | refine s_val (v_assignT rfl) rfl ?_
            refine s_nil ?_
            exact ⟨_, by kernel_rfl, rfl⟩
          · have h5 : (addText t (16 * q) H L).length = 64 := by rw [addText_length, h4]
            generalize addText t (16 * q) H L = X at *
            dsimp only
            refine S_ ?_
            refine c_region ?_
            first
              | refine s_val (v_moveC rfl) rfl ?_
              | refine s_val (v_moveA rfl) rfl ?_
              | refine s_val (v_moveT rfl) rfl ?_
            first
              | refine s_val (v_moveC rfl) rfl ?_
              | refine s_val (v_moveA rfl) rfl ?_
              | refine s_val (v_moveT rfl) rfl ?_
            first
              | refine s_val (v_lssN rfl rfl) rfl ?_
              | refine s_val (v_lssI rfl rfl) rfl ?_
            refine s_nil ?_
            have h6 : (put X L (nth X L + 1#32)).length = 64 := by rw [put_length, h5]
            refine S_ ?_
            refine c_region ?_
            first
              | refine s_val (v_moveC rfl) rfl ?_
              | refine s_val (v_moveA rfl) rfl ?_
              | refine s_val (v_moveT rfl) rfl ?_
            first
              | refine s_val (v_idxA1 rfl rfl Try.underlying69 sz_41 (by omega)) rfl ?_
              | refine s_val (v_idxA rfl rfl Try.underlying69 sz_41 (by omega)) rfl ?_
            refine s_val (v_load32 rfl rfl row_41 LT_) rfl ?_
            refine s_val (v_add32 (b := 1#32) rfl rfl) rfl ?_
            first
              | refine s_val (v_idxA1 rfl rfl Try.underlying69 sz_41 (by omega)) rfl ?_
              | refine s_val (v_idxA rfl rfl Try.underlying69 sz_41 (by omega)) rfl ?_
            refine s_store32 rfl rfl rfl sz_41 LT_ SET_ ?_
            refine s_nil ?_
            generalize put X L (nth X L + 1#32) = Y at *
            have h7 : (modR Y).length = 64 := modR_length Y h6
            refine S_ ?_
            refine c_region ?_
            first
              | refine s_val (v_loadR rfl rfl row_69 sz_69 EQ_ (by decide)) rfl ?_
              | refine s_val (v_loadW8 rfl rfl row_69 sz_69 LE_ (by decide)) rfl ?_
              | refine s_val (v_loadW64 rfl rfl row_69 sz_69 LE_ (by decide)) rfl ?_
            refine s_evN (e_callR (mod1305_ev _ h6) ok_40 rfl rfl rfl VAL_) APP_ rfl ?_
            refine s_storeR rfl rfl rfl rfl sz_69 EQ_ EQ_ SET_ ?_
            refine s_nil ?_
            generalize modR Y = Z at *
            refine S_ ?_
            refine c_region ?_
            refine s_memN (m_alloc al_69 LEN_) APP_ rfl ?_
            refine s_nil ?_
            refine S_ ?_
            refine c_region ?_
            refine s_val (v_assignC rfl) rfl ?_
            refine s_nil ?_
            refine S_ ?_
            refine c_loopC [2, 4, 5, 6, 10, 1, 13, 14] (fun (x : Nat × List (BitVec 32)) => ⟨128, keepT [2, 4, 5, 6, 10, 1, 13, 14] [.c (.ptr 1 0), .c (.ptr 2 0), .c (.ptr 3 0), .c (.ptr 4 0), .c (.val (.int .i64 (((16 * q : Nat) : Int)))), .c (.sl 0 0 n cap 1), .c (.ptr 5 0), .c (.val (.int .i64 (x.1)))], [.row false (.a8 (t)), .row true (.a8 (key)), .row true (.a8 (zer8 16)), .row true (.a32 (W)), .row true (.a32 (Z)), .row true (.a32 (x.2))]⟩) (fun j => (j, prodAll Z W j)) (17) (by kernel_rfl) ?_ ?_
            · intro i hi
              have h8 : (prodAll Z W i).length = 64 := prodAll_length Z W i
              simp only [prodAll]
              generalize prodAll Z W i = F at *
              refine S_ ?_
              refine c_region ?_
              first
                | refine s_val (v_moveC rfl) rfl ?_
                | refine s_val (v_moveA rfl) rfl ?_
                | refine s_val (v_moveT rfl) rfl ?_
              first
                | refine s_val (v_lssN (b := 17) rfl rfl) rfl ?_
                | refine s_val (v_lssI rfl rfl) rfl ?_
              refine s_nil ?_
              refine S_ ?_
              refine c_region ?_
              refine s_val (v_assignC rfl) rfl ?_
              refine s_nil ?_
              refine S_ ?_
              refine c_loopC [2, 4, 5, 6, 10, 1, 13, 14, 15] (fun (x : Nat × List (BitVec 32)) => ⟨128, keepT [2, 4, 5, 6, 10, 1, 13, 14, 15] [.c (.ptr 1 0), .c (.ptr 2 0), .c (.ptr 3 0), .c (.ptr 4 0), .c (.val (.int .i64 (((16 * q : Nat) : Int)))), .c (.sl 0 0 n cap 1), .c (.ptr 5 0), .c (.val (.int .i64 (i))), .c (.val (.int .i64 (x.1)))], [.row false (.a8 (t)), .row true (.a8 (key)), .row true (.a8 (zer8 16)), .row true (.a32 (W)), .row true (.a32 (Z)), .row true (.a32 (x.2))]⟩) (fun j => (j, prodRow Z W F i j)) (16) (by kernel_rfl) ?_ ?_
              · intro j hj
                have h9 : (prodRow Z W F i j).length = 64 := by rw [prodRow_length, h8]
                simp only [prodRow]
                generalize prodRow Z W F i j = G at *
                refine S_ ?_
                refine c_region ?_
                first
                  | refine s_val (v_moveC rfl) rfl ?_
                  | refine s_val (v_moveA rfl) rfl ?_
                  | refine s_val (v_moveT rfl) rfl ?_
                first
                  | refine s_val (v_lssN (b := 16) rfl rfl) rfl ?_
                  | refine s_val (v_lssI rfl rfl) rfl ?_
                refine s_nil ?_
                refine S_ ?_
                refine c_draw 14 mixed (by kernel_rfl) rfl rfl rfl ?_
                first
                  | refine h_val (v_moveC rfl) rfl ?_
                  | refine h_val (v_moveA rfl) rfl ?_
                  | refine h_val (v_moveT rfl) rfl ?_
                first
                  | refine h_val (v_moveC rfl) rfl ?_
                  | refine h_val (v_moveA rfl) rfl ?_
                  | refine h_val (v_moveT rfl) rfl ?_
                first
                  | refine h_val (v_addN rfl rfl (by omega)) rfl ?_
                  | refine h_val (v_addI rfl rfl (by omega)) rfl ?_
                first
                  | refine h_val (v_idxA1 rfl rfl Try.underlying69 sz_41 (by omega)) rfl ?_
                  | refine h_val (v_idxA rfl rfl Try.underlying69 sz_41 (by omega)) rfl ?_
                refine h_val (v_load32 rfl rfl row_41 LT_) rfl ?_
                first
                  | refine h_val (v_moveC rfl) rfl ?_
                  | refine h_val (v_moveA rfl) rfl ?_
                  | refine h_val (v_moveT rfl) rfl ?_
                first
                  | refine h_val (v_idxA1 rfl rfl Try.underlying69 sz_41 (by omega)) rfl ?_
                  | refine h_val (v_idxA rfl rfl Try.underlying69 sz_41 (by omega)) rfl ?_
                refine h_val (v_load32 rfl rfl row_41 LT_) rfl ?_
                first
                  | refine h_val (v_moveC rfl) rfl ?_
                  | refine h_val (v_moveA rfl) rfl ?_
                  | refine h_val (v_moveT rfl) rfl ?_
                first
                  | refine h_val (v_idxA1 rfl rfl Try.underlying69 sz_41 (by omega)) rfl ?_
                  | refine h_val (v_idxA rfl rfl Try.underlying69 sz_41 (by omega)) rfl ?_
                refine h_val (v_load32 rfl rfl row_41 LT_) rfl ?_
                refine h_val (v_mul32 rfl rfl) rfl ?_
                refine h_val (v_add32 rfl rfl) rfl ?_
                first
                  | refine h_val (v_idxA1 rfl rfl Try.underlying69 sz_41 (by omega)) rfl ?_
                  | refine h_val (v_idxA rfl rfl Try.underlying69 sz_41 (by omega)) rfl ?_
                refine h_nil ?_
                refine s_store32 rfl rfl rfl sz_41 LT_ SET_ ?_
                refine s_nil ?_
                refine S_ ?_
                refine c_region ?_
                first
                  | refine s_val (v_moveC rfl) rfl ?_
                  | refine s_val (v_moveA rfl) rfl ?_
                  | refine s_val (v_moveT rfl) rfl ?_
                first
                  | refine s_val (v_addN (b := 1) rfl rfl (by omega)) rfl ?_
                  | refine s_val (v_addI rfl rfl (by omega)) rfl ?_
                first
                  | refine s_val (v_assignC rfl) rfl ?_
                  | refine s_val (v_assignA rfl) rfl ?_
                  | refine s_val (v_assignT rfl) rfl ?_
                refine s_nil ?_
                exact ⟨_, by kernel_rfl, rfl⟩
              · have h9 : (prodRow Z W F i 16).length = 64 := by rw [prodRow_length, h8]
                generalize prodRow Z W F i 16 = G at *
                dsimp only
                refine S_ ?_
                refine c_region ?_
                first
                  | refine s_val (v_moveC rfl) rfl ?_
                  | refine s_val (v_moveA rfl) rfl ?_
                  | refine s_val (v_moveT rfl) rfl ?_
                first
                  | refine s_val (v_lssN (b := 16) rfl rfl) rfl ?_
                  | refine s_val (v_lssI rfl rfl) rfl ?_
                refine s_nil ?_
                refine S_ ?_
                refine c_region ?_
                first
                  | refine s_val (v_moveC rfl) rfl ?_
                  | refine s_val (v_moveA rfl) rfl ?_
                  | refine s_val (v_moveT rfl) rfl ?_
                first
                  | refine s_val (v_addN (b := 1) rfl rfl (by omega)) rfl ?_
                  | refine s_val (v_addI rfl rfl (by omega)) rfl ?_
                first
                  | refine s_val (v_assignC rfl) rfl ?_
                  | refine s_val (v_assignA rfl) rfl ?_
                  | refine s_val (v_assignT rfl) rfl ?_
                refine s_nil ?_
                exact ⟨_, by kernel_rfl, rfl⟩
            · have h8 : (prodAll Z W 17).length = 64 := prodAll_length Z W 17
              generalize prodAll Z W 17 = F at *
              dsimp only
              refine S_ ?_
              refine c_region ?_
              first
                | refine s_val (v_moveC rfl) rfl ?_
                | refine s_val (v_moveA rfl) rfl ?_
                | refine s_val (v_moveT rfl) rfl ?_
              first
                | refine s_val (v_lssN (b := 17) rfl rfl) rfl ?_
                | refine s_val (v_lssI rfl rfl) rfl ?_
              refine s_nil ?_
              have h9 : (modR F).length = 64 := modR_length F h8
              refine S_ ?_
              refine c_region ?_
              first
                | refine s_val (v_loadR rfl rfl row_69 sz_69 EQ_ (by decide)) rfl ?_
                | refine s_val (v_loadW8 rfl rfl row_69 sz_69 LE_ (by decide)) rfl ?_
                | refine s_val (v_loadW64 rfl rfl row_69 sz_69 LE_ (by decide)) rfl ?_
              refine s_evN (e_callR (mod1305_ev _ h8) ok_40 rfl rfl rfl VAL_) APP_ rfl ?_
              refine s_storeR rfl rfl rfl rfl sz_69 EQ_ EQ_ SET_ ?_
              refine s_nil ?_
              refine S_ ?_
              refine c_region ?_
              first
                | refine s_val (v_moveC rfl) rfl ?_
                | refine s_val (v_moveA rfl) rfl ?_
                | refine s_val (v_moveT rfl) rfl ?_
              first
                | refine s_val (v_addN (b := 16) rfl rfl (by omega)) rfl ?_
                | refine s_val (v_addI rfl rfl (by omega)) rfl ?_
              first
                | refine s_val (v_assignC rfl) rfl ?_
                | refine s_val (v_assignA rfl) rfl ?_
                | refine s_val (v_assignT rfl) rfl ?_
              refine s_nil ?_
              exact ⟨(16 * q + 16, _), by kernel_rfl, by rw [Nat.mul_succ]⟩
        · have h4 : (refSt W t ((n + 15) / 16)).length = 64 := refSt_length W t _
          rw [hP]
          dsimp only
          generalize refSt W t ((n + 15) / 16) = H at *
          refine S_ ?_
          refine c_region ?_
          first
            | refine s_val (v_moveC rfl) rfl ?_
            | refine s_val (v_moveA rfl) rfl ?_
            | refine s_val (v_moveT rfl) rfl ?_
          first
            | refine s_val (v_moveC rfl) rfl ?_
            | refine s_val (v_moveA rfl) rfl ?_
            | refine s_val (v_moveT rfl) rfl ?_
          first
            | refine s_val (v_lenS rfl Try.underlying24) rfl ?_
            | refine s_val (v_lenN rfl Try.underlying24) rfl ?_
            | refine s_val (v_lenE rfl Try.underlying24) rfl ?_
          first
            | refine s_val (v_lssN rfl rfl) rfl ?_
            | refine s_val (v_lssI rfl rfl) rfl ?_
          refine s_nil ?_
          refine S_ ?_
          refine c_region ?_
          refine s_memN (m_alloc al_42 LEN_) APP_ rfl ?_
          refine s_nil ?_
          refine S_ ?_
          refine c_region ?_
          refine s_val (v_assignC rfl) rfl ?_
          refine s_nil ?_
          refine S_ ?_
          refine c_region ?_
          refine s_val (v_assignC rfl) rfl ?_
          refine s_nil ?_
          refine S_ ?_
          refine c_loopC [2, 4, 6, 16, 17, 18] (fun (x : Nat × List (BitVec 8) × BitVec 32) => ⟨128, keepT [2, 4, 6, 16, 17, 18] [.c (.ptr 1 0), .c (.ptr 2 0), .c (.ptr 3 0), .c (.ptr 4 0), .c (.val (U32 (x.2.2))), .c (.val (.int .i64 (x.1)))], [.row false (.a8 (t)), .row true (.a8 (key)), .row true (.a8 (zer8 16)), .row true (.a32 (H)), .row true (.a8 (x.2.1))]⟩) (fun j => (j, outSt H key j)) (16) (by kernel_rfl) ?_ ?_
          · intro j hj
            have h5 : (outSt H key j).1.length = 16 := outSt_length H key j
            rw [outSt_succ]
            generalize outSt H key j = U at *
            obtain ⟨U, C⟩ := U
            dsimp only at h5 ⊢
            refine S_ ?_
            refine c_region ?_
            first
              | refine s_val (v_moveC rfl) rfl ?_
              | refine s_val (v_moveA rfl) rfl ?_
              | refine s_val (v_moveT rfl) rfl ?_
            first
              | refine s_val (v_lssN (b := 16) rfl rfl) rfl ?_
              | refine s_val (v_lssI rfl rfl) rfl ?_
            refine s_nil ?_
            refine S_ ?_
            refine c_draw 12 mixed (by kernel_rfl) rfl rfl rfl ?_
            first
              | refine h_val (v_moveC rfl) rfl ?_
              | refine h_val (v_moveA rfl) rfl ?_
              | refine h_val (v_moveT rfl) rfl ?_
            first
              | refine h_val (v_moveC rfl) rfl ?_
              | refine h_val (v_moveA rfl) rfl ?_
              | refine h_val (v_moveT rfl) rfl ?_
            first
              | refine h_val (v_idxA1 rfl rfl Try.underlying69 sz_41 (by omega)) rfl ?_
              | refine h_val (v_idxA rfl rfl Try.underlying69 sz_41 (by omega)) rfl ?_
            refine h_val (v_load32 rfl rfl row_41 LT_) rfl ?_
            first
              | refine h_val (v_moveC rfl) rfl ?_
              | refine h_val (v_moveA rfl) rfl ?_
              | refine h_val (v_moveT rfl) rfl ?_
            first
              | refine h_val (v_addN (a := 16) rfl rfl (by omega)) rfl ?_
              | refine h_val (v_addI rfl rfl (by omega)) rfl ?_
            first
              | refine h_val (v_idxA1 rfl rfl Try.underlying22 sz_5 (by omega)) rfl ?_
              | refine h_val (v_idxA rfl rfl Try.underlying22 sz_5 (by omega)) rfl ?_
            refine h_val (v_load8 rfl rfl row_5 LT_) rfl ?_
            refine h_val (v_conv rfl Try.underlying5 Try.underlying41 (w8_32 _)) rfl ?_
            refine h_val (v_add32 rfl rfl) rfl ?_
            refine h_val (v_add32 rfl rfl) rfl ?_
            first
              | refine h_val (v_assignC rfl) rfl ?_
              | refine h_val (v_assignA rfl) rfl ?_
              | refine h_val (v_assignT rfl) rfl ?_
            refine h_nil ?_
            refine s_nil ?_
            refine S_ ?_
            refine c_region ?_
            first
              | refine s_val (v_moveC rfl) rfl ?_
              | refine s_val (v_moveA rfl) rfl ?_
              | refine s_val (v_moveT rfl) rfl ?_
            first
              | refine s_val (v_moveC rfl) rfl ?_
              | refine s_val (v_moveA rfl) rfl ?_
              | refine s_val (v_moveT rfl) rfl ?_
            refine s_val (v_conv rfl Try.underlying41 Try.underlying5 (w32_8 _)) rfl ?_
            first
              | refine s_val (v_idxA1 rfl rfl Try.underlying42 sz_5 (by omega)) rfl ?_
              | refine s_val (v_idxA rfl rfl Try.underlying42 sz_5 (by omega)) rfl ?_
            refine s_store8 rfl rfl rfl sz_5 LT_ SET_ ?_
            refine s_nil ?_
            refine S_ ?_
            refine c_region ?_
            first
              | refine s_val (v_moveC rfl) rfl ?_
              | refine s_val (v_moveA rfl) rfl ?_
              | refine s_val (v_moveT rfl) rfl ?_
            refine s_val (v_shr32n (j := 8) rfl rfl) rfl ?_
            first
              | refine s_val (v_assignC rfl) rfl ?_
              | refine s_val (v_assignA rfl) rfl ?_
              | refine s_val (v_assignT rfl) rfl ?_
            refine s_nil ?_
            refine S_ ?_
            refine c_region ?_
            first
              | refine s_val (v_moveC rfl) rfl ?_
              | refine s_val (v_moveA rfl) rfl ?_
              | refine s_val (v_moveT rfl) rfl ?_
            first
              | refine s_val (v_addN (b := 1) rfl rfl (by omega)) rfl ?_
              | refine s_val (v_addI rfl rfl (by omega)) rfl ?_
            first
              | refine s_val (v_assignC rfl) rfl ?_
              | refine s_val (v_assignA rfl) rfl ?_
              | refine s_val (v_assignT rfl) rfl ?_
            refine s_nil ?_
            exact ⟨_, by kernel_rfl, rfl⟩
          · have h5 : (outSt H key 16).1.length = 16 := outSt_length H key 16
            generalize outSt H key 16 = U at *
            obtain ⟨U, C⟩ := U
            dsimp only at h5 ⊢
            refine S_ ?_
            refine c_region ?_
            first
              | refine s_val (v_moveC rfl) rfl ?_
              | refine s_val (v_moveA rfl) rfl ?_
              | refine s_val (v_moveT rfl) rfl ?_
            first
              | refine s_val (v_lssN (b := 16) rfl rfl) rfl ?_
              | refine s_val (v_lssI rfl rfl) rfl ?_
            refine s_nil ?_
            refine S_ ?_
            refine c_region ?_
            first
              | refine s_val (v_loadR rfl rfl row_42 sz_42 EQ_ (by decide)) rfl ?_
              | refine s_val (v_loadW8 rfl rfl row_42 sz_42 LE_ (by decide)) rfl ?_
              | refine s_val (v_loadW64 rfl rfl row_42 sz_42 LE_ (by decide)) rfl ?_
            refine s_storeR rfl rfl rfl rfl sz_42 EQ_ EQ_ SET_ ?_
            refine s_nil ?_
            refine S_ ?_
            exact k_1 (r_row rfl rfl row_42 sz_42 EQ_ (by decide)) (by first | kernel_rfl | rfl)
end Go.Proofs.Ytcjponmaeamjdaa
/- The reference's numbers of 64 bytes. No program in sight. -/
namespace Go.Proofs.Ytcjponmaeamjdaa
open Go.RowKit
/-- The number that words of 32 bits are, each 256 times the one ahead of it. -/
def dN (l : List (BitVec 32)) : Nat := l.foldr (fun x n => x.toNat + 256 * n) 0
theorem dN_cons (x : BitVec 32) (l : List (BitVec 32)) : dN (x :: l) = x.toNat + 256 * dN l := rfl
theorem dN_put (l : List (BitVec 32)) (k : Nat) (v : BitVec 32) (h : k < l.length) : dN (put l k v) + 256 ^ k * (nth l k).toNat = dN l + 256 ^ k * v.toNat := by
  induction l generalizing k with
  | nil => simp at h
  | cons x l ih =>
    cases k with
    | zero =>
      show dN (v :: l) + 256 ^ 0 * x.toNat = _
      rw [dN_cons, dN_cons]
      omega
    | succ k =>
      show dN (x :: put l k v) + 256 ^ (k + 1) * (nth l k).toNat = _
      have := ih k (by simpa using h)
      rw [dN_cons, dN_cons, Nat.pow_succ, Nat.mul_comm (256 ^ k) 256, Nat.mul_assoc, Nat.mul_assoc]
      omega
theorem dN_zer (n : Nat) : dN (zer32 n) = 0 := by
  unfold zer32
  induction n with
  | zero => rfl
  | succ n ih => rw [List.replicate_succ, dN_cons, ih]; rfl
theorem and255 (x : BitVec 32) : (x &&& 255#32).toNat = x.toNat % 256 := by
  rw [BitVec.toNat_and]
  exact Nat.and_two_pow_sub_one_eq_mod x.toNat 8
theorem shr8n' (x : BitVec 32) : (x >>> 8).toNat = x.toNat / 256 := by
  rw [BitVec.toNat_ushiftRight, Nat.shiftRight_eq_div_pow]
/-- All words are below B. -/
def under (B : Nat) (l : List (BitVec 32)) : Prop := ∀ k, (nth l k).toNat < B
theorem under_put {B : Nat} {l : List (BitVec 32)} (h : under B l) (k : Nat) (v : BitVec 32) (hv : v.toNat < B) : under B (put l k v) := by
  intro j
  by_cases hk : k < l.length
  · rw [nth_put _ _ _ _ hk]
    split
    · exact hv
    · exact h j
  · unfold put
    rw [List.set_eq_of_length_le (by omega)]
    exact h j
/-- Carries keep the number. -/
theorem c8_val (l : List (BitVec 32)) (c : BitVec 32) (hl : under 2147483648 l) (hc : c.toNat < 16777216) (k : Nat) (hk : k ≤ l.length) :
    dN (c8St l c k).1 + 256 ^ k * (c8St l c k).2.toNat = dN l + c.toNat ∧ (c8St l c k).2.toNat < 16777216 ∧ (∀ j, j < k → (nth (c8St l c k).1 j).toNat < 256) ∧ (∀ j, k ≤ j → nth (c8St l c k).1 j = nth l j) := by
  induction k with
  | zero => exact ⟨by show dN l + 256 ^ 0 * c.toNat = _; omega, hc, fun j hj => by omega, fun j _ => rfl⟩
  | succ k ih =>
    obtain ⟨h1, h2, h3, h4⟩ := ih (by omega)
    have hlen := c8St_length l c k
    rw [c8St_succ]
    generalize c8St l c k = U at *
    obtain ⟨U, C⟩ := U
    dsimp only at *
    have hx : (nth U k).toNat < 2147483648 := by rw [h4 k (Nat.le_refl _)]; exact hl k
    have hs : (C + nth U k).toNat = C.toNat + (nth U k).toNat := add_nat _ _ (by omega)
    have hp := dN_put U k ((C + nth U k) &&& 255#32) (by omega)
    rw [and255, hs] at hp
    rw [shr8n', hs]
    refine ⟨?_, by omega, fun j hj => ?_, fun j hj => ?_⟩
    · have e : (C.toNat + (nth U k).toNat) = (C.toNat + (nth U k).toNat) % 256 + 256 * ((C.toNat + (nth U k).toNat) / 256) := by omega
      generalize (C.toNat + (nth U k).toNat) % 256 = m at *
      generalize (C.toNat + (nth U k).toNat) / 256 = d at *
      have e1 : 256 ^ k * C.toNat + 256 ^ k * (nth U k).toNat = 256 ^ k * m + 256 ^ k * (256 * d) := by rw [← Nat.mul_add, e, Nat.mul_add]
      have e2 : 256 ^ (k + 1) * d = 256 ^ k * (256 * d) := by rw [Nat.pow_succ, Nat.mul_assoc]
      rw [e2]
      omega
    · rw [nth_put _ _ _ _ (by omega)]
      split
      · rw [and255]; omega
      · exact h3 j (by omega)
    · rw [nth_put _ _ _ _ (by omega), if_neg (by omega)]
      exact h4 j (by omega)
theorem dN_lt (l : List (BitVec 32)) (h : under 256 l) : dN l < 256 ^ l.length := by
  induction l with
  | nil => decide
  | cons x l ih =>
    have h1 := ih (fun k => h (k + 1))
    have h0 : x.toNat < 256 := h 0
    rw [dN_cons, List.length_cons, Nat.pow_succ]
    omega
theorem nth_dN (l : List (BitVec 32)) (h : under 256 l) (k : Nat) : (nth l k).toNat = dN l / 256 ^ k % 256 := by
  induction l generalizing k with
  | nil => simp [nth, dN]
  | cons x l ih =>
    have h0 : x.toNat < 256 := h 0
    have ih := ih (fun k => h (k + 1))
    rw [dN_cons]
    cases k with
    | zero =>
      show x.toNat = _
      rw [Nat.pow_zero, Nat.div_one]
      omega
    | succ k =>
      show (nth l k).toNat = _
      rw [ih k, Nat.pow_succ, Nat.mul_comm (256 ^ k) 256, ← Nat.div_div_eq_div_mul]
      congr 2
      omega
/-- Carried to bytes: the number stays. -/
theorem c8_64 (l : List (BitVec 32)) (c : BitVec 32) (hlen : l.length = 64) (hl : under 2147483648 l) (hc : c.toNat < 16777216) (hv : dN l + c.toNat < 256 ^ 64) : dN (c8St l c 64).1 = dN l + c.toNat ∧ under 256 (c8St l c 64).1 := by
  obtain ⟨h1, h2, h3, h4⟩ := c8_val l c hl hc 64 (by omega)
  refine ⟨?_, fun j => ?_⟩
  · have : (c8St l c 64).2.toNat = 0 := by
      rcases Nat.eq_zero_or_pos (c8St l c 64).2.toNat with h | h
      · exact h
      · have : 256 ^ 64 * 1 ≤ 256 ^ 64 * (c8St l c 64).2.toNat := Nat.mul_le_mul_left _ h
        omega
    rw [this] at h1
    omega
  · rcases Nat.lt_or_ge j 64 with h | h
    · exact h3 j h
    · have hz : nth (c8St l c 64).1 j = 0#32 := by
        unfold nth
        rw [List.getD_eq_getElem?_getD, List.getElem?_eq_none (by rw [c8St_length]; omega)]
        rfl
      rw [hz]; decide
end Go.Proofs.Ytcjponmaeamjdaa
/- The reference's folding as numbers. No program in sight. -/
namespace Go.Proofs.Ytcjponmaeamjdaa
open Go.RowKit
theorem dN_take (l : List (BitVec 32)) (k : Nat) : dN (l.take (k + 1)) = dN (l.take k) + 256 ^ k * (nth l k).toNat := by
  induction l generalizing k with
  | nil => simp [nth, dN]
  | cons x l ih =>
    cases k with
    | zero => show x.toNat + 256 * dN [] = dN [] + 256 ^ 0 * x.toNat; simp [dN]
    | succ k =>
      have := ih k
      show dN (x :: l.take (k + 1)) = dN (x :: l.take k) + 256 ^ (k + 1) * (nth l k).toNat
      rw [dN_cons, dN_cons, this, Nat.pow_succ, Nat.mul_comm (256 ^ k) 256, Nat.mul_add, Nat.mul_assoc]
      omega
theorem dN_split (l : List (BitVec 32)) (k : Nat) (hk : k ≤ l.length) : dN l = dN (l.take k) + 256 ^ k * dN (l.drop k) := by
  induction l generalizing k with
  | nil => simp at hk; subst hk; simp [dN]
  | cons x l ih =>
    cases k with
    | zero => simp [dN]
    | succ k =>
      have := ih k (by simpa using hk)
      show dN (x :: l) = dN (x :: l.take k) + 256 ^ (k + 1) * dN (l.drop k)
      rw [dN_cons, dN_cons, Nat.pow_succ, Nat.mul_comm (256 ^ k) 256, Nat.mul_assoc]
      omega
theorem nth_drop32 (l : List (BitVec 32)) (o k : Nat) : nth (l.drop o) k = nth l (o + k) := by
  unfold nth
  simp [List.getD_eq_getElem?_getD]
theorem addTop_nth (X V : List (BitVec 32)) (k : Nat) (hk : k ≤ X.length) : ∀ j, k ≤ j → nth (addTop X V k) j = nth X j := by
  induction k with
  | zero => intro j _; rfl
  | succ k ih =>
    intro j hj
    rw [addTop, nth_put _ _ _ _ (by rw [addTop_length]; omega), if_neg (by omega)]
    exact ih (by omega) j (by omega)
theorem addTop_val (X V : List (BitVec 32)) (hX : under 256 X) (hV : under 256 V) (k : Nat) (hk : k ≤ X.length) : dN (addTop X V k) = dN X + 5 * dN (V.take k) ∧ under 2147483648 (addTop X V k) := by
  induction k with
  | zero => exact ⟨by simp [addTop, dN], fun j => Nat.lt_trans (hX j) (by decide)⟩
  | succ k ih =>
    obtain ⟨h1, h2⟩ := ih (by omega)
    have hn := addTop_nth X V k (by omega) k (Nat.le_refl _)
    have hx := hX k
    have hv := hV k
    have h5 : (5#32 * nth V k).toNat = 5 * (nth V k).toNat := by rw [mul_nat _ _ (by show 5 * _ < _; omega)]; rfl
    have hs : (nth (addTop X V k) k + 5#32 * nth V k).toNat = (nth X k).toNat + 5 * (nth V k).toNat := by rw [hn, add_nat _ _ (by rw [h5]; omega), h5]
    rw [addTop, dN_take]
    generalize nth (addTop X V k) k + 5#32 * nth V k = v at *
    have hp := dN_put (addTop X V k) k v (by rw [addTop_length]; omega)
    rw [hs, hn, Nat.mul_add, h1] at hp
    refine ⟨?_, under_put h2 _ _ (by rw [hs]; omega)⟩
    have e : 256 ^ k * (5 * (nth V k).toNat) = 5 * (256 ^ k * (nth V k).toNat) := Nat.mul_left_comm _ _ _
    rw [e] at hp
    omega
theorem zerTail_nth (a : List (BitVec 32)) (ha : a.length = 64) (k : Nat) (hk : k ≤ 47) : ∀ j, (j < 17 ∨ 17 + k ≤ j) → nth (zerTail a k) j = nth a j := by
  induction k with
  | zero => intro j _; rfl
  | succ k ih =>
    intro j hj
    rw [zerTail, nth_put _ _ _ _ (by rw [zerTail_length, ha]; omega), if_neg (by omega)]
    exact ih (by omega) j (by omega)
theorem zerTail_val (a : List (BitVec 32)) (ha : a.length = 64) (k : Nat) (hk : k ≤ 47) : dN (zerTail a k) + 256 ^ 17 * dN ((a.drop 17).take k) = dN a := by
  induction k with
  | zero => simp [zerTail, dN]
  | succ k ih =>
    have ih := ih (by omega)
    have hp := dN_put (zerTail a k) (17 + k) 0#32 (by rw [zerTail_length, ha]; omega)
    rw [zerTail_nth a ha k (by omega) _ (.inr (Nat.le_refl _))] at hp
    rw [zerTail, dN_take, nth_drop32, Nat.mul_add, ← Nat.mul_assoc, ← Nat.pow_add]
    have : 256 ^ (17 + k) * (0#32).toNat = 0 := rfl
    omega
end Go.Proofs.Ytcjponmaeamjdaa
/- The reference's remainder as a number. No program in sight. -/
namespace Go.Proofs.Ytcjponmaeamjdaa
open Go.RowKit
theorem shr2 (x : BitVec 32) : (x >>> 2).toNat = x.toNat / 4 := by rw [BitVec.toNat_ushiftRight, Nat.shiftRight_eq_div_pow]
theorem shl6 (x : BitVec 32) : ((x <<< 6) &&& 255#32).toNat = 64 * (x.toNat % 4) := by
  rw [and255, BitVec.toNat_shiftLeft, Nat.shiftLeft_eq]
  omega
theorem or6 (x y : BitVec 32) (n : Nat) (hx : x.toNat < 64) (hy : y.toNat = 64 * n) : (x ||| y).toNat = x.toNat + 64 * n := by
  rw [BitVec.toNat_or, hy, Nat.or_comm]
  have := Nat.two_pow_add_eq_or_of_lt (i := 6) hx n
  rw [show (64 : Nat) = 2 ^ 6 from rfl, ← this]
  omega
theorem nth_zer32 (n j : Nat) : nth (zer32 n) j = 0#32 := by
  unfold nth zer32
  rw [List.getD_eq_getElem?_getD, List.getElem?_replicate]
  split <;> rfl
theorem topL_val (a : List (BitVec 32)) (ha : a.length = 64) (hu : under 256 a) (k : Nat) (hk : k ≤ 48) :
    dN (topL a k) = dN a / 256 ^ 16 / 4 % 256 ^ k ∧ (∀ j, k ≤ j → nth (topL a k) j = 0#32) ∧ under 256 (topL a k) := by
  induction k with
  | zero =>
    refine ⟨by show dN (zer32 64) = _; rw [dN_zer, Nat.pow_zero, Nat.mod_one], fun j _ => ?_, fun j => ?_⟩
    · exact nth_zer32 64 j
    · show (nth (zer32 64) j).toNat < 256
      rw [nth_zer32]; decide
  | succ k ih =>
    obtain ⟨h1, h2, h3⟩ := ih (by omega)
    have hlen := topL_length a k
    have e16 := nth_dN a hu (k + 16)
    have e17 := nth_dN a hu (k + 17)
    rw [Nat.add_comm k 16, Nat.pow_add, ← Nat.div_div_eq_div_mul] at e16
    rw [show k + 17 = 16 + (k + 1) by omega, Nat.pow_add, ← Nat.div_div_eq_div_mul, show 256 ^ (k + 1) = 256 ^ k * 256 from rfl, ← Nat.div_div_eq_div_mul] at e17
    have hE : dN a / 256 ^ 16 / 4 / 256 ^ k = dN a / 256 ^ 16 / 256 ^ k / 4 := by rw [Nat.div_div_eq_div_mul, Nat.mul_comm, ← Nat.div_div_eq_div_mul]
    have hb : ∀ v : BitVec 32, v.toNat = dN a / 256 ^ 16 / 256 ^ k / 4 % 256 → dN (put (topL a k) k v) = dN a / 256 ^ 16 / 4 % 256 ^ (k + 1) ∧ (∀ j, k + 1 ≤ j → nth (put (topL a k) k v) j = 0#32) ∧ under 256 (put (topL a k) k v) := by
      intro v hv
      refine ⟨?_, fun j hj => ?_, under_put h3 _ _ (by omega)⟩
      · have hp := dN_put (topL a k) k v (by omega)
        rw [h2 k (Nat.le_refl _), h1] at hp
        rw [show 256 ^ (k + 1) = 256 ^ k * 256 from rfl, Nat.mod_mul, hE, ← hv]
        have : 256 ^ k * (0#32).toNat = 0 := rfl
        omega
      · rw [nth_put _ _ _ _ (by omega), if_neg (by omega)]
        exact h2 j (by omega)
    rw [topL]
    apply hb
    generalize dN a / 256 ^ 16 / 256 ^ k = X at *
    rw [Nat.add_comm 16 k] at e16
    split
    · rename_i h64
      rw [show 16 + (k + 1) = k + 17 by omega] at e17
      rw [or6 _ _ ((nth a (k + 17)).toNat % 4) (by rw [shr2]; omega) (shl6 _), shr2, e16, e17]
      omega
    · rename_i h64
      have hz : nth a (16 + (k + 1)) = 0#32 := by
        unfold nth
        rw [List.getD_eq_getElem?_getD, List.getElem?_eq_none (by omega)]
        rfl
      rw [hz] at e17
      have e17 : 0 = X / 256 % 256 := e17
      rw [shr2, e16]
      omega
theorem under_drop {B : Nat} {l : List (BitVec 32)} (h : under B l) (o : Nat) : under B (l.drop o) := fun k => by rw [nth_drop32]; exact h _
theorem under_take {B : Nat} {l : List (BitVec 32)} (h : under B l) (hB : 0 < B) (o : Nat) : under B (l.take o) := fun k => by
  by_cases hk : k < o
  · have : nth (l.take o) k = nth l k := by
      unfold nth
      simp only [List.getD_eq_getElem?_getD, List.getElem?_take, if_pos hk]
    rw [this]; exact h k
  · have : nth (l.take o) k = 0#32 := by
      unfold nth
      rw [List.getD_eq_getElem?_getD, List.getElem?_take, if_neg hk]; rfl
    rw [this]; exact hB
theorem and3 (x : BitVec 32) : (x &&& 3#32).toNat = x.toNat % 4 := by
  rw [BitVec.toNat_and]
  exact Nat.and_two_pow_sub_one_eq_mod x.toNat 2
theorem under_zerTail {B : Nat} (hB : 0 < B) (a : List (BitVec 32)) (h : under B a) (k : Nat) : under B (zerTail a k) := by
  induction k with
  | zero => exact h
  | succ k ih => exact under_put ih _ _ hB
/-- What is above the bit 130, five times, below it. -/
theorem fold1_val (a : List (BitVec 32)) (ha : a.length = 64) (hu : under 256 a) :
    dN (fold1 a) = dN a % 1361129467683753853853498429727072845824 + 5 * (dN a / 1361129467683753853853498429727072845824) ∧ under 2147483648 (fold1 a) ∧ (fold1 a).length = 64 := by
  have hz := zerTail_val a ha 47 (by omega)
  have hzl : (zerTail a 47).length = 64 := by rw [zerTail_length, ha]
  have hz16 := zerTail_nth a ha 47 (by omega) 16 (.inl (by omega))
  have hp := dN_put (zerTail a 47) 16 (nth (zerTail a 47) 16 &&& 3#32) (by omega)
  rw [and3, hz16] at hp
  obtain ⟨t1, _, t3⟩ := topL_val a ha hu 48 (by omega)
  have hX : under 256 (put (zerTail a 47) 16 (nth (zerTail a 47) 16 &&& 3#32)) := under_put (under_zerTail (by omega) a hu 47) _ _ (by rw [and3]; omega)
  obtain ⟨f1, f2⟩ := addTop_val _ (topL a 48) hX t3 64 (by rw [put_length, hzl]; omega)
  have hl : (fold1 a).length = 64 := by unfold fold1; rw [addTop_length, put_length, hzl]
  refine ⟨?_, f2, hl⟩
  unfold fold1
  rw [f1, List.take_of_length_le (by rw [topL_length]; omega), t1]
  rw [hz16] at *
  -- the low half
  have d17 : (a.drop 17).take 47 = a.drop 17 := List.take_of_length_le (by simp [ha])
  rw [d17] at hz
  have s16 := dN_split a 16 (by omega)
  have s17 := dN_split a 17 (by omega)
  have tk := dN_take a 16
  have lt16 := dN_lt (a.take 16) (under_take hu (by omega) 16)
  have hlt := dN_lt a hu
  rw [ha] at hlt
  have l16 : (a.take 16).length = 16 := by simp [ha]
  rw [l16] at lt16
  have hx := hu 16
  generalize dN (put (zerTail a 47) 16 (nth a 16 &&& 3#32)) = L at *
  generalize dN (zerTail a 47) = Z at *
  generalize (nth a 16).toNat = x at *
  generalize dN (a.drop 17) = D at *
  generalize dN (a.take 16) = T at *
  generalize dN (a.take 17) = T17 at *
  generalize dN (a.drop 16) = E at *
  generalize dN a = N at *
  omega
end Go.Proofs.Ytcjponmaeamjdaa
/- The reference's remainder as a number: the end. No program in sight. -/
namespace Go.Proofs.Ytcjponmaeamjdaa
open Go.RowKit
theorem fold_step (l : List (BitVec 32)) (hl : l.length = 64) (hu : under 2147483648 l) (v : Nat) (hv : dN l = v) (hv2 : v < 2037035976334486086268445688409378161051468393665936250636140449354381299763336706183397376) :
    dN (fold1 (c8St l 0#32 64).1) = v % 1361129467683753853853498429727072845824 + 5 * (v / 1361129467683753853853498429727072845824) ∧ under 2147483648 (fold1 (c8St l 0#32 64).1) ∧ (fold1 (c8St l 0#32 64).1).length = 64 := by
  obtain ⟨c1, c2⟩ := c8_64 l 0#32 hl hu (by decide) (by rw [hv]; show v + 0 < _; omega)
  obtain ⟨f1, f2, f3⟩ := fold1_val _ (by rw [c8St_length, hl]) c2
  rw [c1, hv] at f1
  exact ⟨f1, f2, f3⟩
theorem modR_val (a : List (BitVec 32)) (ha : a.length = 64) (hu : under 2147483648 a) (hv : dN a < 2037035976334486086268445688409378161051468393665936250636140449354381299763336706183397376) : dN (modR a) = dN a % pP ∧ under 256 (modR a) := by
  obtain ⟨a1, a2, a3⟩ := fold_step a ha hu _ rfl hv
  generalize dN a = v at *
  have e1 : foldL a 1 = fold1 (c8St a 0#32 64).1 := rfl
  obtain ⟨b1, b2, b3⟩ := fold_step _ a3 a2 _ a1 (by omega)
  have e2 : foldL a 2 = fold1 (c8St (foldL a 1) 0#32 64).1 := rfl
  obtain ⟨d1, d2, d3⟩ := fold_step _ b3 b2 _ b1 (by omega)
  have e3 : foldL a 3 = fold1 (c8St (foldL a 2) 0#32 64).1 := rfl
  obtain ⟨g1, g2, g3⟩ := fold_step _ d3 d2 _ d1 (by omega)
  have e4 : foldL a 4 = fold1 (c8St (foldL a 3) 0#32 64).1 := rfl
  rw [← e1, ← e2, ← e3, ← e4] at g1 g2 g3
  obtain ⟨V, hV⟩ : ∃ V, dN (foldL a 4) = V := ⟨_, rfl⟩
  have hVp : V < 1361129467683753853853498429727072845824 ∧ V % pP = v % pP := by
    rw [← hV, g1]
    unfold pP
    omega
  clear a1 a2 a3 b1 b2 b3 d1 d2 d3 e1 e2 e3 e4 g1
  obtain ⟨p1, p2⟩ := c8_64 (foldL a 4) 0#32 g3 g2 (by decide) (by rw [hV]; show V + 0 < _; omega)
  have p1 : dN (c8St (foldL a 4) 0#32 64).1 = V := by rw [p1, hV]; rfl
  have q0 : under 2147483648 (c8St (foldL a 4) 0#32 64).1 := fun j => Nat.lt_trans (p2 j) (by decide)
  have ql : (c8St (foldL a 4) 0#32 64).1.length = 64 := by rw [c8St_length, g3]
  rw [modR_eq a _ _ rfl rfl]
  generalize (c8St (foldL a 4) 0#32 64).1 = A at *
  obtain ⟨q1, q2⟩ := c8_64 A 5#32 ql q0 (by decide) (by rw [p1]; show V + 5 < _; omega)
  have q1 : dN (c8St A 5#32 64).1 = V + 5 := by rw [q1, p1]; rfl
  have rl : (c8St A 5#32 64).1.length = 64 := by rw [c8St_length, ql]
  generalize (c8St A 5#32 64).1 = G at *
  have h16 := nth_dN G q2 16
  rw [q1] at h16
  rw [← hVp.2]
  have hV2 := hVp.1
  split
  · rename_i h4
    have hp := dN_put G 16 (nth G 16 &&& 3#32) (by omega)
    rw [and3, q1, h16] at hp
    refine ⟨?_, under_put q2 _ _ (by rw [and3]; omega)⟩
    generalize dN (put G 16 (nth G 16 &&& 3#32)) = R at *
    unfold pP
    omega
  · rename_i h4
    refine ⟨?_, p2⟩
    rw [p1]
    unfold pP
    omega
end Go.Proofs.Ytcjponmaeamjdaa
/- What the reference's Tag tells, as a number. No program in sight. -/
namespace Go.Proofs.Ytcjponmaeamjdaa
open Go.RowKit
theorem prodRow_nth (h r p : List (BitVec 32)) (i j : Nat) (hl : i + j ≤ p.length) : ∀ k, i + j ≤ k → nth (prodRow h r p i j) k = nth p k := by
  induction j with
  | zero => intro k _; rfl
  | succ j ih =>
    intro k hk
    rw [prodRow, nth_put _ _ _ _ (by rw [prodRow_length]; omega), if_neg (by omega)]
    exact ih (by omega) k (by omega)
theorem prodRow_val (h r p : List (BitVec 32)) (i j B : Nat) (hl : i + j ≤ p.length) (hh : under 256 h) (hr : under 256 r) (hp : under B p) (hB : B ≤ 2000000000) :
    dN (prodRow h r p i j) = dN p + 256 ^ i * ((nth h i).toNat * dN (r.take j)) ∧ under (B + 65026) (prodRow h r p i j) := by
  induction j with
  | zero => exact ⟨by simp [prodRow, dN], fun k => Nat.lt_of_lt_of_le (hp k) (by omega)⟩
  | succ j ih =>
    obtain ⟨h1, h2⟩ := ih (by omega)
    have hn := prodRow_nth h r p i j (by omega) (i + j) (Nat.le_refl _)
    have hx := hh i
    have hy := hr j
    have hz := hp (i + j)
    have hm : (nth h i).toNat * (nth r j).toNat ≤ 65025 := Nat.mul_le_mul (show (nth h i).toNat ≤ 255 by omega) (show (nth r j).toNat ≤ 255 by omega)
    have h5 : (nth h i * nth r j).toNat = (nth h i).toNat * (nth r j).toNat := mul_nat _ _ (by omega)
    have hs : (nth (prodRow h r p i j) (i + j) + nth h i * nth r j).toNat = (nth p (i + j)).toNat + (nth h i).toNat * (nth r j).toNat := by rw [hn, add_nat _ _ (by rw [h5]; omega), h5]
    rw [prodRow, dN_take]
    generalize nth (prodRow h r p i j) (i + j) + nth h i * nth r j = v at *
    have hq := dN_put (prodRow h r p i j) (i + j) v (by rw [prodRow_length]; omega)
    rw [hs, hn, Nat.mul_add, h1] at hq
    refine ⟨?_, under_put h2 _ _ (by rw [hs]; omega)⟩
    have e : 256 ^ (i + j) * ((nth h i).toNat * (nth r j).toNat) = 256 ^ i * ((nth h i).toNat * (256 ^ j * (nth r j).toNat)) := by
      rw [Nat.pow_add, Nat.mul_assoc, Nat.mul_left_comm (256 ^ j)]
    rw [e] at hq
    rw [Nat.mul_add, Nat.mul_add]
    omega
theorem prodAll_val (h r : List (BitVec 32)) (i : Nat) (hi : i ≤ 17) (hh : under 256 h) (hr : under 256 r) :
    dN (prodAll h r i) = dN (h.take i) * dN (r.take 16) ∧ under (65026 * i + 1) (prodAll h r i) := by
  induction i with
  | zero => exact ⟨by show dN (zer32 64) = _; rw [dN_zer]; simp [dN], fun k => by show (nth (zer32 64) k).toNat < _; rw [nth_zer32]; show 0 < _; omega⟩
  | succ i ih =>
    obtain ⟨h1, h2⟩ := ih (by omega)
    obtain ⟨p1, p2⟩ := prodRow_val h r (prodAll h r i) i 16 _ (by rw [prodAll_length]; omega) hh hr h2 (by omega)
    rw [prodAll, dN_take, Nat.add_mul, p1, h1, Nat.mul_assoc]
    exact ⟨rfl, fun k => Nat.lt_of_lt_of_le (p2 k) (by omega)⟩
theorem addText_nth (t : List (BitVec 8)) (i : Nat) (h : List (BitVec 32)) (k : Nat) (hk : k ≤ h.length) : ∀ j, k ≤ j → nth (addText t i h k) j = nth h j := by
  induction k with
  | zero => intro j _; rfl
  | succ k ih =>
    intro j hj
    rw [addText, nth_put _ _ _ _ (by rw [addText_length]; omega), if_neg (by omega)]
    exact ih (by omega) j (by omega)
theorem bN_cut (t : List (BitVec 8)) (i k : Nat) : bN (cut t i (k + 1)) = bN (cut t i k) + 256 ^ k * (nth t (i + k)).toNat := by
  unfold cut
  have e : nth t (i + k) = nth (t.drop i) k := by unfold nth; simp [List.getD_eq_getElem?_getD]
  rw [e]
  clear e
  generalize t.drop i = l
  induction l generalizing k with
  | nil => simp [nth, bN]
  | cons x l ih =>
    cases k with
    | zero => show x.toNat + 256 * bN [] = bN [] + 256 ^ 0 * x.toNat; simp [bN]
    | succ k =>
      have := ih k
      show bN (x :: l.take (k + 1)) = bN (x :: l.take k) + 256 ^ (k + 1) * (nth l k).toNat
      rw [bN_cons, bN_cons, this, Nat.pow_succ, Nat.mul_comm (256 ^ k) 256, Nat.mul_add, Nat.mul_assoc]
      omega
theorem addText_val (t : List (BitVec 8)) (i : Nat) (h : List (BitVec 32)) (k : Nat) (hk : k ≤ h.length) (hh : under 256 h) : dN (addText t i h k) = dN h + bN (cut t i k) ∧ under 512 (addText t i h k) := by
  induction k with
  | zero => exact ⟨by simp [addText, cut, bN], fun j => Nat.lt_trans (hh j) (by decide)⟩
  | succ k ih =>
    obtain ⟨h1, h2⟩ := ih (by omega)
    have hn := addText_nth t i h k (by omega) k (Nat.le_refl _)
    have hx := hh k
    have hy := (nth t (i + k)).isLt
    have hw : ((nth t (i + k)).setWidth 32).toNat = (nth t (i + k)).toNat := by rw [BitVec.toNat_setWidth, Nat.mod_eq_of_lt (by omega)]
    have hs : (nth (addText t i h k) k + (nth t (i + k)).setWidth 32).toNat = (nth h k).toNat + (nth t (i + k)).toNat := by rw [hn, add_nat _ _ (by rw [hw]; omega), hw]
    rw [addText, bN_cut]
    generalize nth (addText t i h k) k + (nth t (i + k)).setWidth 32 = v at *
    have hq := dN_put (addText t i h k) k v (by rw [addText_length]; omega)
    rw [hs, hn, Nat.mul_add, h1] at hq
    exact ⟨by omega, under_put h2 _ _ (by rw [hs]; omega)⟩
theorem addPiece_val (t : List (BitVec 8)) (q : Nat) (h : List (BitVec 32)) (hl : h.length = 64) (hq : 16 * q ≤ t.length) (hh : under 256 h) : dN (addPiece t (16 * q) (min (t.length - 16 * q) 16) h) = dN h + pieceN t (16 * q) ∧ under 2147483648 (addPiece t (16 * q) (min (t.length - 16 * q) 16) h) ∧ (addPiece t (16 * q) (min (t.length - 16 * q) 16) h).length = 64 := by
  have hL : min (16 * q + 16) t.length - 16 * q = min (t.length - 16 * q) 16 := by omega
  unfold pieceN addPiece
  rw [hL]
  have hL2 : min (t.length - 16 * q) 16 ≤ 16 := by omega
  generalize min (t.length - 16 * q) 16 = L at *
  obtain ⟨a1, a2⟩ := addText_val t (16 * q) h L (by omega) hh
  have hn := addText_nth t (16 * q) h L (by omega) L (Nat.le_refl _)
  have hx := hh L
  have hs : (nth (addText t (16 * q) h L) L + 1#32).toNat = (nth h L).toNat + 1 := by rw [hn, add_nat _ _ (by show _ + 1 < _; omega)]; rfl
  generalize nth (addText t (16 * q) h L) L + 1#32 = v at *
  have hp := dN_put (addText t (16 * q) h L) L v (by rw [addText_length]; omega)
  rw [hs, hn, Nat.mul_add, a1] at hp
  exact ⟨by omega, under_put (fun k => Nat.lt_trans (a2 k) (by decide)) _ _ (by rw [hs]; omega), by rw [put_length, addText_length, hl]⟩
end Go.Proofs.Ytcjponmaeamjdaa
/- The reference's Tag as a number; both tags are one. No program in sight. -/
namespace Go.Proofs.Ytcjponmaeamjdaa
open Go.RowKit
theorem refSt_val (r : List (BitVec 32)) (t : List (BitVec 8)) (rn : Nat) (hr : under 256 r) (h16 : dN (r.take 16) = rn) : ∀ q, 16 * q ≤ t.length + 15 → dN (refSt r t q) = accN rn t q ∧ under 256 (refSt r t q)
  | 0, _ => ⟨by show dN (zer32 64) = 0; exact dN_zer 64, fun k => by show (nth (zer32 64) k).toNat < 256; rw [nth_zer32]; decide⟩
  | q + 1, hq => by
    obtain ⟨h1, h2⟩ := refSt_val r t rn hr h16 q (by omega)
    have hlt : accN rn t q < pP := by cases q with
      | zero => show 0 < pP; decide
      | succ q => exact Nat.mod_lt _ (by decide)
    obtain ⟨a1, a2, a3⟩ := addPiece_val t q _ (refSt_length r t q) (by omega) h2
    have hpc := (piece_val t (16 * q) (by omega)).2.2
    obtain ⟨m1, m2⟩ := modR_val _ a3 a2 (by rw [a1, h1]; unfold pP at hlt; omega)
    rw [refSt, accN]
    have hml := modR_length _ a3
    generalize modR (addPiece t (16 * q) (min (t.length - 16 * q) 16) (refSt r t q)) = Z at *
    obtain ⟨p1, p2⟩ := prodAll_val Z r 17 (by omega) m2 hr
    have hZ : dN Z < pP := by rw [m1]; exact Nat.mod_lt _ (by decide)
    have hs17 := dN_split Z 17 (by omega)
    have hz17 : dN (Z.take 17) = dN Z := by
      unfold pP at hZ
      omega
    have hrn : rn < 256 ^ 16 := by
      rw [← h16]
      have := dN_lt (r.take 16) (under_take hr (by omega) 16)
      exact Nat.lt_of_lt_of_le this (Nat.pow_le_pow_right (by omega) (by simp; omega))
    have hprod : dN (prodAll Z r 17) < 2037035976334486086268445688409378161051468393665936250636140449354381299763336706183397376 := by
      rw [p1, hz17, h16]
      have := Nat.mul_lt_mul'' hZ hrn
      exact Nat.lt_of_lt_of_le this (by decide)
    obtain ⟨n1, n2⟩ := modR_val _ (prodAll_length Z r 17) (fun k => Nat.lt_of_lt_of_le (p2 k) (by decide)) hprod
    refine ⟨?_, n2⟩
    rw [n1, p1, hz17, h16, m1, a1, h1, Nat.mul_mod, Nat.mod_mod, ← Nat.mul_mod]
theorem bN_put (l : List (BitVec 8)) (k : Nat) (v : BitVec 8) (h : k < l.length) : bN (put l k v) + 256 ^ k * (nth l k).toNat = bN l + 256 ^ k * v.toNat := by
  induction l generalizing k with
  | nil => simp at h
  | cons x l ih =>
    cases k with
    | zero =>
      show bN (v :: l) + 256 ^ 0 * x.toNat = _
      rw [bN_cons, bN_cons]
      omega
    | succ k =>
      show bN (x :: put l k v) + 256 ^ (k + 1) * (nth l k).toNat = _
      have := ih k (by simpa using h)
      rw [bN_cons, bN_cons, Nat.pow_succ, Nat.mul_comm (256 ^ k) 256, Nat.mul_assoc, Nat.mul_assoc]
      omega
theorem nth_zer8' (n j : Nat) : nth (zer8 n) j = 0#8 := by
  unfold nth zer8
  rw [List.getD_eq_getElem?_getD, List.getElem?_replicate]
  split <;> rfl
theorem out_val (h : List (BitVec 32)) (key : List (BitVec 8)) (hh : under 256 h) (k : Nat) (hk : k ≤ 16) :
    bN (outSt h key k).1 + 256 ^ k * (outSt h key k).2.toNat = dN (h.take k) + bN (cut key 16 k) ∧ (outSt h key k).2.toNat < 16 ∧ ∀ j, k ≤ j → nth (outSt h key k).1 j = 0#8 := by
  induction k with
  | zero => exact ⟨by show bN (zer8 16) + _ * (0#32).toNat = _; simp [cut, dN, bN, zer8], by show (0#32).toNat < 16; decide, fun j _ => nth_zer8' 16 j⟩
  | succ k ih =>
    obtain ⟨h1, h2, h3⟩ := ih (by omega)
    have hlen := outSt_length h key k
    rw [outSt_succ]
    generalize outSt h key k = U at *
    obtain ⟨U, C⟩ := U
    dsimp only at *
    have hx := hh k
    have hy := (nth key (16 + k)).isLt
    have hw : ((nth key (16 + k)).setWidth 32).toNat = (nth key (16 + k)).toNat := by rw [BitVec.toNat_setWidth, Nat.mod_eq_of_lt (by omega)]
    have hs1 : (nth h k + (nth key (16 + k)).setWidth 32).toNat = (nth h k).toNat + (nth key (16 + k)).toNat := by rw [add_nat _ _ (by rw [hw]; omega), hw]
    have hs : (C + (nth h k + (nth key (16 + k)).setWidth 32)).toNat = C.toNat + ((nth h k).toNat + (nth key (16 + k)).toNat) := by rw [add_nat _ _ (by rw [hs1]; omega), hs1]
    generalize C + (nth h k + (nth key (16 + k)).setWidth 32) = w at *
    have hw8 : (w.setWidth 8).toNat = w.toNat % 256 := by rw [BitVec.toNat_setWidth]
    have hp := bN_put U k (w.setWidth 8) (by omega)
    rw [h3 k (Nat.le_refl _), hw8] at hp
    rw [shr8n', dN_take, bN_cut]
    refine ⟨?_, by omega, fun j hj => ?_⟩
    · have e : w.toNat = w.toNat % 256 + 256 * (w.toNat / 256) := by omega
      have e0 : 256 ^ k * (0#8).toNat = 0 := rfl
      have e2 : 256 ^ (k + 1) * (w.toNat / 256) = 256 ^ k * (256 * (w.toNat / 256)) := by rw [Nat.pow_succ, Nat.mul_assoc]
      have e3 : 256 ^ k * w.toNat = 256 ^ k * (w.toNat % 256) + 256 ^ k * (256 * (w.toNat / 256)) := by rw [← Nat.mul_add, ← e]
      have e4 : 256 ^ k * w.toNat = 256 ^ k * C.toNat + (256 ^ k * (nth h k).toNat + 256 ^ k * (nth key (16 + k)).toNat) := by rw [hs, Nat.mul_add, Nat.mul_add]
      rw [e2]
      omega
    · rw [nth_put _ _ _ _ (by omega), if_neg (by omega)]
      exact h3 j (by omega)
end Go.Proofs.Ytcjponmaeamjdaa
/- poly.Tag and the reference's Tag are one. No program in sight. (Printed by a program.) -/
namespace Go.Proofs.Ytcjponmaeamjdaa
open Go.RowKit
theorem many {l : List (BitVec 8)} (h : l.length = 32) : ∃ k0 k1 k2 k3 k4 k5 k6 k7 k8 k9 k10 k11 k12 k13 k14 k15 k16 k17 k18 k19 k20 k21 k22 k23 k24 k25 k26 k27 k28 k29 k30 k31, l = [k0, k1, k2, k3, k4, k5, k6, k7, k8, k9, k10, k11, k12, k13, k14, k15, k16, k17, k18, k19, k20, k21, k22, k23, k24, k25, k26, k27, k28, k29, k30, k31] := by
  match l, h with
  | [k0, k1, k2, k3, k4, k5, k6, k7, k8, k9, k10, k11, k12, k13, k14, k15, k16, k17, k18, k19, k20, k21, k22, k23, k24, k25, k26, k27, k28, k29, k30, k31], _ => exact ⟨_, _, _, _, _, _, _, _, _, _, _, _, _, _, _, _, _, _, _, _, _, _, _, _, _, _, _, _, _, _, _, _, rfl⟩
theorem rBytes32 (k0 k1 k2 k3 k4 k5 k6 k7 k8 k9 k10 k11 k12 k13 k14 k15 k16 k17 k18 k19 k20 k21 k22 k23 k24 k25 k26 k27 k28 k29 k30 k31 : BitVec 8) : rBytes [k0, k1, k2, k3, k4, k5, k6, k7, k8, k9, k10, k11, k12, k13, k14, k15, k16, k17, k18, k19, k20, k21, k22, k23, k24, k25, k26, k27, k28, k29, k30, k31] = [k0, k1, k2, k3 &&& 15#8, k4 &&& 252#8, k5, k6, k7 &&& 15#8, k8 &&& 252#8, k9, k10, k11 &&& 15#8, k12 &&& 252#8, k13, k14, k15 &&& 15#8, 0#8] := by kernel_rfl
theorem refR32 (k0 k1 k2 k3 k4 k5 k6 k7 k8 k9 k10 k11 k12 k13 k14 k15 k16 k17 k18 k19 k20 k21 k22 k23 k24 k25 k26 k27 k28 k29 k30 k31 : BitVec 8) : refR [k0, k1, k2, k3, k4, k5, k6, k7, k8, k9, k10, k11, k12, k13, k14, k15, k16, k17, k18, k19, k20, k21, k22, k23, k24, k25, k26, k27, k28, k29, k30, k31] = [k0.setWidth 32, k1.setWidth 32, k2.setWidth 32, k3.setWidth 32 &&& 15#32, k4.setWidth 32 &&& 252#32, k5.setWidth 32, k6.setWidth 32, k7.setWidth 32 &&& 15#32, k8.setWidth 32 &&& 252#32, k9.setWidth 32, k10.setWidth 32, k11.setWidth 32 &&& 15#32, k12.setWidth 32 &&& 252#32, k13.setWidth 32, k14.setWidth 32, k15.setWidth 32 &&& 15#32, 0#32, 0#32, 0#32, 0#32, 0#32, 0#32, 0#32, 0#32, 0#32, 0#32, 0#32, 0#32, 0#32, 0#32, 0#32, 0#32, 0#32, 0#32, 0#32, 0#32, 0#32, 0#32, 0#32, 0#32, 0#32, 0#32, 0#32, 0#32, 0#32, 0#32, 0#32, 0#32, 0#32, 0#32, 0#32, 0#32, 0#32, 0#32, 0#32, 0#32, 0#32, 0#32, 0#32, 0#32, 0#32, 0#32, 0#32, 0#32] := by kernel_rfl
theorem wide (x : BitVec 8) : (x.setWidth 32).toNat = x.toNat := by rw [BitVec.toNat_setWidth, Nat.mod_eq_of_lt (by have := x.isLt; omega)]
theorem lo4 (x : BitVec 8) : (x &&& 15#8).toNat = x.toNat % 16 := by
  rw [BitVec.toNat_and]
  exact Nat.and_two_pow_sub_one_eq_mod x.toNat 4
theorem lo4w (x : BitVec 8) : (x.setWidth 32 &&& 15#32).toNat = x.toNat % 16 := by
  rw [BitVec.toNat_and, wide]
  exact Nat.and_two_pow_sub_one_eq_mod x.toNat 4
theorem hi6 (x : BitVec 8) : (x.setWidth 32 &&& 252#32).toNat = (x &&& 252#8).toNat := by
  rw [BitVec.toNat_and, BitVec.toNat_and, wide]
  rfl
theorem and_le (x m : BitVec 32) : (x &&& m).toNat ≤ x.toNat := by rw [BitVec.toNat_and]; exact Nat.and_le_left
theorem refR_under (key : List (BitVec 8)) : under 256 (refR key) := by
  have h1 : ∀ k, under 256 (setR key k) := fun k => by
    induction k with
    | zero => intro j; show (nth (zer32 64) j).toNat < 256; rw [nth_zer32]; decide
    | succ k ih => exact under_put ih _ _ (by rw [wide]; exact BitVec.isLt _)
  have h2 : ∀ k, under 256 (rA (setR key 16) k) := fun k => by
    induction k with
    | zero => exact h1 16
    | succ k ih => exact under_put ih _ _ (Nat.lt_of_le_of_lt (and_le _ _) (ih _))
  have h3 : ∀ k, under 256 (rB (rA (setR key 16) 4) k) := fun k => by
    induction k with
    | zero => exact h2 4
    | succ k ih => exact under_put ih _ _ (Nat.lt_of_le_of_lt (and_le _ _) (ih _))
  exact h3 3
theorem key_val (key : List (BitVec 8)) (hk : key.length = 32) : dN ((refR key).take 16) = bN (rBytes key) ∧ under 256 (refR key) ∧ bN (rBytes key) < 340282366920938463463374607431768211456 := by
  refine ⟨?_, refR_under _, ?_⟩
  case refine_2 =>
    have e : bN (rBytes key) = bN (clampB (clampA (cut key 0 16) 4) 3) := by unfold rBytes; rw [bN_append]; simp [bN]
    have h := bN_lt (clampB (clampA (cut key 0 16) 4) 3)
    rw [clampB_length, clampA_length, cut_length, hk] at h
    rw [e]
    exact h
  obtain ⟨k0, k1, k2, k3, k4, k5, k6, k7, k8, k9, k10, k11, k12, k13, k14, k15, k16, k17, k18, k19, k20, k21, k22, k23, k24, k25, k26, k27, k28, k29, k30, k31, rfl⟩ := many hk
  rw [rBytes32]
  rw [refR32]
  simp only [List.take_succ_cons, List.take_zero, dN_cons, bN_cons, wide, lo4, lo4w, hi6, bN_nil]
  rfl
theorem bN_inj : ∀ {a b : List (BitVec 8)}, a.length = b.length → bN a = bN b → a = b
  | [], [], _, _ => rfl
  | x :: a, y :: b, hl, h => by
    rw [bN_cons, bN_cons] at h
    have hx := x.isLt
    have hy := y.isLt
    rw [bN_inj (a := a) (b := b) (by simpa using hl) (by omega), BitVec.eq_of_toNat_eq (show x.toNat = y.toNat by omega)]
theorem refTag_val (key t : List (BitVec 8)) (hk : key.length = 32) : bN (refTag key t) = (accN (bN (rBytes key)) t ((t.length + 15) / 16) + sN key) % 340282366920938463463374607431768211456 := by
  obtain ⟨k1, k2, k3⟩ := key_val key hk
  obtain ⟨s1, s2⟩ := refSt_val (refR key) t _ k2 k1 ((t.length + 15) / 16) (by omega)
  rw [refTag_eq key t t.length rfl]
  show bN (outSt (refSt (refR key) t ((t.length + 15) / 16)) key 16).1 = _
  obtain ⟨o1, o2, o3⟩ := out_val _ key s2 16 (by omega)
  have hb := bN_lt (outSt (refSt (refR key) t ((t.length + 15) / 16)) key 16).1
  rw [outSt_length] at hb
  have hsp := dN_split (refSt (refR key) t ((t.length + 15) / 16)) 16 (by rw [refSt_length]; omega)
  rw [s1] at hsp
  have hc : bN (cut key 16 16) = sN key := by
    have e : key = key.take 16 ++ cut key 16 16 := by unfold cut; rw [List.take_of_length_le (l := key.drop 16) (by simp [hk]), List.take_append_drop]
    have hA := bN_append (key.take 16) (cut key 16 16)
    rw [← e] at hA
    have h1 := bN_lt (key.take 16)
    have h2 := bN_lt (cut key 16 16)
    rw [cut_length, hk] at h2
    have h2 : bN (cut key 16 16) < 256 ^ 16 := h2
    have l1 : (key.take 16).length = 16 := by simp [hk]
    rw [l1] at h1 hA
    unfold sN
    omega
  rw [hc] at o1
  generalize (outSt (refSt (refR key) t ((t.length + 15) / 16)) key 16).2.toNat = c at *
  generalize dN ((refSt (refR key) t ((t.length + 15) / 16)).take 16) = X at *
  generalize dN ((refSt (refR key) t ((t.length + 15) / 16)).drop 16) = Y at *
  omega
theorem tags_same (key t : List (BitVec 8)) (hk : key.length = 32) : polyTag key t = refTag key t := by
  obtain ⟨_, _, k3⟩ := key_val key hk
  refine bN_inj ?_ ?_
  · rw [refTag_length]
    with_unfolding_all exact tagEnd_length _ _
  · rw [refTag_val key t hk, polyTag_val key t hk _ rfl (by omega)]
end Go.Proofs.Ytcjponmaeamjdaa
/- The reference's blocks, texts and tags, told by the program's. (Drawn up by a program.) -/
namespace Go.Proofs.Ytcjponmaeamjdaa
open Go.RowKit
theorem refTag_evA (key t : List (BitVec 8)) (n cap : Nat) (hk : key.length = 32) (ht : t.length = n) (hn : n ≤ 1099511627776) : Ev Try.prog (.call 30 [.agg (.a8 key), .c (.sl 0 0 n cap 1)] [.row false (.a8 t)]) (.val (.agg (.a8 (polyTag key t))) [.row false (.a8 t)]) := by
  rw [tags_same key t hk]
  exact refTag_ev key t n cap hk ht hn
theorem rfBlockA_ev (key : List (BitVec 8)) (counter : BitVec 32) (nonce : List (BitVec 8)) (hkey : key.length = 32) (hnonce : nonce.length = 12)  : Ev Try.prog (.call 29 [.agg (.a8 (key)), .c (.val (U32 counter)), .agg (.a8 (nonce))] []) (.val (.agg (.a8 (chBlock key counter nonce))) [])  := by
  have h_ := rfBlock_ev key counter nonce hkey hnonce
  rw [block_same] at h_
  exact h_
theorem rfXorA_ev (key : List (BitVec 8)) (counter : BitVec 32) (nonce : List (BitVec 8)) (t : List (BitVec 8)) (n : Nat) (cap : Nat) (hkey : key.length = 32) (hnonce : nonce.length = 12) (ht : t.length = n) (hn : n ≤ 1099511627776)  : Ev Try.prog (.call 20 [.agg (.a8 (key)), .c (.val (U32 counter)), .agg (.a8 (nonce)), .c (.sl 0 0 n cap 1)] [.row false (.a8 (t))]) (.val (.c (.sl 1 0 n n 1)) [.row false (.a8 (t)), .row true (.a8 (chXor key counter nonce t))])  := by
  have h_ := rfXor_ev key counter nonce t n cap hkey hnonce ht hn
  rw [xor_same _ _ _ _ hkey hnonce] at h_
  exact h_
theorem rfXorA_evP (key : List (BitVec 8)) (counter : BitVec 32) (nonce : List (BitVec 8)) (t : List (BitVec 8)) (o_t : Nat) (n : Nat) (cap : Nat) (hkey : key.length = 32) (hnonce : nonce.length = 12) (ht : o_t + n ≤ t.length) (hn : n ≤ 1099511627776) : Ev Try.prog (.call 20 [.agg (.a8 (key)), .c (.val (U32 counter)), .agg (.a8 (nonce)), .c (.sl 0 o_t n cap 1)] [.row false (.a8 (t))]) (.val (.c (.sl 1 0 n n 1)) [.row false (.a8 (t)), .row true (.a8 (chXor key counter nonce (cut t o_t n)))]) := by
  have h_ := rfXor_evP key counter nonce t o_t n cap hkey hnonce ht hn
  rw [xor_same _ _ _ _ hkey hnonce] at h_
  exact h_
end Go.Proofs.Ytcjponmaeamjdaa
/- trystref01.join, trystref01.join, trystref01.zeros, trystref01.len8 (Drawn up by a program.) -/
namespace Go.Proofs.Ytcjponmaeamjdaa
open Go.RowKit

set_option maxRecDepth 100000 in
set_option maxHeartbeats 2000000 in
theorem rfJoin2_ev (a : List (BitVec 8)) (na : Nat) (ca : Nat) (b : List (BitVec 8)) (nb : Nat) (cb : Nat) (ha : a.length = na) (hna : na ≤ 1099511627776) (hb : b.length = nb) (hnb : nb ≤ 1099511627776) : Ev Try.prog (.call 22 [.c (.sl 0 0 2 2 1)] [.row false (.ac [.sl 1 0 na ca 1, .sl 2 0 nb cb 1]), .row false (.a8 (a)), .row false (.a8 (b))]) (.val (.c (.sl 3 0 (na + nb) (na + nb) 1)) [.row false (.ac [.sl 1 0 na ca 1, .sl 2 0 nb cb 1]), .row false (.a8 (a)), .row false (.a8 (b)), .row true (.a8 (a ++ b))]) := by
  subst ha
  subst hb
  refine c_call Try.func22 rfl Try.ntmps22 rfl LEN_ ?_
  refine S_ ?_
  refine c_region ?_
  refine s_val (v_assignC rfl) rfl ?_
  refine s_nil ?_
  refine S_ ?_
  refine c_region ?_
  refine s_val (v_assignC rfl) rfl ?_
  refine s_nil ?_
  refine S_ ?_
  refine c_region ?_
  refine s_val (v_assignC rfl) rfl ?_
  refine s_nil ?_
  refine Q_ ?_
  refine c_peel ?_
  refine S_ ?_
  refine c_region ?_
  refine s_val (v_moveC rfl) rfl ?_
  refine s_val (v_moveC rfl) rfl ?_
  refine s_val (v_lenS rfl Try.underlying62) rfl ?_
  refine s_val (v_lssN (a := 0) (b := 2) rfl rfl) rfl ?_
  refine s_nil ?_
  refine S_ ?_
  refine c_region ?_
  refine s_val (v_moveC rfl) rfl ?_
  refine s_val (v_moveC rfl) rfl ?_
  refine s_val (v_moveC rfl) rfl ?_
  refine s_val (v_idxS1 (j := 0) rfl rfl Try.underlying62 sz_24 (by omega)) rfl ?_
  refine s_val (v_load rfl rfl row_24 LT_ rfl) rfl ?_
  refine s_memN (m_appN8 rfl rfl rfl Try.underlying24 Try.underlying24 el_5 EQL_ (by omega) LEN_) APP_ rfl ?_
  refine s_val (v_assignC rfl) rfl ?_
  refine s_nil ?_
  refine S_ ?_
  refine c_region ?_
  refine s_val (v_moveC rfl) rfl ?_
  refine s_val (v_addN (a := 0) (b := 1) rfl rfl (by omega)) rfl ?_
  refine s_val (v_assignC rfl) rfl ?_
  refine s_nil ?_
  show WC _ _ _ _ _
  refine Q_ ?_
  refine c_peel ?_
  refine S_ ?_
  refine c_region ?_
  refine s_val (v_moveC rfl) rfl ?_
  refine s_val (v_moveC rfl) rfl ?_
  refine s_val (v_lenS rfl Try.underlying62) rfl ?_
  refine s_val (v_lssN (a := 1) (b := 2) rfl rfl) rfl ?_
  refine s_nil ?_
  refine S_ ?_
  refine c_region ?_
  refine s_val (v_moveC rfl) rfl ?_
  refine s_val (v_moveC rfl) rfl ?_
  refine s_val (v_moveC rfl) rfl ?_
  refine s_val (v_idxS1 (j := 1) rfl rfl Try.underlying62 sz_24 (by omega)) rfl ?_
  refine s_val (v_load rfl rfl row_24 LT_ rfl) rfl ?_
  refine s_app8 rfl rfl rfl rfl Try.underlying24 Try.underlying24 el_5 EQL_ EQL_ (by omega) LEN_ KILL_ rfl ?_
  refine s_val (v_assignC rfl) rfl ?_
  refine s_nil ?_
  refine S_ ?_
  refine c_region ?_
  refine s_val (v_moveC rfl) rfl ?_
  refine s_val (v_addN (a := 1) (b := 1) rfl rfl (by omega)) rfl ?_
  refine s_val (v_assignC rfl) rfl ?_
  refine s_nil ?_
  show WC _ _ _ _ _
  refine Q_ ?_
  refine c_peel ?_
  refine S_ ?_
  refine c_region ?_
  refine s_val (v_moveC rfl) rfl ?_
  refine s_val (v_moveC rfl) rfl ?_
  refine s_val (v_lenS rfl Try.underlying62) rfl ?_
  refine s_val (v_lssN (a := 2) (b := 2) rfl rfl) rfl ?_
  refine s_nil ?_
  refine S_ ?_
  refine c_region ?_
  refine s_val (v_moveC rfl) rfl ?_
  refine s_val (v_assignC rfl) rfl ?_
  refine s_nil ?_
  refine S_ ?_
  exact k_1 (by first | exact r_tmpC rfl | exact r_tmpA rfl) (by first | kernel_rfl | rfl)


set_option maxRecDepth 100000 in
set_option maxHeartbeats 2000000 in
theorem rfJoin6_ev (a : List (BitVec 8)) (na : Nat) (ca : Nat) (b : List (BitVec 8)) (nb : Nat) (cb : Nat) (c : List (BitVec 8)) (nc : Nat) (cc : Nat) (d : List (BitVec 8)) (nd : Nat) (cd : Nat) (e : List (BitVec 8)) (ne : Nat) (ce : Nat) (f : List (BitVec 8)) (nf : Nat) (cf : Nat) (ha : a.length = na) (hna : na ≤ 1099511627776) (hb : b.length = nb) (hnb : nb ≤ 1099511627776) (hc : c.length = nc) (hnc : nc ≤ 1099511627776) (hd : d.length = nd) (hnd : nd ≤ 1099511627776) (he : e.length = ne) (hne : ne ≤ 1099511627776) (hf : f.length = nf) (hnf : nf ≤ 1099511627776) : Ev Try.prog (.call 22 [.c (.sl 0 0 6 6 1)] [.row false (.ac [.sl 1 0 na ca 1, .sl 2 0 nb cb 1, .sl 3 0 nc cc 1, .sl 4 0 nd cd 1, .sl 5 0 ne ce 1, .sl 6 0 nf cf 1]), .row false (.a8 (a)), .row false (.a8 (b)), .row false (.a8 (c)), .row false (.a8 (d)), .row false (.a8 (e)), .row false (.a8 (f))]) (.val (.c (.sl 7 0 (((((na + nb) + nc) + nd) + ne) + nf) (((((na + nb) + nc) + nd) + ne) + nf) 1)) [.row false (.ac [.sl 1 0 na ca 1, .sl 2 0 nb cb 1, .sl 3 0 nc cc 1, .sl 4 0 nd cd 1, .sl 5 0 ne ce 1, .sl 6 0 nf cf 1]), .row false (.a8 (a)), .row false (.a8 (b)), .row false (.a8 (c)), .row false (.a8 (d)), .row false (.a8 (e)), .row false (.a8 (f)), .row true (.a8 (((((a ++ b) ++ c) ++ d) ++ e) ++ f))]) := by
  subst ha
  subst hb
  subst hc
  subst hd
  subst he
  subst hf
  refine c_call Try.func22 rfl Try.ntmps22 rfl LEN_ ?_
  refine S_ ?_
  refine c_region ?_
  refine s_val (v_assignC rfl) rfl ?_
  refine s_nil ?_
  refine S_ ?_
  refine c_region ?_
  refine s_val (v_assignC rfl) rfl ?_
  refine s_nil ?_
  refine S_ ?_
  refine c_region ?_
  refine s_val (v_assignC rfl) rfl ?_
  refine s_nil ?_
  refine Q_ ?_
  refine c_peel ?_
  refine S_ ?_
  refine c_region ?_
  refine s_val (v_moveC rfl) rfl ?_
  refine s_val (v_moveC rfl) rfl ?_
  refine s_val (v_lenS rfl Try.underlying62) rfl ?_
  refine s_val (v_lssN (a := 0) (b := 6) rfl rfl) rfl ?_
  refine s_nil ?_
  refine S_ ?_
  refine c_region ?_
  refine s_val (v_moveC rfl) rfl ?_
  refine s_val (v_moveC rfl) rfl ?_
  refine s_val (v_moveC rfl) rfl ?_
  refine s_val (v_idxS1 (j := 0) rfl rfl Try.underlying62 sz_24 (by omega)) rfl ?_
  refine s_val (v_load rfl rfl row_24 LT_ rfl) rfl ?_
  refine s_memN (m_appN8 rfl rfl rfl Try.underlying24 Try.underlying24 el_5 EQL_ (by omega) LEN_) APP_ rfl ?_
  refine s_val (v_assignC rfl) rfl ?_
  refine s_nil ?_
  refine S_ ?_
  refine c_region ?_
  refine s_val (v_moveC rfl) rfl ?_
  refine s_val (v_addN (a := 0) (b := 1) rfl rfl (by omega)) rfl ?_
  refine s_val (v_assignC rfl) rfl ?_
  refine s_nil ?_
  show WC _ _ _ _ _
  refine Q_ ?_
  refine c_peel ?_
  refine S_ ?_
  refine c_region ?_
  refine s_val (v_moveC rfl) rfl ?_
  refine s_val (v_moveC rfl) rfl ?_
  refine s_val (v_lenS rfl Try.underlying62) rfl ?_
  refine s_val (v_lssN (a := 1) (b := 6) rfl rfl) rfl ?_
  refine s_nil ?_
  refine S_ ?_
  refine c_region ?_
  refine s_val (v_moveC rfl) rfl ?_
  refine s_val (v_moveC rfl) rfl ?_
  refine s_val (v_moveC rfl) rfl ?_
  refine s_val (v_idxS1 (j := 1) rfl rfl Try.underlying62 sz_24 (by omega)) rfl ?_
  refine s_val (v_load rfl rfl row_24 LT_ rfl) rfl ?_
  refine s_app8 rfl rfl rfl rfl Try.underlying24 Try.underlying24 el_5 EQL_ EQL_ (by omega) LEN_ KILL_ rfl ?_
  refine s_val (v_assignC rfl) rfl ?_
  refine s_nil ?_
  refine S_ ?_
  refine c_region ?_
  refine s_val (v_moveC rfl) rfl ?_
  refine s_val (v_addN (a := 1) (b := 1) rfl rfl (by omega)) rfl ?_
  refine s_val (v_assignC rfl) rfl ?_
  refine s_nil ?_
  show WC _ _ _ _ _
  refine Q_ ?_
  refine c_peel ?_
  refine S_ ?_
  refine c_region ?_
  refine s_val (v_moveC rfl) rfl ?_
  refine s_val (v_moveC rfl) rfl ?_
  refine s_val (v_lenS rfl Try.underlying62) rfl ?_
  refine s_val (v_lssN (a := 2) (b := 6) rfl rfl) rfl ?_
  refine s_nil ?_
  refine S_ ?_
  refine c_region ?_
  refine s_val (v_moveC rfl) rfl ?_
  refine s_val (v_moveC rfl) rfl ?_
  refine s_val (v_moveC rfl) rfl ?_
  refine s_val (v_idxS1 (j := 2) rfl rfl Try.underlying62 sz_24 (by omega)) rfl ?_
  refine s_val (v_load rfl rfl row_24 LT_ rfl) rfl ?_
  refine s_app8 rfl rfl rfl rfl Try.underlying24 Try.underlying24 el_5 EQL_ EQL_ (by omega) LEN_ KILL_ rfl ?_
  refine s_val (v_assignC rfl) rfl ?_
  refine s_nil ?_
  refine S_ ?_
  refine c_region ?_
  refine s_val (v_moveC rfl) rfl ?_
  refine s_val (v_addN (a := 2) (b := 1) rfl rfl (by omega)) rfl ?_
  refine s_val (v_assignC rfl) rfl ?_
  refine s_nil ?_
  show WC _ _ _ _ _
  refine Q_ ?_
  refine c_peel ?_
  refine S_ ?_
  refine c_region ?_
  refine s_val (v_moveC rfl) rfl ?_
  refine s_val (v_moveC rfl) rfl ?_
  refine s_val (v_lenS rfl Try.underlying62) rfl ?_
  refine s_val (v_lssN (a := 3) (b := 6) rfl rfl) rfl ?_
  refine s_nil ?_
  refine S_ ?_
  refine c_region ?_
  refine s_val (v_moveC rfl) rfl ?_
  refine s_val (v_moveC rfl) rfl ?_
  refine s_val (v_moveC rfl) rfl ?_
  refine s_val (v_idxS1 (j := 3) rfl rfl Try.underlying62 sz_24 (by omega)) rfl ?_
  refine s_val (v_load rfl rfl row_24 LT_ rfl) rfl ?_
  refine s_app8 rfl rfl rfl rfl Try.underlying24 Try.underlying24 el_5 EQL_ EQL_ (by omega) LEN_ KILL_ rfl ?_
  refine s_val (v_assignC rfl) rfl ?_
  refine s_nil ?_
  refine S_ ?_
  refine c_region ?_
  refine s_val (v_moveC rfl) rfl ?_
  refine s_val (v_addN (a := 3) (b := 1) rfl rfl (by omega)) rfl ?_
  refine s_val (v_assignC rfl) rfl ?_
  refine s_nil ?_
  show WC _ _ _ _ _
  refine Q_ ?_
  refine c_peel ?_
  refine S_ ?_
  refine c_region ?_
  refine s_val (v_moveC rfl) rfl ?_
  refine s_val (v_moveC rfl) rfl ?_
  refine s_val (v_lenS rfl Try.underlying62) rfl ?_
  refine s_val (v_lssN (a := 4) (b := 6) rfl rfl) rfl ?_
  refine s_nil ?_
  refine S_ ?_
  refine c_region ?_
  refine s_val (v_moveC rfl) rfl ?_
  refine s_val (v_moveC rfl) rfl ?_
  refine s_val (v_moveC rfl) rfl ?_
  refine s_val (v_idxS1 (j := 4) rfl rfl Try.underlying62 sz_24 (by omega)) rfl ?_
  refine s_val (v_load rfl rfl row_24 LT_ rfl) rfl ?_
  refine s_app8 rfl rfl rfl rfl Try.underlying24 Try.underlying24 el_5 EQL_ EQL_ (by omega) LEN_ KILL_ rfl ?_
  refine s_val (v_assignC rfl) rfl ?_
  refine s_nil ?_
  refine S_ ?_
  refine c_region ?_
  refine s_val (v_moveC rfl) rfl ?_
  refine s_val (v_addN (a := 4) (b := 1) rfl rfl (by omega)) rfl ?_
  refine s_val (v_assignC rfl) rfl ?_
  refine s_nil ?_
  show WC _ _ _ _ _
  refine Q_ ?_
  refine c_peel ?_
  refine S_ ?_
  refine c_region ?_
  refine s_val (v_moveC rfl) rfl ?_
  refine s_val (v_moveC rfl) rfl ?_
  refine s_val (v_lenS rfl Try.underlying62) rfl ?_
  refine s_val (v_lssN (a := 5) (b := 6) rfl rfl) rfl ?_
  refine s_nil ?_
  refine S_ ?_
  refine c_region ?_
  refine s_val (v_moveC rfl) rfl ?_
  refine s_val (v_moveC rfl) rfl ?_
  refine s_val (v_moveC rfl) rfl ?_
  refine s_val (v_idxS1 (j := 5) rfl rfl Try.underlying62 sz_24 (by omega)) rfl ?_
  refine s_val (v_load rfl rfl row_24 LT_ rfl) rfl ?_
  refine s_app8 rfl rfl rfl rfl Try.underlying24 Try.underlying24 el_5 EQL_ EQL_ (by omega) LEN_ KILL_ rfl ?_
  refine s_val (v_assignC rfl) rfl ?_
  refine s_nil ?_
  refine S_ ?_
  refine c_region ?_
  refine s_val (v_moveC rfl) rfl ?_
  refine s_val (v_addN (a := 5) (b := 1) rfl rfl (by omega)) rfl ?_
  refine s_val (v_assignC rfl) rfl ?_
  refine s_nil ?_
  show WC _ _ _ _ _
  refine Q_ ?_
  refine c_peel ?_
  refine S_ ?_
  refine c_region ?_
  refine s_val (v_moveC rfl) rfl ?_
  refine s_val (v_moveC rfl) rfl ?_
  refine s_val (v_lenS rfl Try.underlying62) rfl ?_
  refine s_val (v_lssN (a := 6) (b := 6) rfl rfl) rfl ?_
  refine s_nil ?_
  refine S_ ?_
  refine c_region ?_
  refine s_val (v_moveC rfl) rfl ?_
  refine s_val (v_assignC rfl) rfl ?_
  refine s_nil ?_
  refine S_ ?_
  exact k_1 (by first | exact r_tmpC rfl | exact r_tmpA rfl) (by first | kernel_rfl | rfl)


set_option maxRecDepth 100000 in
set_option maxHeartbeats 2000000 in
theorem rfZeros_ev (n : Nat) (hn : n ≤ 1099511627776) : Ev Try.prog (.call 31 [.c (.val (.int .i64 ((n : Nat) : Int)))] []) (.val (.c (.sl 0 0 ((16 - (n % 16)) % 16) ((16 - (n % 16)) % 16) 1)) [.row true (.a8 (zer8 ((16 - (n % 16)) % 16)))]) := by
  refine c_call Try.func31 rfl Try.ntmps31 rfl LEN_ ?_
  refine S_ ?_
  refine c_region ?_
  refine s_val (v_assignC rfl) rfl ?_
  refine s_nil ?_
  refine S_ ?_
  refine c_region ?_
  refine s_val (v_moveC rfl) rfl ?_
  refine s_val (v_remN (b := 16) rfl rfl (by omega) (by omega)) rfl ?_
  first
    | refine s_val (v_subN (a := 16) rfl rfl (by omega) (by omega)) rfl ?_
    | refine s_val (v_subI rfl rfl (by omega)) rfl ?_
  refine s_val (v_remN (b := 16) rfl rfl (by omega) (by omega)) rfl ?_
  refine s_memN (m_make8 Try.underlying24 rfl rfl el_5 rep_5 (by omega) (by omega) (by omega) LEN_) APP_ rfl ?_
  refine s_val (v_assignC rfl) rfl ?_
  refine s_nil ?_
  refine S_ ?_
  exact k_1 (by first | exact r_tmpC rfl | exact r_tmpA rfl) (by first | kernel_rfl | rfl)

def rfLen8_L3_S (n : Nat) (X1 : List (BitVec 8)) (j3 : Nat) : List (BitVec 8) := X1 ++ [((BitVec.ofNat 64 n) >>> (BitVec.ofNat 64 (8 * j3)).toNat).setWidth 8]
def rfLen8_L3 (n : Nat) : Nat → List (BitVec 8)
  | 0 => []
  | j3 + 1 => rfLen8_L3_S n (rfLen8_L3 n j3) j3
@[simp] theorem rfLen8_L3_len (n : Nat) (j3 : Nat) : (rfLen8_L3 n j3).length = j3 := by
  induction j3 with
  | zero => first | (simp [rfLen8_L3, *]; done) | (simp [rfLen8_L3, *]; omega)
  | succ j3 ih => rw [rfLen8_L3.eq_2, rfLen8_L3_S]; first | (simp [ih]; done) | (simp [ih]; omega) | (simp [*]; done) | (simp [*]; omega) | (split <;> first | (simp [ih]; done) | (simp [ih]; omega) | (simp [*]; done))
def rfLen8 (n : Nat) : List (BitVec 8) := (rfLen8_L3 n 8)
set_option maxRecDepth 100000 in
set_option maxHeartbeats 2000000 in
theorem rfLen8_ev (n : Nat) (hn : n ≤ 1099511627776) : Ev Try.prog (.call 32 [.c (.val (.int .i64 ((n : Nat) : Int)))] []) (.val (.c (.sl 0 0 8 8 1)) [.row true (.a8 (rfLen8 n))]) := by
  have hP : Hid (rfLen8 n = (rfLen8_L3 n 8)) := ⟨rfl⟩
  refine c_call Try.func32 rfl Try.ntmps32 rfl LEN_ ?_
  refine S_ ?_
  refine c_region ?_
  refine s_val (v_assignC rfl) rfl ?_
  refine s_nil ?_
  refine S_ ?_
  refine c_region ?_
  refine s_val (v_assignC rfl) rfl ?_
  refine s_nil ?_
  refine S_ ?_
  refine c_region ?_
  refine s_val (v_assignC rfl) rfl ?_
  refine s_nil ?_
  refine S_ ?_
  refine c_nil 3 1 (.a8 ([])) rfl rfl LEN_ rfl ?_
  refine S_ ?_
  refine c_loopC [0, 3, 4] (fun (zz : Nat × List (BitVec 8)) => ⟨20, keepT [0, 3, 4] [.c (.val (.int .i64 (((n : Nat) : Int)))), .c (.sl 0 0 zz.1 zz.1 1), .c (.val (.int .i64 (((zz.1 : Nat) : Int))))], [.row true (.a8 (zz.2))]⟩) (fun j3 => (j3, rfLen8_L3 n j3)) (8) (by kernel_rfl) ?_ ?_
  · intro j3 hj3
    try dsimp only
    have hX1 : (rfLen8_L3 n j3).length = j3 := by rw [rfLen8_L3_len n _]; try omega
    rw [rfLen8_L3.eq_2, rfLen8_L3_S]
    generalize rfLen8_L3 n j3 = X1 at *
    refine S_ ?_
    refine c_region ?_
    refine s_val (v_moveC rfl) rfl ?_
    refine s_val (v_lssN (b := 8) rfl rfl) rfl ?_
    refine s_nil ?_
    refine S_ ?_
    refine c_region ?_
    refine s_val (v_moveC rfl) rfl ?_
    refine s_val (v_moveC rfl) rfl ?_
    refine s_val (v_conv rfl Try.underlying3 Try.underlying51 (wi_64 _)) rfl ?_
    refine s_val (v_moveC rfl) rfl ?_
    refine s_val (v_mulN (a := 8) rfl rfl (by omega)) rfl ?_
    refine s_val (v_conv rfl Try.underlying3 Try.underlying36 (wi_64 _)) rfl ?_
    refine s_val (v_shr64w rfl rfl) rfl ?_
    refine s_val (v_conv rfl Try.underlying51 Try.underlying5 (w64_8 _)) rfl ?_
    refine s_memN (m_bs8 (l := [_]) Try.underlying24 el_5 rfl rfl (by decide) (by decide) LEN_) APP_ rfl ?_
    refine s_app8 rfl rfl rfl rfl Try.underlying24 Try.underlying24 el_5 EQL_ EQL_ (by omega) LEN_ KILL_ rfl ?_
    refine s_val (v_assignC rfl) rfl ?_
    refine s_nil ?_
    refine S_ ?_
    refine c_region ?_
    refine s_val (v_moveC rfl) rfl ?_
    refine s_val (v_addN (b := 1) rfl rfl (by omega)) rfl ?_
    refine s_val (v_assignC rfl) rfl ?_
    refine s_nil ?_
    exact ⟨(j3 + 1, _), by kernel_rfl, rfl⟩
  · try dsimp only
    have hY2 : (rfLen8_L3 n 8).length = 8 := by rw [rfLen8_L3_len n _]; try omega
    generalize rfLen8_L3 n 8 = Y2 at *
    refine S_ ?_
    refine c_region ?_
    refine s_val (v_moveC rfl) rfl ?_
    refine s_val (v_lssN (a := 8) (b := 8) rfl rfl) rfl ?_
    refine s_nil ?_
    refine S_ ?_
    refine c_region ?_
    refine s_val (v_moveC rfl) rfl ?_
    refine s_val (v_assignC rfl) rfl ?_
    refine s_nil ?_
    refine S_ ?_
    rw [hP.out]
    exact k_1 (by first | exact r_tmpC rfl | exact r_tmpA rfl) (by first | kernel_rfl | rfl)

@[simp] theorem rfLen8_len (n : Nat) : (rfLen8 n).length = 8 := by
  unfold rfLen8
  first | (simp [rfLen8_L3_len, *]; done) | (simp [rfLen8_L3_len, *]; omega)

attribute [irreducible] rfLen8
end Go.Proofs.Ytcjponmaeamjdaa
/- trystref01.tag (Drawn up by a program.) -/
namespace Go.Proofs.Ytcjponmaeamjdaa
open Go.RowKit
def rfTagA (key : List (BitVec 8)) (nonce : List (BitVec 8)) (ad : List (BitVec 8)) (text : List (BitVec 8)) : List (BitVec 8) := polyTag (cut (chBlock key 0#32 nonce) 0 32) (((((ad ++ (zer8 ((16 - (ad.length % 16)) % 16))) ++ text) ++ (zer8 ((16 - (text.length % 16)) % 16))) ++ (rfLen8 ad.length)) ++ (rfLen8 text.length))
set_option maxRecDepth 100000 in
set_option maxHeartbeats 2000000 in
theorem rfTagA_ev (key : List (BitVec 8)) (nonce : List (BitVec 8)) (ad : List (BitVec 8)) (an : Nat) (acap : Nat) (text : List (BitVec 8)) (tn : Nat) (tcap : Nat) (hkey : key.length = 32) (hnonce : nonce.length = 12) (had : ad.length = an) (han : an ≤ 1099511627) (htext : text.length = tn) (htn : tn ≤ 1099511627) : Ev Try.prog (.call 21 [.agg (.a8 (key)), .agg (.a8 (nonce)), .c (.sl 0 0 an acap 1), .c (.sl 1 0 tn tcap 1)] [.row false (.a8 (ad)), .row false (.a8 (text))]) (.val (.agg (.a8 (rfTagA key nonce ad text))) [.row false (.a8 (ad)), .row false (.a8 (text))]) := by
  have hP : Hid (rfTagA key nonce ad text = polyTag (cut (chBlock key 0#32 nonce) 0 32) (((((ad ++ (zer8 ((16 - (ad.length % 16)) % 16))) ++ text) ++ (zer8 ((16 - (text.length % 16)) % 16))) ++ (rfLen8 ad.length)) ++ (rfLen8 text.length))) := ⟨rfl⟩
  subst had
  subst htext
  refine c_call Try.func21 rfl Try.ntmps21 rfl LEN_ ?_
  refine S_ ?_
  refine c_region ?_
  refine s_memN (m_box BX_ LEN_) APP_ rfl ?_
  refine s_memN (m_box BX_ LEN_) APP_ rfl ?_
  refine s_memN (m_alloc al_42 LEN_) APP_ rfl ?_
  refine s_nil ?_
  have hQ1 : (chBlock key 0#32 nonce).length = 64 := LQ_
  refine S_ ?_
  refine c_region ?_
  refine s_val (v_loadR rfl rfl row_22 sz_22 EQ_ (by decide)) rfl ?_
  refine s_val (v_loadR rfl rfl row_23 sz_23 EQ_ (by decide)) rfl ?_
  refine s_evN (e_callR (bs := []) (rfBlockA_ev key 0#32 nonce HYP_ HYP_) ok_29 (by kernel_rfl) (by kernel_rfl) rfl VAL_) APP_ rfl ?_
  refine s_memN (m_alloc al_39 LEN_) APP_ rfl ?_
  refine s_storeR rfl rfl rfl rfl sz_39 EQ_ EQ_ SET_ ?_
  refine s_nil ?_
  refine S_ ?_
  refine c_region ?_
  refine s_memN (m_alloc al_22 LEN_) APP_ rfl ?_
  refine s_nil ?_
  have hQ2 : (cut (chBlock key 0#32 nonce) 0 32).length = 32 := LQ_
  refine S_ ?_
  refine c_draw 2 mixed (by kernel_rfl) rfl rfl rfl ?_
  refine h_val (v_slA1 (l := 0) (h := 32) (len := 32) (cp := 32) rfl Try.underlying22 sz_5 rfl rfl rfl (by omega) (by omega) FIT_ rfl rfl) rfl ?_
  refine h_val (v_slA1 (l := 0) (h := 32) (len := 32) (cp := 64) rfl Try.underlying39 sz_5 rfl rfl rfl (by omega) (by omega) FIT_ rfl rfl) rfl ?_
  refine h_nil ?_
  refine s_copy8w rfl rfl rfl rfl Try.underlying24 sz_5 EQL_ LE_ MN_ rfl SET_ rfl ?_
  refine s_nil ?_
  have hQ3 : (zer8 ((16 - (ad.length % 16)) % 16)).length = (16 - (ad.length % 16)) % 16 := LQ_
  have hQ4 : (zer8 ((16 - (text.length % 16)) % 16)).length = (16 - (text.length % 16)) % 16 := LQ_
  have hQ5 : (rfLen8 ad.length).length = 8 := LQ_
  have hQ6 : (rfLen8 text.length).length = 8 := LQ_
  have hQ7 : (((((ad ++ (zer8 ((16 - (ad.length % 16)) % 16))) ++ text) ++ (zer8 ((16 - (text.length % 16)) % 16))) ++ (rfLen8 ad.length)) ++ (rfLen8 text.length)).length = ((((ad.length + ((16 - (ad.length % 16)) % 16)) + text.length) + ((16 - (text.length % 16)) % 16)) + 8) + 8 := LQ_
  have hQ8 : (polyTag (cut (chBlock key 0#32 nonce) 0 32) (((((ad ++ (zer8 ((16 - (ad.length % 16)) % 16))) ++ text) ++ (zer8 ((16 - (text.length % 16)) % 16))) ++ (rfLen8 ad.length)) ++ (rfLen8 text.length))).length = 16 := LQ_
  refine S_ ?_
  refine c_draw 18 mixed (by kernel_rfl) rfl rfl rfl ?_
  refine h_val (v_loadR rfl rfl row_22 sz_22 EQ_ (by decide)) rfl ?_
  refine h_val (v_moveC rfl) rfl ?_
  refine h_val (v_moveC rfl) rfl ?_
  refine h_val (v_lenS rfl Try.underlying24) rfl ?_
  refine h_evN (e_callR (bs := []) (rfZeros_ev ad.length HYP_) ok_31 (by kernel_rfl) (by kernel_rfl) rfl VAL_) APP_ rfl ?_
  refine h_val (v_moveC rfl) rfl ?_
  refine h_val (v_moveC rfl) rfl ?_
  refine h_val (v_lenS rfl Try.underlying24) rfl ?_
  refine h_evN (e_callR (bs := []) (rfZeros_ev text.length HYP_) ok_31 (by kernel_rfl) (by kernel_rfl) rfl VAL_) APP_ rfl ?_
  refine h_val (v_moveC rfl) rfl ?_
  refine h_val (v_lenS rfl Try.underlying24) rfl ?_
  refine h_evN (e_callR (bs := []) (rfLen8_ev ad.length HYP_) ok_32 (by kernel_rfl) (by kernel_rfl) rfl VAL_) APP_ rfl ?_
  refine h_val (v_moveC rfl) rfl ?_
  refine h_val (v_lenS rfl Try.underlying24) rfl ?_
  refine h_evN (e_callR (bs := []) (rfLen8_ev text.length HYP_) ok_32 (by kernel_rfl) (by kernel_rfl) rfl VAL_) APP_ rfl ?_
  refine h_memN (m_bsc Try.underlying62 el_24 (rep_24 _) rfl CS_ (by decide) (by decide) LEN_) APP_ rfl ?_
  refine h_evN (e_callR (bs := [11,0,7,1,8,9,10]) (rfJoin6_ev ad ad.length acap (zer8 ((16 - (ad.length % 16)) % 16)) ((16 - (ad.length % 16)) % 16) ((16 - (ad.length % 16)) % 16) text text.length tcap (zer8 ((16 - (text.length % 16)) % 16)) ((16 - (text.length % 16)) % 16) ((16 - (text.length % 16)) % 16) (rfLen8 ad.length) 8 8 (rfLen8 text.length) 8 8 HYP_ HYP_ HYP_ HYP_ HYP_ HYP_ HYP_ HYP_ HYP_ HYP_ HYP_ HYP_) ok_22 (by kernel_rfl) (by kernel_rfl) rfl VAL_) APP_ rfl ?_
  refine h_evN (e_callR (bs := [12]) (refTag_evA (cut (chBlock key 0#32 nonce) 0 32) (((((ad ++ (zer8 ((16 - (ad.length % 16)) % 16))) ++ text) ++ (zer8 ((16 - (text.length % 16)) % 16))) ++ (rfLen8 ad.length)) ++ (rfLen8 text.length)) (((((ad.length + ((16 - (ad.length % 16)) % 16)) + text.length) + ((16 - (text.length % 16)) % 16)) + 8) + 8) (((((ad.length + ((16 - (ad.length % 16)) % 16)) + text.length) + ((16 - (text.length % 16)) % 16)) + 8) + 8) HYP_ HYP_ HYP_) ok_30 (by kernel_rfl) (by kernel_rfl) rfl VAL_) APP_ rfl ?_
  refine h_nil ?_
  refine s_storeR rfl rfl rfl rfl sz_42 EQ_ EQ_ SET_ ?_
  refine s_nil ?_
  refine S_ ?_
  rw [hP.out]
  exact k_1 (r_row rfl rfl row_42 sz_42 EQ_ (by decide)) (by first | kernel_rfl | rfl)
set_option maxRecDepth 100000 in
theorem rfTagA_evP (key : List (BitVec 8)) (nonce : List (BitVec 8)) (ad : List (BitVec 8)) (an : Nat) (acap : Nat) (text : List (BitVec 8)) (o_text : Nat) (tn : Nat) (tcap : Nat) (hkey : key.length = 32) (hnonce : nonce.length = 12) (had : ad.length = an) (han : an ≤ 1099511627) (htext : o_text + tn ≤ text.length) (htn : tn ≤ 1099511627) : Ev Try.prog (.call 21 [.agg (.a8 (key)), .agg (.a8 (nonce)), .c (.sl 0 0 an acap 1), .c (.sl 1 o_text tn tcap 1)] [.row false (.a8 (ad)), .row false (.a8 (text))]) (.val (.agg (.a8 (rfTagA key nonce ad (cut text o_text tn)))) [.row false (.a8 (ad)), .row false (.a8 (text))]) := by
  exact Ev.parts (m := [.row false (.a8 (ad)), .row false (.a8 (text))]) (m' := [.row false (.a8 (ad)), .row false (.a8 (cut text o_text tn))]) (N := []) (N' := []) [some (0, 0), some (1, o_text)] (.all rfl rfl (.a8 rfl htext .nil)) (.agg rfl (.agg rfl (.c (.sl rfl rfl) (.c (.sl rfl (by simp)) .nil)))) (rfTagA_ev key nonce ad an acap (cut text o_text tn) tn tcap hkey hnonce had han (by rw [cut_length]; omega) htn) rfl rfl

@[simp] theorem rfTagA_len (key : List (BitVec 8)) (nonce : List (BitVec 8)) (ad : List (BitVec 8)) (text : List (BitVec 8)) (hkey : key.length = 32) (hnonce : nonce.length = 12) : (rfTagA key nonce ad text).length = 16 := by
  unfold rfTagA
  first | (simp [*]; done) | (simp [*]; omega)

attribute [irreducible] rfTagA
end Go.Proofs.Ytcjponmaeamjdaa
/- trystref01.Seal (Drawn up by a program.) -/
namespace Go.Proofs.Ytcjponmaeamjdaa
open Go.RowKit
def rfSeal (key : List (BitVec 8)) (nonce : List (BitVec 8)) (ad : List (BitVec 8)) (text : List (BitVec 8)) : List (BitVec 8) := (chXor key 1#32 nonce text) ++ (rfTagA key nonce ad (chXor key 1#32 nonce text))
set_option maxRecDepth 100000 in
set_option maxHeartbeats 2000000 in
theorem rfSeal_ev (key : List (BitVec 8)) (nonce : List (BitVec 8)) (ad : List (BitVec 8)) (an : Nat) (acap : Nat) (text : List (BitVec 8)) (tn : Nat) (tcap : Nat) (hkey : key.length = 32) (hnonce : nonce.length = 12) (had : ad.length = an) (han : an ≤ 1099511627) (htext : text.length = tn) (htn : tn ≤ 1099511627) : Ev Try.prog (.call 11 [.agg (.a8 (key)), .agg (.a8 (nonce)), .c (.sl 0 0 an acap 1), .c (.sl 1 0 tn tcap 1)] [.row false (.a8 (ad)), .row false (.a8 (text))]) (.val (.c (.sl 2 0 (tn + 16) (tn + 16) 1)) [.row false (.a8 (ad)), .row false (.a8 (text)), .row true (.a8 (rfSeal key nonce ad text))]) := by
  have hP : Hid (rfSeal key nonce ad text = (chXor key 1#32 nonce text) ++ (rfTagA key nonce ad (chXor key 1#32 nonce text))) := ⟨rfl⟩
  subst had
  subst htext
  refine c_call Try.func11 rfl Try.ntmps11 rfl LEN_ ?_
  refine S_ ?_
  refine c_region ?_
  refine s_memN (m_box BX_ LEN_) APP_ rfl ?_
  refine s_memN (m_box BX_ LEN_) APP_ rfl ?_
  refine s_val (v_assignC rfl) rfl ?_
  refine s_nil ?_
  have hQ1 : (chXor key 1#32 nonce text).length = text.length := LQ_
  refine S_ ?_
  refine c_region ?_
  refine s_val (v_loadR rfl rfl row_22 sz_22 EQ_ (by decide)) rfl ?_
  refine s_val (v_loadR rfl rfl row_23 sz_23 EQ_ (by decide)) rfl ?_
  refine s_val (v_moveC rfl) rfl ?_
  refine s_evN (e_callR (bs := [1]) (rfXorA_ev key 1#32 nonce text text.length tcap HYP_ HYP_ HYP_ HYP_) ok_20 (by kernel_rfl) (by kernel_rfl) rfl VAL_) APP_ rfl ?_
  refine s_val (v_assignC rfl) rfl ?_
  refine s_nil ?_
  have hQ2 : (rfTagA key nonce ad (chXor key 1#32 nonce text)).length = 16 := LQ_
  refine S_ ?_
  refine c_region ?_
  refine s_val (v_loadR rfl rfl row_22 sz_22 EQ_ (by decide)) rfl ?_
  refine s_val (v_loadR rfl rfl row_23 sz_23 EQ_ (by decide)) rfl ?_
  refine s_val (v_moveC rfl) rfl ?_
  refine s_val (v_moveC rfl) rfl ?_
  refine s_evN (e_callR (bs := [0,4]) (rfTagA_ev key nonce ad ad.length acap (chXor key 1#32 nonce text) text.length text.length HYP_ HYP_ HYP_ HYP_ HYP_ HYP_) ok_21 (by kernel_rfl) (by kernel_rfl) rfl VAL_) APP_ rfl ?_
  refine s_memN (m_alloc al_42 LEN_) APP_ rfl ?_
  refine s_storeR rfl rfl rfl rfl sz_42 EQ_ EQ_ SET_ ?_
  refine s_nil ?_
  have hQ3 : ((chXor key 1#32 nonce text) ++ (rfTagA key nonce ad (chXor key 1#32 nonce text))).length = text.length + 16 := LQ_
  refine S_ ?_
  refine c_region ?_
  refine s_val (v_moveC rfl) rfl ?_
  refine s_val (v_slA1 (l := 0) (h := 16) (len := 16) (cp := 16) rfl Try.underlying42 sz_5 rfl rfl rfl (by omega) (by omega) FIT_ rfl rfl) rfl ?_
  refine s_memN (m_bsc Try.underlying62 el_24 (rep_24 _) rfl CS_ (by decide) (by decide) LEN_) APP_ rfl ?_
  refine s_evN (e_callR (bs := [6,4,5]) (rfJoin2_ev (chXor key 1#32 nonce text) text.length text.length (rfTagA key nonce ad (chXor key 1#32 nonce text)) 16 16 HYP_ HYP_ HYP_ HYP_) ok_22 (by kernel_rfl) (by kernel_rfl) rfl VAL_) APP_ rfl ?_
  refine s_val (v_assignC rfl) rfl ?_
  refine s_nil ?_
  refine S_ ?_
  rw [hP.out]
  exact k_1 (by first | exact r_tmpC rfl | exact r_tmpA rfl) (by first | kernel_rfl | rfl)

@[simp] theorem rfSeal_len (key : List (BitVec 8)) (nonce : List (BitVec 8)) (ad : List (BitVec 8)) (text : List (BitVec 8)) (hkey : key.length = 32) (hnonce : nonce.length = 12) : (rfSeal key nonce ad text).length = text.length + 16 := by
  unfold rfSeal
  first | (simp [*]; done) | (simp [*]; omega)

attribute [irreducible] rfSeal
end Go.Proofs.Ytcjponmaeamjdaa
/- trystref01.Open, trystref01.Open (Drawn up by a program.) -/
namespace Go.Proofs.Ytcjponmaeamjdaa
open Go.RowKit
def rfOpen0 (key : List (BitVec 8)) (nonce : List (BitVec 8)) (box : List (BitVec 8)) : List (BitVec 8) := chXor key 1#32 nonce (cut box 0 (box.length - 16))
set_option maxRecDepth 100000 in
set_option maxHeartbeats 2000000 in
theorem rfOpen_ev (key : List (BitVec 8)) (nonce : List (BitVec 8)) (ad : List (BitVec 8)) (an : Nat) (acap : Nat) (box : List (BitVec 8)) (bn : Nat) (bcap : Nat) (hkey : key.length = 32) (hnonce : nonce.length = 12) (had : ad.length = an) (han : an ≤ 1099511627) (hbox : box.length = bn) (hbn : bn ≤ 1099511627) (h16 : 16 ≤ bn) (hE : ∀ i, i < 16 → nth (rfTagA key nonce ad (cut box 0 (bn - 16))) i = nth box (bn - 16 + i)) : Ev Try.prog (.call 14 [.agg (.a8 (key)), .agg (.a8 (nonce)), .c (.sl 0 0 an acap 1), .c (.sl 1 0 bn bcap 1)] [.row false (.a8 (ad)), .row false (.a8 (box))]) (.val (.tup [.c (.sl 2 0 (bn - 16) (bn - 16) 1), .c (.val (.bool (true)))]) [.row false (.a8 (ad)), .row false (.a8 (box)), .row true (.a8 (rfOpen0 key nonce box))]) := by
  have hP_rfOpen0 : Hid (rfOpen0 key nonce box = chXor key 1#32 nonce (cut box 0 (box.length - 16))) := ⟨rfl⟩
  subst had
  subst hbox
  refine c_call Try.func14 rfl Try.ntmps14 rfl LEN_ ?_
  refine S_ ?_
  refine c_region ?_
  refine s_memN (m_box BX_ LEN_) APP_ rfl ?_
  refine s_memN (m_box BX_ LEN_) APP_ rfl ?_
  refine s_val (v_assignC rfl) rfl ?_
  refine s_val (v_assignC rfl) rfl ?_
  refine s_nil ?_
  refine S_ ?_
  refine c_region ?_
  refine s_val (v_moveC rfl) rfl ?_
  refine s_val (v_lenS rfl Try.underlying24) rfl ?_
  first
    | refine s_val (v_subN (b := 16) rfl rfl (by omega) (by omega)) rfl ?_
    | refine s_val (v_subI rfl rfl (by omega)) rfl ?_
  refine s_val (v_assignC rfl) rfl ?_
  refine s_nil ?_
  have hQ1 : (rfTagA key nonce ad (cut box 0 (box.length - 16))).length = 16 := LQ_
  refine S_ ?_
  refine c_draw 8 mixed (by kernel_rfl) rfl rfl rfl ?_
  refine h_val (v_loadR rfl rfl row_22 sz_22 EQ_ (by decide)) rfl ?_
  refine h_val (v_loadR rfl rfl row_23 sz_23 EQ_ (by decide)) rfl ?_
  refine h_val (v_moveC rfl) rfl ?_
  refine h_val (v_moveC rfl) rfl ?_
  refine h_val (v_moveC rfl) rfl ?_
  refine h_val (v_slS0 rfl Try.underlying24 sz_5 rfl (by omega)) rfl ?_
  refine h_evN (e_callR (bs := [0,1]) (rfTagA_evP key nonce ad ad.length acap box 0 (box.length - 16) bcap HYP_ HYP_ HYP_ HYP_ HYP_ HYP_) ok_21 (by kernel_rfl) (by kernel_rfl) rfl VAL_) APP_ rfl ?_
  refine h_memN (m_alloc al_42 LEN_) APP_ rfl ?_
  refine h_nil ?_
  refine s_storeR rfl rfl rfl rfl sz_42 EQ_ EQ_ SET_ ?_
  refine s_nil ?_
  refine S_ ?_
  refine c_region ?_
  refine s_val (v_assignC rfl) rfl ?_
  refine s_nil ?_
  refine S_ ?_
  refine c_loopC [3, 4, 5, 10, 11, 12] (fun (zz : Nat) => ⟨43, keepT [3, 4, 5, 10, 11, 12] [.c (.sl 1 0 box.length bcap 1), .c (.ptr 2 0), .c (.ptr 3 0), .c (.val (.int .i64 (((box.length - 16 : Nat) : Int)))), .c (.ptr 4 0), .c (.val (.int .i64 (((zz : Nat) : Int))))], [.row false (.a8 (ad)), .row false (.a8 (box)), .row true (.a8 (key)), .row true (.a8 (nonce)), .row true (.a8 (rfTagA key nonce ad (cut box 0 (box.length - 16))))]⟩) (fun j4 => j4) (16) (by kernel_rfl) ?_ ?_
  · intro j4 hj4
    try dsimp only
    refine S_ ?_
    refine c_region ?_
    refine s_val (v_moveC rfl) rfl ?_
    refine s_val (v_lssN (b := 16) rfl rfl) rfl ?_
    refine s_nil ?_
    refine S_ ?_
    refine c_draw 10 mixed (by kernel_rfl) rfl rfl rfl ?_
    refine h_val (v_moveC rfl) rfl ?_
    refine h_val (v_idxA1 rfl rfl Try.underlying42 sz_5 (by omega)) rfl ?_
    refine h_val (v_load8 rfl rfl row_5 LT_) rfl ?_
    refine h_val (v_moveC rfl) rfl ?_
    refine h_val (v_moveC rfl) rfl ?_
    refine h_val (v_moveC rfl) rfl ?_
    refine h_val (v_addN rfl rfl (by omega)) rfl ?_
    refine h_val (v_idxS1 rfl rfl Try.underlying24 sz_5 (by omega)) rfl ?_
    refine h_val (v_load8 rfl rfl row_5 LT_) rfl ?_
    refine h_val (v_neq8 rfl rfl) rfl ?_
    refine h_nil ?_
    refine s_nil ?_
    refine Q_ ?_
    refine c_condF rfl (by simp [hE j4 (by assumption)]) ?_
    refine S_ ?_
    refine c_region ?_
    refine s_val (v_moveC rfl) rfl ?_
    refine s_val (v_addN (b := 1) rfl rfl (by omega)) rfl ?_
    refine s_val (v_assignC rfl) rfl ?_
    refine s_nil ?_
    exact ⟨j4 + 1, by kernel_rfl, rfl⟩
  · try dsimp only
    refine S_ ?_
    refine c_region ?_
    refine s_val (v_moveC rfl) rfl ?_
    refine s_val (v_lssN (a := 16) (b := 16) rfl rfl) rfl ?_
    refine s_nil ?_
    have hQ2 : (chXor key 1#32 nonce (cut box 0 (box.length - 16))).length = box.length - 16 := LQ_
    refine S_ ?_
    refine c_draw 8 mixed (by kernel_rfl) rfl rfl rfl ?_
    refine h_val (v_loadR rfl rfl row_22 sz_22 EQ_ (by decide)) rfl ?_
    refine h_val (v_loadR rfl rfl row_23 sz_23 EQ_ (by decide)) rfl ?_
    refine h_val (v_moveC rfl) rfl ?_
    refine h_val (v_moveC rfl) rfl ?_
    refine h_val (v_slS0 rfl Try.underlying24 sz_5 rfl (by omega)) rfl ?_
    refine h_evN (e_callR (bs := [1]) (rfXorA_evP key 1#32 nonce box 0 (box.length - 16) bcap HYP_ HYP_ HYP_ HYP_) ok_20 (by kernel_rfl) (by kernel_rfl) rfl VAL_) APP_ rfl ?_
    refine h_val (v_assignC rfl) rfl ?_
    refine h_val (v_assignC rfl) rfl ?_
    refine h_nil ?_
    refine s_nil ?_
    refine S_ ?_
    rw [hP_rfOpen0.out]
    exact k_2 (by first | exact r_tmpC rfl | exact r_tmpA rfl) (by first | exact r_tmpC rfl | exact r_tmpA rfl) (by first | kernel_rfl | rfl)

@[simp] theorem rfOpen0_len (key : List (BitVec 8)) (nonce : List (BitVec 8)) (box : List (BitVec 8)) (hkey : key.length = 32) (hnonce : nonce.length = 12) : (rfOpen0 key nonce box).length = box.length - 16 := by
  unfold rfOpen0
  first | (simp [*]; done) | (simp [*]; omega)

attribute [irreducible] rfOpen0


set_option maxRecDepth 100000 in
set_option maxHeartbeats 2000000 in
theorem rfOpenE_ev (key : List (BitVec 8)) (nonce : List (BitVec 8)) (ad : List (BitVec 8)) (an : Nat) (acap : Nat) (box : List (BitVec 8)) (bn : Nat) (bcap : Nat) (hkey : key.length = 32) (hnonce : nonce.length = 12) (had : ad.length = an) (han : an ≤ 1099511627) (hbox : box.length = bn) (hbn : bn ≤ 1099511627) (h16 : 16 ≤ bn) (hE : ¬ (∀ i, i < 16 → nth (rfTagA key nonce ad (cut box 0 (bn - 16))) i = nth box (bn - 16 + i))) : Ev Try.prog (.call 14 [.agg (.a8 (key)), .agg (.a8 (nonce)), .c (.sl 0 0 an acap 1), .c (.sl 1 0 bn bcap 1)] [.row false (.a8 (ad)), .row false (.a8 (box))]) (.val (.tup [.c .nsl, .c (.val (.bool (false)))]) [.row false (.a8 (ad)), .row false (.a8 (box))]) := by
  subst had
  subst hbox
  refine c_call Try.func14 rfl Try.ntmps14 rfl LEN_ ?_
  refine S_ ?_
  refine c_region ?_
  refine s_memN (m_box BX_ LEN_) APP_ rfl ?_
  refine s_memN (m_box BX_ LEN_) APP_ rfl ?_
  refine s_val (v_assignC rfl) rfl ?_
  refine s_val (v_assignC rfl) rfl ?_
  refine s_nil ?_
  refine S_ ?_
  refine c_region ?_
  refine s_val (v_moveC rfl) rfl ?_
  refine s_val (v_lenS rfl Try.underlying24) rfl ?_
  first
    | refine s_val (v_subN (b := 16) rfl rfl (by omega) (by omega)) rfl ?_
    | refine s_val (v_subI rfl rfl (by omega)) rfl ?_
  refine s_val (v_assignC rfl) rfl ?_
  refine s_nil ?_
  have hQ1 : (rfTagA key nonce ad (cut box 0 (box.length - 16))).length = 16 := LQ_
  refine S_ ?_
  refine c_draw 8 mixed (by kernel_rfl) rfl rfl rfl ?_
  refine h_val (v_loadR rfl rfl row_22 sz_22 EQ_ (by decide)) rfl ?_
  refine h_val (v_loadR rfl rfl row_23 sz_23 EQ_ (by decide)) rfl ?_
  refine h_val (v_moveC rfl) rfl ?_
  refine h_val (v_moveC rfl) rfl ?_
  refine h_val (v_moveC rfl) rfl ?_
  refine h_val (v_slS0 rfl Try.underlying24 sz_5 rfl (by omega)) rfl ?_
  refine h_evN (e_callR (bs := [0,1]) (rfTagA_evP key nonce ad ad.length acap box 0 (box.length - 16) bcap HYP_ HYP_ HYP_ HYP_ HYP_ HYP_) ok_21 (by kernel_rfl) (by kernel_rfl) rfl VAL_) APP_ rfl ?_
  refine h_memN (m_alloc al_42 LEN_) APP_ rfl ?_
  refine h_nil ?_
  refine s_storeR rfl rfl rfl rfl sz_42 EQ_ EQ_ SET_ ?_
  refine s_nil ?_
  refine S_ ?_
  refine c_region ?_
  refine s_val (v_assignC rfl) rfl ?_
  refine s_nil ?_
  refine Q_ ?_
  refine c_peel ?_
  refine S_ ?_
  refine c_region ?_
  refine s_val (v_moveC rfl) rfl ?_
  refine s_val (v_lssN (a := 0) (b := 16) rfl rfl) rfl ?_
  refine s_nil ?_
  refine S_ ?_
  refine c_draw 10 mixed (by kernel_rfl) rfl rfl rfl ?_
  refine h_val (v_moveC rfl) rfl ?_
  refine h_val (v_idxA1 (j := 0) rfl rfl Try.underlying42 sz_5 (by omega)) rfl ?_
  refine h_val (v_load8 rfl rfl row_5 LT_) rfl ?_
  refine h_val (v_moveC rfl) rfl ?_
  refine h_val (v_moveC rfl) rfl ?_
  refine h_val (v_moveC rfl) rfl ?_
  refine h_val (v_addN (b := 0) rfl rfl (by omega)) rfl ?_
  refine h_val (v_idxS1 rfl rfl Try.underlying24 sz_5 (by omega)) rfl ?_
  refine h_val (v_load8 rfl rfl row_5 LT_) rfl ?_
  refine h_val (v_neq8 rfl rfl) rfl ?_
  refine h_nil ?_
  refine s_nil ?_
  refine Q_ ?_
  by_cases hc2 : ((nth (rfTagA key nonce ad (cut box 0 (box.length - 16))) 0) != (nth box (box.length - 16))) = true
  all_goals (have hc2_ := hc2; try simp at hc2_)
  · try simp only [if_pos hc2] at *
    refine c_condT rfl (hc2) ?_
    refine S_ ?_
    refine c_region ?_
    refine s_val (v_assignC rfl) rfl ?_
    refine s_val (v_assignC rfl) rfl ?_
    refine s_nil ?_
    refine S_ ?_
    exact k_2 (by first | exact r_tmpC rfl | exact r_tmpA rfl) (by first | exact r_tmpC rfl | exact r_tmpA rfl) (by first | kernel_rfl | rfl)
  · try simp only [if_neg hc2] at *
    refine c_condF rfl (by simpa using hc2) ?_
    refine S_ ?_
    refine c_region ?_
    refine s_val (v_moveC rfl) rfl ?_
    refine s_val (v_addN (a := 0) (b := 1) rfl rfl (by omega)) rfl ?_
    refine s_val (v_assignC rfl) rfl ?_
    refine s_nil ?_
    show WC _ _ _ _ _
    refine Q_ ?_
    refine c_peel ?_
    refine S_ ?_
    refine c_region ?_
    refine s_val (v_moveC rfl) rfl ?_
    refine s_val (v_lssN (a := 1) (b := 16) rfl rfl) rfl ?_
    refine s_nil ?_
    refine S_ ?_
    refine c_draw 10 mixed (by kernel_rfl) rfl rfl rfl ?_
    refine h_val (v_moveC rfl) rfl ?_
    refine h_val (v_idxA1 (j := 1) rfl rfl Try.underlying42 sz_5 (by omega)) rfl ?_
    refine h_val (v_load8 rfl rfl row_5 LT_) rfl ?_
    refine h_val (v_moveC rfl) rfl ?_
    refine h_val (v_moveC rfl) rfl ?_
    refine h_val (v_moveC rfl) rfl ?_
    refine h_val (v_addN (b := 1) rfl rfl (by omega)) rfl ?_
    refine h_val (v_idxS1 rfl rfl Try.underlying24 sz_5 (by omega)) rfl ?_
    refine h_val (v_load8 rfl rfl row_5 LT_) rfl ?_
    refine h_val (v_neq8 rfl rfl) rfl ?_
    refine h_nil ?_
    refine s_nil ?_
    refine Q_ ?_
    by_cases hc3 : ((nth (rfTagA key nonce ad (cut box 0 (box.length - 16))) 1) != (nth box ((box.length - 16) + 1))) = true
    all_goals (have hc3_ := hc3; try simp at hc3_)
    · try simp only [if_pos hc3] at *
      refine c_condT rfl (hc3) ?_
      refine S_ ?_
      refine c_region ?_
      refine s_val (v_assignC rfl) rfl ?_
      refine s_val (v_assignC rfl) rfl ?_
      refine s_nil ?_
      refine S_ ?_
      exact k_2 (by first | exact r_tmpC rfl | exact r_tmpA rfl) (by first | exact r_tmpC rfl | exact r_tmpA rfl) (by first | kernel_rfl | rfl)
    · try simp only [if_neg hc3] at *
      refine c_condF rfl (by simpa using hc3) ?_
      refine S_ ?_
      refine c_region ?_
      refine s_val (v_moveC rfl) rfl ?_
      refine s_val (v_addN (a := 1) (b := 1) rfl rfl (by omega)) rfl ?_
      refine s_val (v_assignC rfl) rfl ?_
      refine s_nil ?_
      show WC _ _ _ _ _
      refine Q_ ?_
      refine c_peel ?_
      refine S_ ?_
      refine c_region ?_
      refine s_val (v_moveC rfl) rfl ?_
      refine s_val (v_lssN (a := 2) (b := 16) rfl rfl) rfl ?_
      refine s_nil ?_
      refine S_ ?_
      refine c_draw 10 mixed (by kernel_rfl) rfl rfl rfl ?_
      refine h_val (v_moveC rfl) rfl ?_
      refine h_val (v_idxA1 (j := 2) rfl rfl Try.underlying42 sz_5 (by omega)) rfl ?_
      refine h_val (v_load8 rfl rfl row_5 LT_) rfl ?_
      refine h_val (v_moveC rfl) rfl ?_
      refine h_val (v_moveC rfl) rfl ?_
      refine h_val (v_moveC rfl) rfl ?_
      refine h_val (v_addN (b := 2) rfl rfl (by omega)) rfl ?_
      refine h_val (v_idxS1 rfl rfl Try.underlying24 sz_5 (by omega)) rfl ?_
      refine h_val (v_load8 rfl rfl row_5 LT_) rfl ?_
      refine h_val (v_neq8 rfl rfl) rfl ?_
      refine h_nil ?_
      refine s_nil ?_
      refine Q_ ?_
      by_cases hc4 : ((nth (rfTagA key nonce ad (cut box 0 (box.length - 16))) 2) != (nth box ((box.length - 16) + 2))) = true
      all_goals (have hc4_ := hc4; try simp at hc4_)
      · try simp only [if_pos hc4] at *
        refine c_condT rfl (hc4) ?_
        refine S_ ?_
        refine c_region ?_
        refine s_val (v_assignC rfl) rfl ?_
        refine s_val (v_assignC rfl) rfl ?_
        refine s_nil ?_
        refine S_ ?_
        exact k_2 (by first | exact r_tmpC rfl | exact r_tmpA rfl) (by first | exact r_tmpC rfl | exact r_tmpA rfl) (by first | kernel_rfl | rfl)
      · try simp only [if_neg hc4] at *
        refine c_condF rfl (by simpa using hc4) ?_
        refine S_ ?_
        refine c_region ?_
        refine s_val (v_moveC rfl) rfl ?_
        refine s_val (v_addN (a := 2) (b := 1) rfl rfl (by omega)) rfl ?_
        refine s_val (v_assignC rfl) rfl ?_
        refine s_nil ?_
        show WC _ _ _ _ _
        refine Q_ ?_
        refine c_peel ?_
        refine S_ ?_
        refine c_region ?_
        refine s_val (v_moveC rfl) rfl ?_
        refine s_val (v_lssN (a := 3) (b := 16) rfl rfl) rfl ?_
        refine s_nil ?_
        refine S_ ?_
        refine c_draw 10 mixed (by kernel_rfl) rfl rfl rfl ?_
        refine h_val (v_moveC rfl) rfl ?_
        refine h_val (v_idxA1 (j := 3) rfl rfl Try.underlying42 sz_5 (by omega)) rfl ?_
        refine h_val (v_load8 rfl rfl row_5 LT_) rfl ?_
        refine h_val (v_moveC rfl) rfl ?_
        refine h_val (v_moveC rfl) rfl ?_
        refine h_val (v_moveC rfl) rfl ?_
        refine h_val (v_addN (b := 3) rfl rfl (by omega)) rfl ?_
        refine h_val (v_idxS1 rfl rfl Try.underlying24 sz_5 (by omega)) rfl ?_
        refine h_val (v_load8 rfl rfl row_5 LT_) rfl ?_
        refine h_val (v_neq8 rfl rfl) rfl ?_
        refine h_nil ?_
        refine s_nil ?_
        refine Q_ ?_
        by_cases hc5 : ((nth (rfTagA key nonce ad (cut box 0 (box.length - 16))) 3) != (nth box ((box.length - 16) + 3))) = true
        all_goals (have hc5_ := hc5; try simp at hc5_)
        · try simp only [if_pos hc5] at *
          refine c_condT rfl (hc5) ?_
          refine S_ ?_
          refine c_region ?_
          refine s_val (v_assignC rfl) rfl ?_
          refine s_val (v_assignC rfl) rfl ?_
          refine s_nil ?_
          refine S_ ?_
          exact k_2 (by first | exact r_tmpC rfl | exact r_tmpA rfl) (by first | exact r_tmpC rfl | exact r_tmpA rfl) (by first | kernel_rfl | rfl)
        · try simp only [if_neg hc5] at *
          refine c_condF rfl (by simpa using hc5) ?_
          refine S_ ?_
          refine c_region ?_
          refine s_val (v_moveC rfl) rfl ?_
          refine s_val (v_addN (a := 3) (b := 1) rfl rfl (by omega)) rfl ?_
          refine s_val (v_assignC rfl) rfl ?_
          refine s_nil ?_
          show WC _ _ _ _ _
          refine Q_ ?_
          refine c_peel ?_
          refine S_ ?_
          refine c_region ?_
          refine s_val (v_moveC rfl) rfl ?_
          refine s_val (v_lssN (a := 4) (b := 16) rfl rfl) rfl ?_
          refine s_nil ?_
          refine S_ ?_
          refine c_draw 10 mixed (by kernel_rfl) rfl rfl rfl ?_
          refine h_val (v_moveC rfl) rfl ?_
          refine h_val (v_idxA1 (j := 4) rfl rfl Try.underlying42 sz_5 (by omega)) rfl ?_
          refine h_val (v_load8 rfl rfl row_5 LT_) rfl ?_
          refine h_val (v_moveC rfl) rfl ?_
          refine h_val (v_moveC rfl) rfl ?_
          refine h_val (v_moveC rfl) rfl ?_
          refine h_val (v_addN (b := 4) rfl rfl (by omega)) rfl ?_
          refine h_val (v_idxS1 rfl rfl Try.underlying24 sz_5 (by omega)) rfl ?_
          refine h_val (v_load8 rfl rfl row_5 LT_) rfl ?_
          refine h_val (v_neq8 rfl rfl) rfl ?_
          refine h_nil ?_
          refine s_nil ?_
          refine Q_ ?_
          by_cases hc6 : ((nth (rfTagA key nonce ad (cut box 0 (box.length - 16))) 4) != (nth box ((box.length - 16) + 4))) = true
          all_goals (have hc6_ := hc6; try simp at hc6_)
          · try simp only [if_pos hc6] at *
            refine c_condT rfl (hc6) ?_
            refine S_ ?_
            refine c_region ?_
            refine s_val (v_assignC rfl) rfl ?_
            refine s_val (v_assignC rfl) rfl ?_
            refine s_nil ?_
            refine S_ ?_
            exact k_2 (by first | exact r_tmpC rfl | exact r_tmpA rfl) (by first | exact r_tmpC rfl | exact r_tmpA rfl) (by first | kernel_rfl | rfl)
          · try simp only [if_neg hc6] at *
            refine c_condF rfl (by simpa using hc6) ?_
            refine S_ ?_
            refine c_region ?_
            refine s_val (v_moveC rfl) rfl ?_
            refine s_val (v_addN (a := 4) (b := 1) rfl rfl (by omega)) rfl ?_
            refine s_val (v_assignC rfl) rfl ?_
            refine s_nil ?_
            show WC _ _ _ _ _
            refine Q_ ?_
            refine c_peel ?_
            refine S_ ?_
            refine c_region ?_
            refine s_val (v_moveC rfl) rfl ?_
            refine s_val (v_lssN (a := 5) (b := 16) rfl rfl) rfl ?_
            refine s_nil ?_
            refine S_ ?_
            refine c_draw 10 mixed (by kernel_rfl) rfl rfl rfl ?_
            refine h_val (v_moveC rfl) rfl ?_
            refine h_val (v_idxA1 (j := 5) rfl rfl Try.underlying42 sz_5 (by omega)) rfl ?_
            refine h_val (v_load8 rfl rfl row_5 LT_) rfl ?_
            refine h_val (v_moveC rfl) rfl ?_
            refine h_val (v_moveC rfl) rfl ?_
            refine h_val (v_moveC rfl) rfl ?_
            refine h_val (v_addN (b := 5) rfl rfl (by omega)) rfl ?_
            refine h_val (v_idxS1 rfl rfl Try.underlying24 sz_5 (by omega)) rfl ?_
            refine h_val (v_load8 rfl rfl row_5 LT_) rfl ?_
            refine h_val (v_neq8 rfl rfl) rfl ?_
            refine h_nil ?_
            refine s_nil ?_
            refine Q_ ?_
            by_cases hc7 : ((nth (rfTagA key nonce ad (cut box 0 (box.length - 16))) 5) != (nth box ((box.length - 16) + 5))) = true
            all_goals (have hc7_ := hc7; try simp at hc7_)
            · try simp only [if_pos hc7] at *
              refine c_condT rfl (hc7) ?_
              refine S_ ?_
              refine c_region ?_
              refine s_val (v_assignC rfl) rfl ?_
              refine s_val (v_assignC rfl) rfl ?_
              refine s_nil ?_
              refine S_ ?_
              exact k_2 (by first | exact r_tmpC rfl | exact r_tmpA rfl) (by first | exact r_tmpC rfl | exact r_tmpA rfl) (by first | kernel_rfl | rfl)
            · try simp only [if_neg hc7] at *
              refine c_condF rfl (by simpa using hc7) ?_
              refine S_ ?_
              refine c_region ?_
              refine s_val (v_moveC rfl) rfl ?_
              refine s_val (v_addN (a := 5) (b := 1) rfl rfl (by omega)) rfl ?_
              refine s_val (v_assignC rfl) rfl ?_
              refine s_nil ?_
              show WC _ _ _ _ _
              refine Q_ ?_
              refine c_peel ?_
              refine S_ ?_
              refine c_region ?_
              refine s_val (v_moveC rfl) rfl ?_
              refine s_val (v_lssN (a := 6) (b := 16) rfl rfl) rfl ?_
              refine s_nil ?_
              refine S_ ?_
              refine c_draw 10 mixed (by kernel_rfl) rfl rfl rfl ?_
              refine h_val (v_moveC rfl) rfl ?_
              refine h_val (v_idxA1 (j := 6) rfl rfl Try.underlying42 sz_5 (by omega)) rfl ?_
              refine h_val (v_load8 rfl rfl row_5 LT_) rfl ?_
              refine h_val (v_moveC rfl) rfl ?_
              refine h_val (v_moveC rfl) rfl ?_
              refine h_val (v_moveC rfl) rfl ?_
              refine h_val (v_addN (b := 6) rfl rfl (by omega)) rfl ?_
              refine h_val (v_idxS1 rfl rfl Try.underlying24 sz_5 (by omega)) rfl ?_
              refine h_val (v_load8 rfl rfl row_5 LT_) rfl ?_
              refine h_val (v_neq8 rfl rfl) rfl ?_
              refine h_nil ?_
              refine s_nil ?_
              refine Q_ ?_
              by_cases hc8 : ((nth (rfTagA key nonce ad (cut box 0 (box.length - 16))) 6) != (nth box ((box.length - 16) + 6))) = true
              all_goals (have hc8_ := hc8; try simp at hc8_)
              · try simp only [if_pos hc8] at *
                refine c_condT rfl (hc8) ?_
                refine S_ ?_
                refine c_region ?_
                refine s_val (v_assignC rfl) rfl ?_
                refine s_val (v_assignC rfl) rfl ?_
                refine s_nil ?_
                refine S_ ?_
                exact k_2 (by first | exact r_tmpC rfl | exact r_tmpA rfl) (by first | exact r_tmpC rfl | exact r_tmpA rfl) (by first | kernel_rfl | rfl)
              · try simp only [if_neg hc8] at *
                refine c_condF rfl (by simpa using hc8) ?_
                refine S_ ?_
                refine c_region ?_
                refine s_val (v_moveC rfl) rfl ?_
                refine s_val (v_addN (a := 6) (b := 1) rfl rfl (by omega)) rfl ?_
                refine s_val (v_assignC rfl) rfl ?_
                refine s_nil ?_
                show WC _ _ _ _ _
                refine Q_ ?_
                refine c_peel ?_
                refine S_ ?_
                refine c_region ?_
                refine s_val (v_moveC rfl) rfl ?_
                refine s_val (v_lssN (a := 7) (b := 16) rfl rfl) rfl ?_
                refine s_nil ?_
                refine S_ ?_
                refine c_draw 10 mixed (by kernel_rfl) rfl rfl rfl ?_
                refine h_val (v_moveC rfl) rfl ?_
                refine h_val (v_idxA1 (j := 7) rfl rfl Try.underlying42 sz_5 (by omega)) rfl ?_
                refine h_val (v_load8 rfl rfl row_5 LT_) rfl ?_
                refine h_val (v_moveC rfl) rfl ?_
                refine h_val (v_moveC rfl) rfl ?_
                refine h_val (v_moveC rfl) rfl ?_
                refine h_val (v_addN (b := 7) rfl rfl (by omega)) rfl ?_
                refine h_val (v_idxS1 rfl rfl Try.underlying24 sz_5 (by omega)) rfl ?_
                refine h_val (v_load8 rfl rfl row_5 LT_) rfl ?_
                refine h_val (v_neq8 rfl rfl) rfl ?_
                refine h_nil ?_
                refine s_nil ?_
                refine Q_ ?_
                by_cases hc9 : ((nth (rfTagA key nonce ad (cut box 0 (box.length - 16))) 7) != (nth box ((box.length - 16) + 7))) = true
                all_goals (have hc9_ := hc9; try simp at hc9_)
                · try simp only [if_pos hc9] at *
                  refine c_condT rfl (hc9) ?_
                  refine S_ ?_
                  refine c_region ?_
                  refine s_val (v_assignC rfl) rfl ?_
                  refine s_val (v_assignC rfl) rfl ?_
                  refine s_nil ?_
                  refine S_ ?_
                  exact k_2 (by first | exact r_tmpC rfl | exact r_tmpA rfl) (by first | exact r_tmpC rfl | exact r_tmpA rfl) (by first | kernel_rfl | rfl)
                · try simp only [if_neg hc9] at *
                  refine c_condF rfl (by simpa using hc9) ?_
                  refine S_ ?_
                  refine c_region ?_
                  refine s_val (v_moveC rfl) rfl ?_
                  refine s_val (v_addN (a := 7) (b := 1) rfl rfl (by omega)) rfl ?_
                  refine s_val (v_assignC rfl) rfl ?_
                  refine s_nil ?_
                  show WC _ _ _ _ _
                  refine Q_ ?_
                  refine c_peel ?_
                  refine S_ ?_
                  refine c_region ?_
                  refine s_val (v_moveC rfl) rfl ?_
                  refine s_val (v_lssN (a := 8) (b := 16) rfl rfl) rfl ?_
                  refine s_nil ?_
                  refine S_ ?_
                  refine c_draw 10 mixed (by kernel_rfl) rfl rfl rfl ?_
                  refine h_val (v_moveC rfl) rfl ?_
                  refine h_val (v_idxA1 (j := 8) rfl rfl Try.underlying42 sz_5 (by omega)) rfl ?_
                  refine h_val (v_load8 rfl rfl row_5 LT_) rfl ?_
                  refine h_val (v_moveC rfl) rfl ?_
                  refine h_val (v_moveC rfl) rfl ?_
                  refine h_val (v_moveC rfl) rfl ?_
                  refine h_val (v_addN (b := 8) rfl rfl (by omega)) rfl ?_
                  refine h_val (v_idxS1 rfl rfl Try.underlying24 sz_5 (by omega)) rfl ?_
                  refine h_val (v_load8 rfl rfl row_5 LT_) rfl ?_
                  refine h_val (v_neq8 rfl rfl) rfl ?_
                  refine h_nil ?_
                  refine s_nil ?_
                  refine Q_ ?_
                  by_cases hc10 : ((nth (rfTagA key nonce ad (cut box 0 (box.length - 16))) 8) != (nth box ((box.length - 16) + 8))) = true
                  all_goals (have hc10_ := hc10; try simp at hc10_)
                  · try simp only [if_pos hc10] at *
                    refine c_condT rfl (hc10) ?_
                    refine S_ ?_
                    refine c_region ?_
                    refine s_val (v_assignC rfl) rfl ?_
                    refine s_val (v_assignC rfl) rfl ?_
                    refine s_nil ?_
                    refine S_ ?_
                    exact k_2 (by first | exact r_tmpC rfl | exact r_tmpA rfl) (by first | exact r_tmpC rfl | exact r_tmpA rfl) (by first | kernel_rfl | rfl)
                  · try simp only [if_neg hc10] at *
                    refine c_condF rfl (by simpa using hc10) ?_
                    refine S_ ?_
                    refine c_region ?_
                    refine s_val (v_moveC rfl) rfl ?_
                    refine s_val (v_addN (a := 8) (b := 1) rfl rfl (by omega)) rfl ?_
                    refine s_val (v_assignC rfl) rfl ?_
                    refine s_nil ?_
                    show WC _ _ _ _ _
                    refine Q_ ?_
                    refine c_peel ?_
                    refine S_ ?_
                    refine c_region ?_
                    refine s_val (v_moveC rfl) rfl ?_
                    refine s_val (v_lssN (a := 9) (b := 16) rfl rfl) rfl ?_
                    refine s_nil ?_
                    refine S_ ?_
                    refine c_draw 10 mixed (by kernel_rfl) rfl rfl rfl ?_
                    refine h_val (v_moveC rfl) rfl ?_
                    refine h_val (v_idxA1 (j := 9) rfl rfl Try.underlying42 sz_5 (by omega)) rfl ?_
                    refine h_val (v_load8 rfl rfl row_5 LT_) rfl ?_
                    refine h_val (v_moveC rfl) rfl ?_
                    refine h_val (v_moveC rfl) rfl ?_
                    refine h_val (v_moveC rfl) rfl ?_
                    refine h_val (v_addN (b := 9) rfl rfl (by omega)) rfl ?_
                    refine h_val (v_idxS1 rfl rfl Try.underlying24 sz_5 (by omega)) rfl ?_
                    refine h_val (v_load8 rfl rfl row_5 LT_) rfl ?_
                    refine h_val (v_neq8 rfl rfl) rfl ?_
                    refine h_nil ?_
                    refine s_nil ?_
                    refine Q_ ?_
                    by_cases hc11 : ((nth (rfTagA key nonce ad (cut box 0 (box.length - 16))) 9) != (nth box ((box.length - 16) + 9))) = true
                    all_goals (have hc11_ := hc11; try simp at hc11_)
                    · try simp only [if_pos hc11] at *
                      refine c_condT rfl (hc11) ?_
                      refine S_ ?_
                      refine c_region ?_
                      refine s_val (v_assignC rfl) rfl ?_
                      refine s_val (v_assignC rfl) rfl ?_
                      refine s_nil ?_
                      refine S_ ?_
                      exact k_2 (by first | exact r_tmpC rfl | exact r_tmpA rfl) (by first | exact r_tmpC rfl | exact r_tmpA rfl) (by first | kernel_rfl | rfl)
                    · try simp only [if_neg hc11] at *
                      refine c_condF rfl (by simpa using hc11) ?_
                      refine S_ ?_
                      refine c_region ?_
                      refine s_val (v_moveC rfl) rfl ?_
                      refine s_val (v_addN (a := 9) (b := 1) rfl rfl (by omega)) rfl ?_
                      refine s_val (v_assignC rfl) rfl ?_
                      refine s_nil ?_
                      show WC _ _ _ _ _
                      refine Q_ ?_
                      refine c_peel ?_
                      refine S_ ?_
                      refine c_region ?_
                      refine s_val (v_moveC rfl) rfl ?_
                      refine s_val (v_lssN (a := 10) (b := 16) rfl rfl) rfl ?_
                      refine s_nil ?_
                      refine S_ ?_
                      refine c_draw 10 mixed (by kernel_rfl) rfl rfl rfl ?_
                      refine h_val (v_moveC rfl) rfl ?_
                      refine h_val (v_idxA1 (j := 10) rfl rfl Try.underlying42 sz_5 (by omega)) rfl ?_
                      refine h_val (v_load8 rfl rfl row_5 LT_) rfl ?_
                      refine h_val (v_moveC rfl) rfl ?_
                      refine h_val (v_moveC rfl) rfl ?_
                      refine h_val (v_moveC rfl) rfl ?_
                      refine h_val (v_addN (b := 10) rfl rfl (by omega)) rfl ?_
                      refine h_val (v_idxS1 rfl rfl Try.underlying24 sz_5 (by omega)) rfl ?_
                      refine h_val (v_load8 rfl rfl row_5 LT_) rfl ?_
                      refine h_val (v_neq8 rfl rfl) rfl ?_
                      refine h_nil ?_
                      refine s_nil ?_
                      refine Q_ ?_
                      by_cases hc12 : ((nth (rfTagA key nonce ad (cut box 0 (box.length - 16))) 10) != (nth box ((box.length - 16) + 10))) = true
                      all_goals (have hc12_ := hc12; try simp at hc12_)
                      · try simp only [if_pos hc12] at *
                        refine c_condT rfl (hc12) ?_
                        refine S_ ?_
                        refine c_region ?_
                        refine s_val (v_assignC rfl) rfl ?_
                        refine s_val (v_assignC rfl) rfl ?_
                        refine s_nil ?_
                        refine S_ ?_
                        exact k_2 (by first | exact r_tmpC rfl | exact r_tmpA rfl) (by first | exact r_tmpC rfl | exact r_tmpA rfl) (by first | kernel_rfl | rfl)
                      · try simp only [if_neg hc12] at *
                        refine c_condF rfl (by simpa using hc12) ?_
                        refine S_ ?_
                        refine c_region ?_
                        refine s_val (v_moveC rfl) rfl ?_
                        refine s_val (v_addN (a := 10) (b := 1) rfl rfl (by omega)) rfl ?_
                        refine s_val (v_assignC rfl) rfl ?_
                        refine s_nil ?_
                        show WC _ _ _ _ _
                        refine Q_ ?_
                        refine c_peel ?_
                        refine S_ ?_
                        refine c_region ?_
                        refine s_val (v_moveC rfl) rfl ?_
                        refine s_val (v_lssN (a := 11) (b := 16) rfl rfl) rfl ?_
                        refine s_nil ?_
                        refine S_ ?_
                        refine c_draw 10 mixed (by kernel_rfl) rfl rfl rfl ?_
                        refine h_val (v_moveC rfl) rfl ?_
                        refine h_val (v_idxA1 (j := 11) rfl rfl Try.underlying42 sz_5 (by omega)) rfl ?_
                        refine h_val (v_load8 rfl rfl row_5 LT_) rfl ?_
                        refine h_val (v_moveC rfl) rfl ?_
                        refine h_val (v_moveC rfl) rfl ?_
                        refine h_val (v_moveC rfl) rfl ?_
                        refine h_val (v_addN (b := 11) rfl rfl (by omega)) rfl ?_
                        refine h_val (v_idxS1 rfl rfl Try.underlying24 sz_5 (by omega)) rfl ?_
                        refine h_val (v_load8 rfl rfl row_5 LT_) rfl ?_
                        refine h_val (v_neq8 rfl rfl) rfl ?_
                        refine h_nil ?_
                        refine s_nil ?_
                        refine Q_ ?_
                        by_cases hc13 : ((nth (rfTagA key nonce ad (cut box 0 (box.length - 16))) 11) != (nth box ((box.length - 16) + 11))) = true
                        all_goals (have hc13_ := hc13; try simp at hc13_)
                        · try simp only [if_pos hc13] at *
                          refine c_condT rfl (hc13) ?_
                          refine S_ ?_
                          refine c_region ?_
                          refine s_val (v_assignC rfl) rfl ?_
                          refine s_val (v_assignC rfl) rfl ?_
                          refine s_nil ?_
                          refine S_ ?_
                          exact k_2 (by first | exact r_tmpC rfl | exact r_tmpA rfl) (by first | exact r_tmpC rfl | exact r_tmpA rfl) (by first | kernel_rfl | rfl)
                        · try simp only [if_neg hc13] at *
                          refine c_condF rfl (by simpa using hc13) ?_
                          refine S_ ?_
                          refine c_region ?_
                          refine s_val (v_moveC rfl) rfl ?_
                          refine s_val (v_addN (a := 11) (b := 1) rfl rfl (by omega)) rfl ?_
                          refine s_val (v_assignC rfl) rfl ?_
                          refine s_nil ?_
                          show WC _ _ _ _ _
                          refine Q_ ?_
                          refine c_peel ?_
                          refine S_ ?_
                          refine c_region ?_
                          refine s_val (v_moveC rfl) rfl ?_
                          refine s_val (v_lssN (a := 12) (b := 16) rfl rfl) rfl ?_
                          refine s_nil ?_
                          refine S_ ?_
                          refine c_draw 10 mixed (by kernel_rfl) rfl rfl rfl ?_
                          refine h_val (v_moveC rfl) rfl ?_
                          refine h_val (v_idxA1 (j := 12) rfl rfl Try.underlying42 sz_5 (by omega)) rfl ?_
                          refine h_val (v_load8 rfl rfl row_5 LT_) rfl ?_
                          refine h_val (v_moveC rfl) rfl ?_
                          refine h_val (v_moveC rfl) rfl ?_
                          refine h_val (v_moveC rfl) rfl ?_
                          refine h_val (v_addN (b := 12) rfl rfl (by omega)) rfl ?_
                          refine h_val (v_idxS1 rfl rfl Try.underlying24 sz_5 (by omega)) rfl ?_
                          refine h_val (v_load8 rfl rfl row_5 LT_) rfl ?_
                          refine h_val (v_neq8 rfl rfl) rfl ?_
                          refine h_nil ?_
                          refine s_nil ?_
                          refine Q_ ?_
                          by_cases hc14 : ((nth (rfTagA key nonce ad (cut box 0 (box.length - 16))) 12) != (nth box ((box.length - 16) + 12))) = true
                          all_goals (have hc14_ := hc14; try simp at hc14_)
                          · try simp only [if_pos hc14] at *
                            refine c_condT rfl (hc14) ?_
                            refine S_ ?_
                            refine c_region ?_
                            refine s_val (v_assignC rfl) rfl ?_
                            refine s_val (v_assignC rfl) rfl ?_
                            refine s_nil ?_
                            refine S_ ?_
                            exact k_2 (by first | exact r_tmpC rfl | exact r_tmpA rfl) (by first | exact r_tmpC rfl | exact r_tmpA rfl) (by first | kernel_rfl | rfl)
                          · try simp only [if_neg hc14] at *
                            refine c_condF rfl (by simpa using hc14) ?_
                            refine S_ ?_
                            refine c_region ?_
                            refine s_val (v_moveC rfl) rfl ?_
                            refine s_val (v_addN (a := 12) (b := 1) rfl rfl (by omega)) rfl ?_
                            refine s_val (v_assignC rfl) rfl ?_
                            refine s_nil ?_
                            show WC _ _ _ _ _
                            refine Q_ ?_
                            refine c_peel ?_
                            refine S_ ?_
                            refine c_region ?_
                            refine s_val (v_moveC rfl) rfl ?_
                            refine s_val (v_lssN (a := 13) (b := 16) rfl rfl) rfl ?_
                            refine s_nil ?_
                            refine S_ ?_
                            refine c_draw 10 mixed (by kernel_rfl) rfl rfl rfl ?_
                            refine h_val (v_moveC rfl) rfl ?_
                            refine h_val (v_idxA1 (j := 13) rfl rfl Try.underlying42 sz_5 (by omega)) rfl ?_
                            refine h_val (v_load8 rfl rfl row_5 LT_) rfl ?_
                            refine h_val (v_moveC rfl) rfl ?_
                            refine h_val (v_moveC rfl) rfl ?_
                            refine h_val (v_moveC rfl) rfl ?_
                            refine h_val (v_addN (b := 13) rfl rfl (by omega)) rfl ?_
                            refine h_val (v_idxS1 rfl rfl Try.underlying24 sz_5 (by omega)) rfl ?_
                            refine h_val (v_load8 rfl rfl row_5 LT_) rfl ?_
                            refine h_val (v_neq8 rfl rfl) rfl ?_
                            refine h_nil ?_
                            refine s_nil ?_
                            refine Q_ ?_
                            by_cases hc15 : ((nth (rfTagA key nonce ad (cut box 0 (box.length - 16))) 13) != (nth box ((box.length - 16) + 13))) = true
                            all_goals (have hc15_ := hc15; try simp at hc15_)
                            · try simp only [if_pos hc15] at *
                              refine c_condT rfl (hc15) ?_
                              refine S_ ?_
                              refine c_region ?_
                              refine s_val (v_assignC rfl) rfl ?_
                              refine s_val (v_assignC rfl) rfl ?_
                              refine s_nil ?_
                              refine S_ ?_
                              exact k_2 (by first | exact r_tmpC rfl | exact r_tmpA rfl) (by first | exact r_tmpC rfl | exact r_tmpA rfl) (by first | kernel_rfl | rfl)
                            · try simp only [if_neg hc15] at *
                              refine c_condF rfl (by simpa using hc15) ?_
                              refine S_ ?_
                              refine c_region ?_
                              refine s_val (v_moveC rfl) rfl ?_
                              refine s_val (v_addN (a := 13) (b := 1) rfl rfl (by omega)) rfl ?_
                              refine s_val (v_assignC rfl) rfl ?_
                              refine s_nil ?_
                              show WC _ _ _ _ _
                              refine Q_ ?_
                              refine c_peel ?_
                              refine S_ ?_
                              refine c_region ?_
                              refine s_val (v_moveC rfl) rfl ?_
                              refine s_val (v_lssN (a := 14) (b := 16) rfl rfl) rfl ?_
                              refine s_nil ?_
                              refine S_ ?_
                              refine c_draw 10 mixed (by kernel_rfl) rfl rfl rfl ?_
                              refine h_val (v_moveC rfl) rfl ?_
                              refine h_val (v_idxA1 (j := 14) rfl rfl Try.underlying42 sz_5 (by omega)) rfl ?_
                              refine h_val (v_load8 rfl rfl row_5 LT_) rfl ?_
                              refine h_val (v_moveC rfl) rfl ?_
                              refine h_val (v_moveC rfl) rfl ?_
                              refine h_val (v_moveC rfl) rfl ?_
                              refine h_val (v_addN (b := 14) rfl rfl (by omega)) rfl ?_
                              refine h_val (v_idxS1 rfl rfl Try.underlying24 sz_5 (by omega)) rfl ?_
                              refine h_val (v_load8 rfl rfl row_5 LT_) rfl ?_
                              refine h_val (v_neq8 rfl rfl) rfl ?_
                              refine h_nil ?_
                              refine s_nil ?_
                              refine Q_ ?_
                              by_cases hc16 : ((nth (rfTagA key nonce ad (cut box 0 (box.length - 16))) 14) != (nth box ((box.length - 16) + 14))) = true
                              all_goals (have hc16_ := hc16; try simp at hc16_)
                              · try simp only [if_pos hc16] at *
                                refine c_condT rfl (hc16) ?_
                                refine S_ ?_
                                refine c_region ?_
                                refine s_val (v_assignC rfl) rfl ?_
                                refine s_val (v_assignC rfl) rfl ?_
                                refine s_nil ?_
                                refine S_ ?_
                                exact k_2 (by first | exact r_tmpC rfl | exact r_tmpA rfl) (by first | exact r_tmpC rfl | exact r_tmpA rfl) (by first | kernel_rfl | rfl)
                              · try simp only [if_neg hc16] at *
                                refine c_condF rfl (by simpa using hc16) ?_
                                refine S_ ?_
                                refine c_region ?_
                                refine s_val (v_moveC rfl) rfl ?_
                                refine s_val (v_addN (a := 14) (b := 1) rfl rfl (by omega)) rfl ?_
                                refine s_val (v_assignC rfl) rfl ?_
                                refine s_nil ?_
                                show WC _ _ _ _ _
                                refine Q_ ?_
                                refine c_peel ?_
                                refine S_ ?_
                                refine c_region ?_
                                refine s_val (v_moveC rfl) rfl ?_
                                refine s_val (v_lssN (a := 15) (b := 16) rfl rfl) rfl ?_
                                refine s_nil ?_
                                refine S_ ?_
                                refine c_draw 10 mixed (by kernel_rfl) rfl rfl rfl ?_
                                refine h_val (v_moveC rfl) rfl ?_
                                refine h_val (v_idxA1 (j := 15) rfl rfl Try.underlying42 sz_5 (by omega)) rfl ?_
                                refine h_val (v_load8 rfl rfl row_5 LT_) rfl ?_
                                refine h_val (v_moveC rfl) rfl ?_
                                refine h_val (v_moveC rfl) rfl ?_
                                refine h_val (v_moveC rfl) rfl ?_
                                refine h_val (v_addN (b := 15) rfl rfl (by omega)) rfl ?_
                                refine h_val (v_idxS1 rfl rfl Try.underlying24 sz_5 (by omega)) rfl ?_
                                refine h_val (v_load8 rfl rfl row_5 LT_) rfl ?_
                                refine h_val (v_neq8 rfl rfl) rfl ?_
                                refine h_nil ?_
                                refine s_nil ?_
                                refine Q_ ?_
                                by_cases hc17 : ((nth (rfTagA key nonce ad (cut box 0 (box.length - 16))) 15) != (nth box ((box.length - 16) + 15))) = true
                                all_goals (have hc17_ := hc17; try simp at hc17_)
                                · try simp only [if_pos hc17] at *
                                  refine c_condT rfl (hc17) ?_
                                  refine S_ ?_
                                  refine c_region ?_
                                  refine s_val (v_assignC rfl) rfl ?_
                                  refine s_val (v_assignC rfl) rfl ?_
                                  refine s_nil ?_
                                  refine S_ ?_
                                  exact k_2 (by first | exact r_tmpC rfl | exact r_tmpA rfl) (by first | exact r_tmpC rfl | exact r_tmpA rfl) (by first | kernel_rfl | rfl)
                                · try simp only [if_neg hc17] at *
                                  refine c_condF rfl (by simpa using hc17) ?_
                                  refine S_ ?_
                                  refine c_region ?_
                                  refine s_val (v_moveC rfl) rfl ?_
                                  refine s_val (v_addN (a := 15) (b := 1) rfl rfl (by omega)) rfl ?_
                                  refine s_val (v_assignC rfl) rfl ?_
                                  refine s_nil ?_
                                  show WC _ _ _ _ _
                                  refine Q_ ?_
                                  refine c_peel ?_
                                  refine S_ ?_
                                  refine c_region ?_
                                  refine s_val (v_moveC rfl) rfl ?_
                                  refine s_val (v_lssN (a := 16) (b := 16) rfl rfl) rfl ?_
                                  refine s_nil ?_
                                  refine absurd (fun i hi => ?_) hE; rcases (by omega : i = 0 ∨ i = 1 ∨ i = 2 ∨ i = 3 ∨ i = 4 ∨ i = 5 ∨ i = 6 ∨ i = 7 ∨ i = 8 ∨ i = 9 ∨ i = 10 ∨ i = 11 ∨ i = 12 ∨ i = 13 ∨ i = 14 ∨ i = 15) with h | h | h | h | h | h | h | h | h | h | h | h | h | h | h | h <;> subst h <;> first | assumption | (simp only [Nat.add_zero]; assumption)
end Go.Proofs.Ytcjponmaeamjdaa
/- The program's boxes, told by the reference's. (Drawn up by a program.) -/
namespace Go.Proofs.Ytcjponmaeamjdaa
open Go.RowKit
theorem full_L1 (b : List (BitVec 8)) (j : Nat) : adFull_L1 b j = b ++ zer8 j := by
  induction j with
  | zero => simp [adFull_L1, zer8]
  | succ j ih => rw [adFull_L1, adFull_L1_S, ih, List.append_assoc]; congr 1; unfold zer8; rw [List.replicate_succ']; rfl
theorem full_eq (b : List (BitVec 8)) : adFull b = b ++ zer8 ((16 - b.length % 16) % 16) := by
  unfold adFull; exact full_L1 b _
theorem len8_at (n : Nat) (X : List (BitVec 8)) (l : List Nat) (j5 j : Nat) (h : ntn l j5 = n) (f : Nat → List (BitVec 8)) (f0 : f 0 = X) (fs : ∀ j, f (j + 1) = f j ++ [((BitVec.ofNat 64 (ntn l j5)) >>> (8 * j)).setWidth 8]) (hj : j ≤ 8) : f j = X ++ rfLen8_L3 n j := by
  induction j with
  | zero => rw [f0, rfLen8_L3, List.append_nil]
  | succ j ih =>
    rw [fs, ih (by omega), rfLen8_L3, rfLen8_L3_S, h, BitVec.toNat_ofNat, Nat.mod_eq_of_lt (by omega), List.append_assoc]
theorem tag_same (key nonce ad tx : List (BitVec 8)) : adTag key nonce ad tx = rfTagA key nonce ad tx := by
  have h8 : ∀ X j5 n, ntn [ad.length, tx.length] j5 = n → adTag_L8 ad tx X j5 8 = X ++ rfLen8 n := fun X j5 n h => by
    unfold rfLen8
    exact len8_at n X [ad.length, tx.length] j5 8 h (adTag_L8 ad tx X j5) rfl (fun j => rfl) (by decide)
  unfold adTag rfTagA
  rw [adTag_L5, adTag_L5_S, adTag_L5, adTag_L5_S, adTag_L5, h8 _ 0 ad.length rfl, h8 _ 1 tx.length rfl, full_eq, full_eq]
  congr 5
  rw [List.length_append, List.length_append, zer8_length]
  omega
theorem work_same (key nonce ad tx : List (BitVec 8)) : adWork11 key nonce ad tx = adTag key nonce ad tx := by unfold adWork11; rfl
theorem seal_same (key nonce ad text : List (BitVec 8)) : adSeal0 key nonce ad text = rfSeal key nonce ad text := by
  unfold adSeal0 rfSeal adWork00 adWork01
  rw [tag_same]
theorem open_same (key nonce box : List (BitVec 8)) : adOpen0 key nonce box = rfOpen0 key nonce box := by unfold adOpen0 rfOpen0; rfl
theorem tag_all {key nonce ad box : List (BitVec 8)} {bn : Nat} (hkey : key.length = 32) (hnonce : nonce.length = 12) (hbox : box.length = bn) (h16 : 16 ≤ bn) : rfTagA key nonce ad (cut box 0 (bn - 16)) = cut box (bn - 16) 16 ↔ ∀ i, i < 16 → nth (rfTagA key nonce ad (cut box 0 (bn - 16))) i = nth box (bn - 16 + i) := by
  constructor
  · intro h i hi
    rw [h, nthCut _ _ _ _ hi]
  · intro h
    refine extNth (by rw [rfTagA_len _ _ _ _ hkey hnonce, cut_length]; omega) fun i hi => ?_
    rw [rfTagA_len _ _ _ _ hkey hnonce] at hi
    rw [h i hi, nthCut _ _ _ _ hi]
theorem adSealR_ev (key : List (BitVec 8)) (nonce : List (BitVec 8)) (ad : List (BitVec 8)) (an : Nat) (acap : Nat) (text : List (BitVec 8)) (tn : Nat) (tcap : Nat) (hkey : key.length = 32) (hnonce : nonce.length = 12) (had : ad.length = an) (han : an ≤ 1099511627) (htext : text.length = tn) (htn : tn ≤ 1099511627) (hA : an ≤ 65536) (hT : tn ≤ 65536) : Ev Try.prog (.call 9 [.agg (.a8 (key)), .agg (.a8 (nonce)), .c (.sl 0 0 an acap 1), .c (.sl 1 0 tn tcap 1)] [.row false (.a8 (ad)), .row false (.a8 (text))]) (.val (.tup [.c (.sl 2 0 (tn + 16) (tn + 16) 1), .c (.val (.int .i64 ((0 : Nat) : Int)))]) [.row false (.a8 (ad)), .row false (.a8 (text)), .row true (.a8 (rfSeal key nonce ad text))])  := by
  have h_ := adSeal_ev key nonce ad an acap text tn tcap hkey hnonce had han htext htn hA hT
  rw [seal_same] at h_
  exact h_
theorem adSealR_evNT (key : List (BitVec 8)) (nonce : List (BitVec 8)) (text : List (BitVec 8)) (tn : Nat) (tcap : Nat) (hkey : key.length = 32) (hnonce : nonce.length = 12) (htext : text.length = tn) (htn : tn ≤ 1099511627) (hT : tn ≤ 65536) : Ev Try.prog (.call 9 [.agg (.a8 (key)), .agg (.a8 (nonce)), .c .nsl, .c (.sl 0 0 tn tcap 1)] [.row false (.a8 (text))]) (.val (.tup [.c (.sl 1 0 (tn + 16) (tn + 16) 1), .c (.val (.int .i64 ((0 : Nat) : Int)))]) [.row false (.a8 (text)), .row true (.a8 (rfSeal key nonce [] text))]) :=
  Ev.parts (m := [.row false (.a8 (text))]) (m' := [.row false (.a8 ([])), .row false (.a8 (text))]) (N := [.row true (.a8 (rfSeal key nonce [] text))]) (N' := [.row true (.a8 (rfSeal key nonce [] text))]) [none, some (0, 0)] (.no (.all rfl rfl .nil)) (.agg rfl (.agg rfl (.c .nil (.c (.sl rfl rfl) .nil)))) (adSealR_ev key nonce [] 0 0 text tn tcap hkey hnonce rfl (by decide) htext htn (by decide) hT) rfl rfl
theorem adSealR_evNN (key : List (BitVec 8)) (nonce : List (BitVec 8)) (hkey : key.length = 32) (hnonce : nonce.length = 12) : Ev Try.prog (.call 9 [.agg (.a8 (key)), .agg (.a8 (nonce)), .c .nsl, .c .nsl] []) (.val (.tup [.c (.sl 0 0 (0 + 16) (0 + 16) 1), .c (.val (.int .i64 ((0 : Nat) : Int)))]) [.row true (.a8 (rfSeal key nonce [] []))]) :=
  Ev.parts (m := []) (m' := [.row false (.a8 ([])), .row false (.a8 ([]))]) (N := [.row true (.a8 (rfSeal key nonce [] []))]) (N' := [.row true (.a8 (rfSeal key nonce [] []))]) [none, none] (.no (.no .nil)) (.agg rfl (.agg rfl (.c .nil (.c .nil .nil)))) (adSealR_ev key nonce [] 0 0 [] 0 0 hkey hnonce rfl (by decide) rfl (by decide) (by decide) (by decide)) rfl rfl
theorem adSealT_evNT (key : List (BitVec 8)) (nonce : List (BitVec 8)) (text : List (BitVec 8)) (tn : Nat) (tcap : Nat) (hkey : key.length = 32) (hnonce : nonce.length = 12) (htext : text.length = tn) (htn : tn ≤ 1099511627) (hT : 65536 < tn) : Ev Try.prog (.call 9 [.agg (.a8 (key)), .agg (.a8 (nonce)), .c .nsl, .c (.sl 0 0 tn tcap 1)] [.row false (.a8 (text))]) (.val (.tup [.c .nsl, .c (.val (.int .i64 ((2 : Nat) : Int)))]) [.row false (.a8 (text))]) :=
  Ev.parts (m := [.row false (.a8 (text))]) (m' := [.row false (.a8 ([])), .row false (.a8 (text))]) (N := []) (N' := []) [none, some (0, 0)] (.no (.all rfl rfl .nil)) (.agg rfl (.agg rfl (.c .nil (.c (.sl rfl rfl) .nil)))) (adSealT_ev key nonce [] 0 0 text tn tcap hkey hnonce rfl (by decide) htext htn (by decide) hT) rfl rfl
theorem adOpenR_ev (key : List (BitVec 8)) (nonce : List (BitVec 8)) (ad : List (BitVec 8)) (an : Nat) (acap : Nat) (box : List (BitVec 8)) (bn : Nat) (bcap : Nat) (hkey : key.length = 32) (hnonce : nonce.length = 12) (had : ad.length = an) (han : an ≤ 1099511627) (hbox : box.length = bn) (hbn : bn ≤ 1099511627) (hA : an ≤ 65536) (h16 : 16 ≤ bn) (hT : bn - 16 ≤ 65536) (hE : rfTagA key nonce ad (cut box 0 (bn - 16)) = cut box (bn - 16) 16) : Ev Try.prog (.call 13 [.agg (.a8 (key)), .agg (.a8 (nonce)), .c (.sl 0 0 an acap 1), .c (.sl 1 0 bn bcap 1)] [.row false (.a8 (ad)), .row false (.a8 (box))]) (.val (.tup [.c (.sl 2 0 (bn - 16) (bn - 16) 1), .c (.val (.int .i64 ((0 : Nat) : Int)))]) [.row false (.a8 (ad)), .row false (.a8 (box)), .row true (.a8 (rfOpen0 key nonce box))])  := by
  have h_ := adOpen_ev key nonce ad an acap box bn bcap hkey hnonce had han hbox hbn hA h16 hT (by rw [work_same, tag_same]; exact hE)
  rw [open_same] at h_
  exact h_
theorem adOpenR_evNT (key : List (BitVec 8)) (nonce : List (BitVec 8)) (box : List (BitVec 8)) (bn : Nat) (bcap : Nat) (hkey : key.length = 32) (hnonce : nonce.length = 12) (hbox : box.length = bn) (hbn : bn ≤ 1099511627) (h16 : 16 ≤ bn) (hT : bn - 16 ≤ 65536) (hE : rfTagA key nonce [] (cut box 0 (bn - 16)) = cut box (bn - 16) 16) : Ev Try.prog (.call 13 [.agg (.a8 (key)), .agg (.a8 (nonce)), .c .nsl, .c (.sl 0 0 bn bcap 1)] [.row false (.a8 (box))]) (.val (.tup [.c (.sl 1 0 (bn - 16) (bn - 16) 1), .c (.val (.int .i64 ((0 : Nat) : Int)))]) [.row false (.a8 (box)), .row true (.a8 (rfOpen0 key nonce box))]) :=
  Ev.parts (m := [.row false (.a8 (box))]) (m' := [.row false (.a8 ([])), .row false (.a8 (box))]) (N := [.row true (.a8 (rfOpen0 key nonce box))]) (N' := [.row true (.a8 (rfOpen0 key nonce box))]) [none, some (0, 0)] (.no (.all rfl rfl .nil)) (.agg rfl (.agg rfl (.c .nil (.c (.sl rfl rfl) .nil)))) (adOpenR_ev key nonce [] 0 0 box bn bcap hkey hnonce rfl (by decide) hbox hbn (by decide) h16 hT hE) rfl rfl
theorem adOpenRE_ev (key : List (BitVec 8)) (nonce : List (BitVec 8)) (ad : List (BitVec 8)) (an : Nat) (acap : Nat) (box : List (BitVec 8)) (bn : Nat) (bcap : Nat) (hkey : key.length = 32) (hnonce : nonce.length = 12) (had : ad.length = an) (han : an ≤ 1099511627) (hbox : box.length = bn) (hbn : bn ≤ 1099511627) (hA : an ≤ 65536) (h16 : 16 ≤ bn) (hT : bn - 16 ≤ 65536) (hE : ¬ (rfTagA key nonce ad (cut box 0 (bn - 16)) = cut box (bn - 16) 16)) : Ev Try.prog (.call 13 [.agg (.a8 (key)), .agg (.a8 (nonce)), .c (.sl 0 0 an acap 1), .c (.sl 1 0 bn bcap 1)] [.row false (.a8 (ad)), .row false (.a8 (box))]) (.val (.tup [.c .nsl, .c (.val (.int .i64 ((3 : Nat) : Int)))]) [.row false (.a8 (ad)), .row false (.a8 (box))])  := by
  have h_ := adOpenE_ev key nonce ad an acap box bn bcap hkey hnonce had han hbox hbn hA h16 hT (by rw [work_same, tag_same]; exact hE)
  exact h_
theorem adOpenRE_evNT (key : List (BitVec 8)) (nonce : List (BitVec 8)) (box : List (BitVec 8)) (bn : Nat) (bcap : Nat) (hkey : key.length = 32) (hnonce : nonce.length = 12) (hbox : box.length = bn) (hbn : bn ≤ 1099511627) (h16 : 16 ≤ bn) (hT : bn - 16 ≤ 65536) (hE : ¬ (rfTagA key nonce [] (cut box 0 (bn - 16)) = cut box (bn - 16) 16)) : Ev Try.prog (.call 13 [.agg (.a8 (key)), .agg (.a8 (nonce)), .c .nsl, .c (.sl 0 0 bn bcap 1)] [.row false (.a8 (box))]) (.val (.tup [.c .nsl, .c (.val (.int .i64 ((3 : Nat) : Int)))]) [.row false (.a8 (box))]) :=
  Ev.parts (m := [.row false (.a8 (box))]) (m' := [.row false (.a8 ([])), .row false (.a8 (box))]) (N := []) (N' := []) [none, some (0, 0)] (.no (.all rfl rfl .nil)) (.agg rfl (.agg rfl (.c .nil (.c (.sl rfl rfl) .nil)))) (adOpenRE_ev key nonce [] 0 0 box bn bcap hkey hnonce rfl (by decide) hbox hbn (by decide) h16 hT hE) rfl rfl
theorem adOpenT_evNT (key : List (BitVec 8)) (nonce : List (BitVec 8)) (box : List (BitVec 8)) (bn : Nat) (bcap : Nat) (hkey : key.length = 32) (hnonce : nonce.length = 12) (hbox : box.length = bn) (hbn : bn ≤ 1099511627) (h16 : 16 ≤ bn) (hT : 65536 < bn - 16) : Ev Try.prog (.call 13 [.agg (.a8 (key)), .agg (.a8 (nonce)), .c .nsl, .c (.sl 0 0 bn bcap 1)] [.row false (.a8 (box))]) (.val (.tup [.c .nsl, .c (.val (.int .i64 ((2 : Nat) : Int)))]) [.row false (.a8 (box))]) :=
  Ev.parts (m := [.row false (.a8 (box))]) (m' := [.row false (.a8 ([])), .row false (.a8 (box))]) (N := []) (N' := []) [none, some (0, 0)] (.no (.all rfl rfl .nil)) (.agg rfl (.agg rfl (.c .nil (.c (.sl rfl rfl) .nil)))) (adOpenT_ev key nonce [] 0 0 box bn bcap hkey hnonce rfl (by decide) hbox hbn (by decide) h16 hT) rfl rfl
theorem rfOpenR_ev (key : List (BitVec 8)) (nonce : List (BitVec 8)) (ad : List (BitVec 8)) (an : Nat) (acap : Nat) (box : List (BitVec 8)) (bn : Nat) (bcap : Nat) (hkey : key.length = 32) (hnonce : nonce.length = 12) (had : ad.length = an) (han : an ≤ 1099511627) (hbox : box.length = bn) (hbn : bn ≤ 1099511627) (h16 : 16 ≤ bn) (hE : rfTagA key nonce ad (cut box 0 (bn - 16)) = cut box (bn - 16) 16) : Ev Try.prog (.call 14 [.agg (.a8 (key)), .agg (.a8 (nonce)), .c (.sl 0 0 an acap 1), .c (.sl 1 0 bn bcap 1)] [.row false (.a8 (ad)), .row false (.a8 (box))]) (.val (.tup [.c (.sl 2 0 (bn - 16) (bn - 16) 1), .c (.val (.bool (true)))]) [.row false (.a8 (ad)), .row false (.a8 (box)), .row true (.a8 (rfOpen0 key nonce box))])  := by
  have h_ := rfOpen_ev key nonce ad an acap box bn bcap hkey hnonce had han hbox hbn h16 ((tag_all hkey hnonce hbox h16).1 hE)
  exact h_
theorem rfOpenRE_ev (key : List (BitVec 8)) (nonce : List (BitVec 8)) (ad : List (BitVec 8)) (an : Nat) (acap : Nat) (box : List (BitVec 8)) (bn : Nat) (bcap : Nat) (hkey : key.length = 32) (hnonce : nonce.length = 12) (had : ad.length = an) (han : an ≤ 1099511627) (hbox : box.length = bn) (hbn : bn ≤ 1099511627) (h16 : 16 ≤ bn) (hE : ¬ (rfTagA key nonce ad (cut box 0 (bn - 16)) = cut box (bn - 16) 16)) : Ev Try.prog (.call 14 [.agg (.a8 (key)), .agg (.a8 (nonce)), .c (.sl 0 0 an acap 1), .c (.sl 1 0 bn bcap 1)] [.row false (.a8 (ad)), .row false (.a8 (box))]) (.val (.tup [.c .nsl, .c (.val (.bool (false)))]) [.row false (.a8 (ad)), .row false (.a8 (box))])  := by
  have h_ := rfOpenE_ev key nonce ad an acap box bn bcap hkey hnonce had han hbox hbn h16 (fun h => hE ((tag_all hkey hnonce hbox h16).2 h))
  exact h_
end Go.Proofs.Ytcjponmaeamjdaa
/- What was sealed is opened; a turned byte of the tag is refused. No program in sight. -/
namespace Go.Proofs.Ytcjponmaeamjdaa
open Go.RowKit
theorem cut_app0 (x t : List (BitVec 8)) (m : Nat) (h : x.length = m) : cut (x ++ t) 0 m = x := by subst h; simp [cut]
theorem cut_app1 (x t : List (BitVec 8)) (m k : Nat) (h : x.length = m) (hk : t.length = k) : cut (x ++ t) m k = t := by subst h hk; simp [cut]
theorem put_app (x t : List (BitVec 8)) (p i : Nat) (v : BitVec 8) (h : p = x.length + i) : put (x ++ t) p v = x ++ put t i v := by
  subst h; simp [put, List.set_append_right]
theorem seal_spoiled (key nonce ad text : List (BitVec 8)) (hkey : key.length = 32) (hnonce : nonce.length = 12) (p i : Nat) (v : BitVec 8) (hp : p = text.length + i) (hi : i < 16) (hv : v ≠ 0#8) (m : Nat) (hm : m = text.length) :
    ¬ (rfTagA key nonce ad (cut (put (rfSeal key nonce ad text) p (nth (rfSeal key nonce ad text) p ^^^ v)) 0 m) = cut (put (rfSeal key nonce ad text) p (nth (rfSeal key nonce ad text) p ^^^ v)) m 16) := by
  unfold rfSeal
  have hx : (chXor key 1#32 nonce text).length = m := by rw [chXor_len _ _ _ _ hkey hnonce, hm]
  generalize chXor key 1#32 nonce text = x at *
  have ht : (rfTagA key nonce ad x).length = 16 := rfTagA_len _ _ _ _ hkey hnonce
  rw [put_app _ _ p i _ (by omega), cut_app0 _ _ _ hx, cut_app1 _ _ _ _ hx (by rw [put_length, ht])]
  generalize rfTagA key nonce ad x = t at *
  intro h
  have h1 : nth (put t i (nth (x ++ t) p ^^^ v)) i = nth t i := (congrArg (fun l => nth l i) h).symm
  rw [nth_put _ _ _ _ (by omega), if_pos rfl, nthApp, if_neg (by omega), show p - x.length = i from by omega] at h1
  apply hv
  have h2 := congrArg (fun y => nth t i ^^^ y) h1
  simp only [BitVec.xor_self, ← BitVec.xor_assoc, BitVec.zero_xor] at h2
  exact h2
theorem seal_back (key nonce ad text : List (BitVec 8)) (hkey : key.length = 32) (hnonce : nonce.length = 12) (m : Nat) (hm : m = text.length) :
    rfTagA key nonce ad (cut (rfSeal key nonce ad text) 0 m) = cut (rfSeal key nonce ad text) m 16 := by
  unfold rfSeal
  have hx : (chXor key 1#32 nonce text).length = m := by rw [chXor_len _ _ _ _ hkey hnonce, hm]
  rw [cut_app0 _ _ _ hx, cut_app1 _ _ _ _ hx (rfTagA_len _ _ _ _ hkey hnonce)]
theorem xor_twice (key nonce t : List (BitVec 8)) (c : BitVec 32) (hkey : key.length = 32) (hnonce : nonce.length = 12) : chXor key c nonce (chXor key c nonce t) = t := by
  have hl := chXor_len key c nonce t hkey hnonce
  refine extNth (by rw [chXor_len _ _ _ _ hkey hnonce, hl]) fun i hi => ?_
  rw [chXor_len _ _ _ _ hkey hnonce, hl] at hi
  rw [chXor_nth _ _ _ _ hkey hnonce _ (by omega), chXor_nth _ _ _ _ hkey hnonce _ hi, BitVec.xor_assoc, BitVec.xor_self, BitVec.xor_zero]
theorem seal_open (key nonce ad text : List (BitVec 8)) (hkey : key.length = 32) (hnonce : nonce.length = 12) : rfOpen0 key nonce (rfSeal key nonce ad text) = text := by
  have hx := chXor_len key 1#32 nonce text hkey hnonce
  have ht := rfTagA_len key nonce ad (chXor key 1#32 nonce text) hkey hnonce
  unfold rfOpen0 rfSeal
  rw [cut_app0 _ _ _ (by rw [List.length_append, ht]; omega), xor_twice _ _ _ _ hkey hnonce]
theorem seal_front (key nonce ad text : List (BitVec 8)) (i : Nat) (hkey : key.length = 32) (hnonce : nonce.length = 12) (hi : i < text.length) : nth (rfSeal key nonce ad text) i = nth (chXor key 1#32 nonce text) i := by
  unfold rfSeal
  rw [nthApp, chXor_len _ _ _ _ hkey hnonce, if_pos hi]
theorem len8_zero : rfLen8 0 = zer8 8 := by unfold rfLen8; rfl
theorem seal_none (key nonce : List (BitVec 8)) (hkey : key.length = 32) (hnonce : nonce.length = 12) : rfSeal key nonce [] [] = polyTag (cut (chBlock key 0#32 nonce) 0 32) (zer8 16) := by
  have hx : chXor key 1#32 nonce [] = [] := List.length_eq_zero_iff.1 (by rw [chXor_len _ _ _ _ hkey hnonce]; rfl)
  unfold rfSeal rfTagA
  rw [hx, List.nil_append]
  congr 1
  rw [show ([] : List (BitVec 8)).length = 0 from rfl, len8_zero]
  rfl
end Go.Proofs.Ytcjponmaeamjdaa
/- trystlaw05.wakes (Drawn up by a program.) -/
namespace Go.Proofs.Ytcjponmaeamjdaa
open Go.RowKit

set_option maxRecDepth 100000 in
set_option maxHeartbeats 2000000 in
theorem wakes_ev   : Ev Try.prog (.call 12 [] []) (.val (.c (.val (.bool (true)))) []) := by
  refine c_call Try.func12 rfl Try.ntmps12 rfl LEN_ ?_
  refine S_ ?_
  refine c_region ?_
  refine s_val (v_assignC rfl) rfl ?_
  refine s_nil ?_
  have hQ1 : (rfSeal (put (zer8 32) 0 1#8) (put (zer8 12) 0 2#8) [] [116#8, 101#8, 120#8, 116#8]).length = 20 := LQ_
  refine S_ ?_
  refine c_region ?_
  refine s_val (v_blf8 (l := (put (zer8 32) 0 (1#8))) za_22 Try.underlying22 sz_5 rfl rfl) rfl ?_
  refine s_val (v_blf8 (l := (put (zer8 12) 0 (2#8))) za_23 Try.underlying23 sz_5 rfl rfl) rfl ?_
  refine s_memN (m_bs8 (l := [116#8, 101#8, 120#8, 116#8]) Try.underlying24 el_5 rfl rfl (by decide) (by decide) LEN_) APP_ rfl ?_
  refine s_mark rfl Try.underlying24 Try.underlying5 rfl rfl (by decide) LEN_ KILL_ rfl ?_
  refine s_evN (e_callR (bs := [1]) (adSealR_evNT (put (zer8 32) 0 1#8) (put (zer8 12) 0 2#8) [116#8, 101#8, 120#8, 116#8] 4 4 HYP_ HYP_ HYP_ HYP_ HYP_) ok_9 (by kernel_rfl) (by kernel_rfl) rfl VAL_) APP_ rfl ?_
  refine s_val (v_moveT rfl) rfl ?_
  refine s_val (v_extract rfl rfl) rfl ?_
  refine s_val (v_extract rfl rfl) rfl ?_
  refine s_val (v_assignC rfl) rfl ?_
  refine s_val (v_assignC rfl) rfl ?_
  refine s_nil ?_
  refine S_ ?_
  refine c_region ?_
  refine s_val (v_moveC rfl) rfl ?_
  refine s_val (v_neqN (a := 0) (b := 0) rfl rfl) rfl ?_
  refine s_val (v_moveC rfl) rfl ?_
  refine s_go GO_ ?_
  refine s_val (v_moveC rfl) rfl ?_
  refine s_go GO_ ?_
  refine s_val (v_lenS rfl Try.underlying24) rfl ?_
  refine s_go GO_ ?_
  refine s_val (v_neqN (a := 20) (b := 20) rfl rfl) rfl ?_
  refine s_val (v_pickF rfl PK_ rfl) rfl ?_
  refine s_nil ?_
  refine S_ ?_
  refine c_region ?_
  refine s_val (v_moveC rfl) rfl ?_
  refine s_val (v_idxS1 (j := 19) rfl rfl Try.underlying24 sz_5 (by omega)) rfl ?_
  refine s_val (v_load8 rfl rfl row_5 LT_) rfl ?_
  refine s_val (v_xor8 (b := 1#8) rfl rfl) rfl ?_
  refine s_val (v_idxS1 (j := 19) rfl rfl Try.underlying24 sz_5 (by omega)) rfl ?_
  refine s_store8 rfl rfl rfl sz_5 LT_ SET_ ?_
  refine s_nil ?_
  have hE := seal_spoiled (put (zer8 32) 0 1#8) (put (zer8 12) 0 2#8) [] [116#8, 101#8, 120#8, 116#8] (by simp) (by simp) 19 15 1#8 rfl (by decide) (by decide) 4 rfl
  refine S_ ?_
  refine c_region ?_
  refine s_val (v_blf8 (l := (put (zer8 32) 0 (1#8))) za_22 Try.underlying22 sz_5 rfl rfl) rfl ?_
  refine s_val (v_blf8 (l := (put (zer8 12) 0 (2#8))) za_23 Try.underlying23 sz_5 rfl rfl) rfl ?_
  refine s_val (v_moveC rfl) rfl ?_
  refine s_evN (e_callR (bs := [2]) (adOpenRE_evNT (put (zer8 32) 0 1#8) (put (zer8 12) 0 2#8) (put (rfSeal (put (zer8 32) 0 1#8) (put (zer8 12) 0 2#8) [] [116#8, 101#8, 120#8, 116#8]) 19 ((nth (rfSeal (put (zer8 32) 0 1#8) (put (zer8 12) 0 2#8) [] [116#8, 101#8, 120#8, 116#8]) 19) ^^^ 1#8)) 20 20 HYP_ HYP_ HYP_ HYP_ HYP_ HYP_ HYP_) ok_13 (by kernel_rfl) (by kernel_rfl) rfl VAL_) APP_ rfl ?_
  refine s_val (v_moveT rfl) rfl ?_
  refine s_val (v_extract rfl rfl) rfl ?_
  refine s_val (v_extract rfl rfl) rfl ?_
  refine s_val (v_assignC rfl) rfl ?_
  refine s_nil ?_
  refine S_ ?_
  refine c_region ?_
  refine s_val (v_moveC rfl) rfl ?_
  refine s_val (v_eqlN (a := 3) (b := 3) rfl rfl) rfl ?_
  refine s_val (v_assignC rfl) rfl ?_
  refine s_nil ?_
  refine S_ ?_
  exact k_1 (by first | exact r_tmpC rfl | exact r_tmpA rfl) (by first | kernel_rfl | rfl)
end Go.Proofs.Ytcjponmaeamjdaa
/- The walks of trystkeep.Bytes and Twin, of texts that are alike. -/
namespace Go.Proofs.Ytcjponmaeamjdaa
open Go.RowKit
set_option maxRecDepth 100000 in
set_option maxHeartbeats 1000000 in
theorem bytes_ev (r s : List (BitVec 8)) (o p n c d : Nat) (hr : o + n ≤ r.length) (hs : p + n ≤ s.length) (hn : n ≤ 1099511627776) (he : ∀ i, i < n → nth r (o + i) = nth s (p + i)) :
    Ev Try.prog (.call 10 [.c (.sl 0 o n c 1), .c (.sl 1 p n d 1)] [.row false (.a8 r), .row false (.a8 s)]) (.val (.c (.val (.bool true))) [.row false (.a8 r), .row false (.a8 s)]) := by
  refine c_call Try.func10 rfl Try.ntmps10 rfl LEN_ ?_
  refine S_ ?_
  refine c_region ?_
  refine s_val (v_assignC rfl) rfl ?_
  refine s_nil ?_
  refine S_ ?_
  refine c_region ?_
  first
    | refine s_val (v_moveC rfl) rfl ?_
    | refine s_val (v_moveA rfl) rfl ?_
    | refine s_val (v_moveT rfl) rfl ?_
  first
    | refine s_val (v_lenS rfl Try.underlying24) rfl ?_
    | refine s_val (v_lenN rfl Try.underlying24) rfl ?_
    | refine s_val (v_lenE rfl Try.underlying24) rfl ?_
  first
    | refine s_val (v_moveC rfl) rfl ?_
    | refine s_val (v_moveA rfl) rfl ?_
    | refine s_val (v_moveT rfl) rfl ?_
  first
    | refine s_val (v_lenS rfl Try.underlying24) rfl ?_
    | refine s_val (v_lenN rfl Try.underlying24) rfl ?_
    | refine s_val (v_lenE rfl Try.underlying24) rfl ?_
  first
    | refine s_val (v_neqN rfl rfl) rfl ?_
    | refine s_val (v_neqI rfl rfl) rfl ?_
  refine s_nil ?_
  refine Q_ ?_
  refine c_condF rfl (by simp) ?_
  refine S_ ?_
  refine c_region ?_
  refine s_val (v_assignC rfl) rfl ?_
  refine s_nil ?_
  refine S_ ?_
  refine c_loopC [0, 1, 5] (fun (x : Nat) => ⟨26, keepT [0, 1, 5] [.c (.sl 0 o n c 1), .c (.sl 1 p n d 1), .c (.val (.int .i64 (x)))], [.row false (.a8 (r)), .row false (.a8 (s))]⟩) (fun j => j) (n) (by kernel_rfl) ?_ ?_
  · intro j hj
    refine S_ ?_
    refine c_region ?_
    first
      | refine s_val (v_moveC rfl) rfl ?_
      | refine s_val (v_moveA rfl) rfl ?_
      | refine s_val (v_moveT rfl) rfl ?_
    first
      | refine s_val (v_moveC rfl) rfl ?_
      | refine s_val (v_moveA rfl) rfl ?_
      | refine s_val (v_moveT rfl) rfl ?_
    first
      | refine s_val (v_lenS rfl Try.underlying24) rfl ?_
      | refine s_val (v_lenN rfl Try.underlying24) rfl ?_
      | refine s_val (v_lenE rfl Try.underlying24) rfl ?_
    first
      | refine s_val (v_lssN rfl rfl) rfl ?_
      | refine s_val (v_lssI rfl rfl) rfl ?_
    refine s_nil ?_
    refine S_ ?_
    refine c_draw 9 mixed (by kernel_rfl) rfl rfl rfl ?_
    first
      | refine h_val (v_moveC rfl) rfl ?_
      | refine h_val (v_moveA rfl) rfl ?_
      | refine h_val (v_moveT rfl) rfl ?_
    first
      | refine h_val (v_moveC rfl) rfl ?_
      | refine h_val (v_moveA rfl) rfl ?_
      | refine h_val (v_moveT rfl) rfl ?_
    first
      | refine h_val (v_idxS1 rfl rfl Try.underlying24 sz_5 (by omega)) rfl ?_
      | refine h_val (v_idxSo rfl rfl Try.underlying24 sz_5 (by omega)) rfl ?_
      | refine h_val (v_idxS rfl rfl Try.underlying24 sz_5 (by omega)) rfl ?_
    refine h_val (v_load8 rfl rfl row_5 LT_) rfl ?_
    first
      | refine h_val (v_moveC rfl) rfl ?_
      | refine h_val (v_moveA rfl) rfl ?_
      | refine h_val (v_moveT rfl) rfl ?_
    first
      | refine h_val (v_moveC rfl) rfl ?_
      | refine h_val (v_moveA rfl) rfl ?_
      | refine h_val (v_moveT rfl) rfl ?_
    first
      | refine h_val (v_idxS1 rfl rfl Try.underlying24 sz_5 (by omega)) rfl ?_
      | refine h_val (v_idxSo rfl rfl Try.underlying24 sz_5 (by omega)) rfl ?_
      | refine h_val (v_idxS rfl rfl Try.underlying24 sz_5 (by omega)) rfl ?_
    refine h_val (v_load8 rfl rfl row_5 LT_) rfl ?_
    refine h_val (v_neq8 rfl rfl) rfl ?_
    refine h_nil ?_
    refine s_nil ?_
    refine Q_ ?_
    refine c_condF rfl (by simp [he j hj]) ?_
    refine S_ ?_
    refine c_region ?_
    first
      | refine s_val (v_moveC rfl) rfl ?_
      | refine s_val (v_moveA rfl) rfl ?_
      | refine s_val (v_moveT rfl) rfl ?_
    first
      | refine s_val (v_addN (b := 1) rfl rfl (by omega)) rfl ?_
      | refine s_val (v_addI rfl rfl (by omega)) rfl ?_
    first
      | refine s_val (v_assignC rfl) rfl ?_
      | refine s_val (v_assignA rfl) rfl ?_
      | refine s_val (v_assignT rfl) rfl ?_
    refine s_nil ?_
    exact ⟨_, by kernel_rfl, rfl⟩
  · refine S_ ?_
    refine c_region ?_
    first
      | refine s_val (v_moveC rfl) rfl ?_
      | refine s_val (v_moveA rfl) rfl ?_
      | refine s_val (v_moveT rfl) rfl ?_
    first
      | refine s_val (v_moveC rfl) rfl ?_
      | refine s_val (v_moveA rfl) rfl ?_
      | refine s_val (v_moveT rfl) rfl ?_
    first
      | refine s_val (v_lenS rfl Try.underlying24) rfl ?_
      | refine s_val (v_lenN rfl Try.underlying24) rfl ?_
      | refine s_val (v_lenE rfl Try.underlying24) rfl ?_
    first
      | refine s_val (v_lssN rfl rfl) rfl ?_
      | refine s_val (v_lssI rfl rfl) rfl ?_
    refine s_nil ?_
    refine S_ ?_
    refine c_region ?_
    refine s_val (v_assignC rfl) rfl ?_
    refine s_nil ?_
    refine S_ ?_
    exact k_1 (by first | exact r_tmpC rfl | exact r_tmpA rfl) (by first | kernel_rfl | rfl)
set_option maxRecDepth 100000 in
theorem bytesL_ev (r s : List (BitVec 8)) (o p n m c d : Nat) (h : n ≠ m) :
    Ev Try.prog (.call 10 [.c (.sl 0 o n c 1), .c (.sl 1 p m d 1)] [.row false (.a8 r), .row false (.a8 s)]) (.val (.c (.val (.bool false))) [.row false (.a8 r), .row false (.a8 s)]) := by
  refine c_call Try.func10 rfl Try.ntmps10 rfl LEN_ ?_
  refine S_ ?_
  refine c_region ?_
  refine s_val (v_assignC rfl) rfl ?_
  refine s_nil ?_
  refine S_ ?_
  refine c_region ?_
  first
    | refine s_val (v_moveC rfl) rfl ?_
    | refine s_val (v_moveA rfl) rfl ?_
    | refine s_val (v_moveT rfl) rfl ?_
  first
    | refine s_val (v_lenS rfl Try.underlying24) rfl ?_
    | refine s_val (v_lenN rfl Try.underlying24) rfl ?_
    | refine s_val (v_lenE rfl Try.underlying24) rfl ?_
  first
    | refine s_val (v_moveC rfl) rfl ?_
    | refine s_val (v_moveA rfl) rfl ?_
    | refine s_val (v_moveT rfl) rfl ?_
  first
    | refine s_val (v_lenS rfl Try.underlying24) rfl ?_
    | refine s_val (v_lenN rfl Try.underlying24) rfl ?_
    | refine s_val (v_lenE rfl Try.underlying24) rfl ?_
  first
    | refine s_val (v_neqN rfl rfl) rfl ?_
    | refine s_val (v_neqI rfl rfl) rfl ?_
  refine s_nil ?_
  refine Q_ ?_
  refine c_condT rfl (by simp [h]) ?_
  refine S_ ?_
  refine c_region ?_
  refine s_val (v_assignC rfl) rfl ?_
  refine s_nil ?_
  refine S_ ?_
  exact k_1 (by first | exact r_tmpC rfl | exact r_tmpA rfl) (by first | kernel_rfl | rfl)
set_option maxRecDepth 100000 in
theorem twin_ev (r : List (BitVec 8)) (n c : Nat) (hr : r.length = n) (hn : n ≤ 1099511627776) :
    Ev Try.prog (.call 8 [.c (.sl 0 0 n c 1)] [.row false (.a8 r)]) (.val (.c (.sl 1 0 n n 1)) [.row false (.a8 r), .row true (.a8 r)]) := by
  refine c_call Try.func8 rfl Try.ntmps8 rfl LEN_ ?_
  refine S_ ?_
  refine c_region ?_
  refine s_val (v_assignC rfl) rfl ?_
  refine s_nil ?_
  refine S_ ?_
  refine c_region ?_
  refine s_val (v_assignC rfl) rfl ?_
  refine s_nil ?_
  refine S_ ?_
  refine c_region ?_
  first
    | refine s_val (v_moveC rfl) rfl ?_
    | refine s_val (v_moveA rfl) rfl ?_
    | refine s_val (v_moveT rfl) rfl ?_
  first
    | refine s_val (v_moveC rfl) rfl ?_
    | refine s_val (v_moveA rfl) rfl ?_
    | refine s_val (v_moveT rfl) rfl ?_
  first
    | refine s_memN (m_appE8 rfl rfl rfl Try.underlying24 Try.underlying24 el_5 EQL_ (by omega) LEN_) APP_ rfl ?_
    | refine s_memN (m_appN8 rfl rfl rfl Try.underlying24 Try.underlying24 el_5 EQL_ (by omega) LEN_) APP_ rfl ?_
    | refine s_app8 rfl rfl rfl rfl Try.underlying24 Try.underlying24 el_5 EQL_ EQL_ (by omega) LEN_ KILL_ rfl ?_
    | refine s_memN (m_appE8c rfl rfl rfl Try.underlying24 Try.underlying24 el_5 LE_ (by omega) LEN_) APP_ rfl ?_
    | refine s_memN (m_appN8c rfl rfl rfl Try.underlying24 Try.underlying24 el_5 LE_ (by omega) LEN_) APP_ rfl ?_
    | refine s_app8c rfl rfl rfl rfl Try.underlying24 Try.underlying24 el_5 EQL_ LE_ (by omega) LEN_ KILL_ rfl ?_
    | refine s_memN (m_appZ rfl rfl Try.underlying24 Try.underlying24 el_5 rfl) APP_ rfl ?_
    | refine s_memN (m_appZe rfl rfl Try.underlying24 Try.underlying24 el_5 rfl) APP_ rfl ?_
  first
    | refine s_val (v_assignC rfl) rfl ?_
    | refine s_val (v_assignA rfl) rfl ?_
    | refine s_val (v_assignT rfl) rfl ?_
  refine s_nil ?_
  refine S_ ?_
  exact k_1 (by first | exact r_tmpC rfl | exact r_tmpA rfl) (by first | kernel_rfl | rfl)
end Go.Proofs.Ytcjponmaeamjdaa
/- trystlaw05.AeadSeals (Drawn up by a program.) -/
namespace Go.Proofs.Ytcjponmaeamjdaa
open Go.RowKit

set_option maxRecDepth 100000 in
set_option maxHeartbeats 2000000 in
theorem aeadSeals_ev (key : List (BitVec 8)) (nonce : List (BitVec 8)) (ad : List (BitVec 8)) (acap : Nat) (text : List (BitVec 8)) (tcap : Nat) (hkey : key.length = 32) (hnonce : nonce.length = 12) : Ev Try.prog (.call 3 [.agg (.a8 (key)), .agg (.a8 (nonce)), .c (.sl 0 0 ad.length acap 1), .c (.sl 1 0 text.length tcap 1)] [.row false (.a8 (ad)), .row false (.a8 (text))]) (.val (.c (.val (.bool (true)))) [.row false (.a8 (ad)), .row false (.a8 (text))]) := by
  refine c_call Try.func3 rfl Try.ntmps3 rfl LEN_ ?_
  refine S_ ?_
  refine c_region ?_
  refine s_memN (m_box BX_ LEN_) APP_ rfl ?_
  refine s_memN (m_box BX_ LEN_) APP_ rfl ?_
  refine s_val (v_assignC rfl) rfl ?_
  refine s_nil ?_
  by_cases hc1 : 1000 < ad.length
  · -- it is so
    refine S_ ?_
    refine c_region ?_
    refine s_val (v_moveC rfl) rfl ?_
    refine s_val (v_lenS rfl Try.underlying24) rfl ?_
    refine s_val (v_gtrN (b := 1000) rfl rfl) rfl ?_
    refine s_val (v_moveC rfl) rfl ?_
    refine s_no GO_ rfl ?_
    refine s_no GO_ rfl ?_
    refine s_no GO_ rfl ?_
    refine s_val (v_pickT rfl PK_ rfl) rfl ?_
    refine s_nil ?_
    refine S_ ?_
    refine c_region ?_
    refine s_val (v_assignC rfl) rfl ?_
    refine s_nil ?_
    refine S_ ?_
    exact k_1 (by first | exact r_tmpC rfl | exact r_tmpA rfl) (by first | kernel_rfl | rfl)
  · -- it is not so
    refine S_ ?_
    refine c_region ?_
    refine s_val (v_moveC rfl) rfl ?_
    refine s_val (v_lenS rfl Try.underlying24) rfl ?_
    refine s_val (v_gtrN (b := 1000) rfl rfl) rfl ?_
    refine s_val (v_moveC rfl) rfl ?_
    refine s_go GO_ ?_
    refine s_val (v_moveC rfl) rfl ?_
    refine s_go GO_ ?_
    refine s_val (v_lenS rfl Try.underlying24) rfl ?_
    refine s_go GO_ ?_
    refine s_val (v_gtrN (b := 1000) rfl rfl) rfl ?_
    refine s_val (v_pickF rfl PK_ rfl) rfl ?_
    refine s_nil ?_
    refine Q_ ?_
    by_cases hc2 : 1000 < text.length
    · try simp only [if_pos hc2] at *
      refine c_condT rfl (decide_eq_true hc2) ?_
      refine S_ ?_
      refine c_region ?_
      refine s_val (v_assignC rfl) rfl ?_
      refine s_nil ?_
      refine S_ ?_
      exact k_1 (by first | exact r_tmpC rfl | exact r_tmpA rfl) (by first | kernel_rfl | rfl)
    · try simp only [if_neg hc2] at *
      refine c_condF rfl (decide_eq_false hc2) ?_
      refine S_ ?_
      refine c_region ?_
      refine s_val (v_moveC rfl) rfl ?_
      refine s_evN (e_callR (bs := [0]) (twin_ev ad ad.length acap HYP_ HYP_) ok_8 (by kernel_rfl) (by kernel_rfl) rfl VAL_) APP_ rfl ?_
      refine s_val (v_moveC rfl) rfl ?_
      refine s_evN (e_callR (bs := [1]) (twin_ev text text.length tcap HYP_ HYP_) ok_8 (by kernel_rfl) (by kernel_rfl) rfl VAL_) APP_ rfl ?_
      refine s_val (v_assignC rfl) rfl ?_
      refine s_val (v_assignC rfl) rfl ?_
      refine s_nil ?_
      have hQ3 : (rfSeal key nonce ad text).length = text.length + 16 := LQ_
      refine S_ ?_
      refine c_region ?_
      refine s_val (v_loadR rfl rfl row_22 sz_22 EQ_ (by decide)) rfl ?_
      refine s_val (v_loadR rfl rfl row_23 sz_23 EQ_ (by decide)) rfl ?_
      refine s_val (v_moveC rfl) rfl ?_
      refine s_val (v_moveC rfl) rfl ?_
      refine s_evN (e_callR (bs := [4,5]) (adSealR_ev key nonce ad ad.length ad.length text text.length text.length HYP_ HYP_ HYP_ HYP_ HYP_ HYP_ HYP_ HYP_) ok_9 (by kernel_rfl) (by kernel_rfl) rfl VAL_) APP_ rfl ?_
      refine s_val (v_moveT rfl) rfl ?_
      refine s_val (v_extract rfl rfl) rfl ?_
      refine s_val (v_extract rfl rfl) rfl ?_
      refine s_val (v_assignC rfl) rfl ?_
      refine s_val (v_assignC rfl) rfl ?_
      refine s_nil ?_
      have hQ4 : (rfSeal key nonce ad text).length = text.length + 16 := LQ_
      refine S_ ?_
      refine c_region ?_
      refine s_val (v_moveC rfl) rfl ?_
      refine s_val (v_eqlN (a := 0) (b := 0) rfl rfl) rfl ?_
      refine s_val (v_moveC rfl) rfl ?_
      refine s_go GO_ ?_
      refine s_val (v_moveC rfl) rfl ?_
      refine s_go GO_ ?_
      refine s_val (v_loadR rfl rfl row_22 sz_22 EQ_ (by decide)) rfl ?_
      refine s_go GO_ ?_
      refine s_val (v_loadR rfl rfl row_23 sz_23 EQ_ (by decide)) rfl ?_
      refine s_go GO_ ?_
      refine s_val (v_moveC rfl) rfl ?_
      refine s_go GO_ ?_
      refine s_val (v_moveC rfl) rfl ?_
      refine s_go GO_ ?_
      refine s_evN (e_callR (bs := [0,1]) (rfSeal_ev key nonce ad ad.length acap text text.length tcap HYP_ HYP_ HYP_ HYP_ HYP_ HYP_) ok_11 (by kernel_rfl) (by kernel_rfl) rfl VAL_) APP_ rfl ?_
      refine s_go GO_ ?_
      refine s_evN (e_callR (bs := [6,7]) (bytes_ev (rfSeal key nonce ad text) (rfSeal key nonce ad text) 0 0 (text.length + 16) (text.length + 16) (text.length + 16) HYP_ HYP_ HYP_ (fun _ _ => rfl)) ok_10 (by kernel_rfl) (by kernel_rfl) rfl VAL_) APP_ rfl ?_
      refine s_val (v_pickT rfl PK_ rfl) rfl ?_
      refine s_val (v_moveC rfl) rfl ?_
      refine s_go GO_ ?_
      refine s_val (v_moveC rfl) rfl ?_
      refine s_go GO_ ?_
      refine s_val (v_moveC rfl) rfl ?_
      refine s_go GO_ ?_
      refine s_evN (e_callR (bs := [4,0]) (bytes_ev ad ad 0 0 ad.length ad.length acap HYP_ HYP_ HYP_ (fun _ _ => rfl)) ok_10 (by kernel_rfl) (by kernel_rfl) rfl VAL_) APP_ rfl ?_
      refine s_val (v_pickT rfl PK_ rfl) rfl ?_
      refine s_val (v_moveC rfl) rfl ?_
      refine s_go GO_ ?_
      refine s_val (v_moveC rfl) rfl ?_
      refine s_go GO_ ?_
      refine s_val (v_moveC rfl) rfl ?_
      refine s_go GO_ ?_
      refine s_evN (e_callR (bs := [5,1]) (bytes_ev text text 0 0 text.length text.length tcap HYP_ HYP_ HYP_ (fun _ _ => rfl)) ok_10 (by kernel_rfl) (by kernel_rfl) rfl VAL_) APP_ rfl ?_
      refine s_val (v_pickT rfl PK_ rfl) rfl ?_
      refine s_val (v_moveC rfl) rfl ?_
      refine s_go GO_ ?_
      refine s_evN (e_callR (wakes_ev) ok_12 rfl rfl rfl VAL_) APP_ rfl ?_
      refine s_val (v_pickT rfl PK_ rfl) rfl ?_
      refine s_val (v_assignC rfl) rfl ?_
      refine s_nil ?_
      refine S_ ?_
      exact k_1 (by first | exact r_tmpC rfl | exact r_tmpA rfl) (by first | kernel_rfl | rfl)
end Go.Proofs.Ytcjponmaeamjdaa
/- Slices of bytes: what a slice reads as, what a call owns, appending. -/
namespace Go.Proofs.Ytcjponmaeamjdaa
open Go.RowKit

/-- The slice value v reads as the bytes l. -/
def Sl (w : World) (v : Value) (l : List (BitVec 8)) : Prop :=
  ∃ a cap, v = .slice a l.length cap ∧ l.length ≤ cap ∧ cap ≤ maxLen ∧ (a = none → cap = 0) ∧ ∀ i, i < l.length → ∃ b off, a = some ⟨b, off, none⟩ ∧ w.cell? ⟨b, off + i, none⟩ = some (U8 (nth l i))
/-- The call owns the slice v, from block B on; it reads as l. -/
def Own (B : Nat) (w : World) (v : Value) (l : List (BitVec 8)) : Prop := w.ownsRow B 5 1 v l.length (l.map U8)

theorem Sl.nil (w : World) : Sl w (.slice none 0 0) [] := ⟨none, 0, rfl, Nat.le_refl _, by unfold maxLen; omega, fun _ => rfl, fun i h => absurd h (by simp)⟩
theorem addr_mid (b o j : Nat) : (⟨b, o, none⟩ : Addr).add j = ⟨b, o + j, none⟩ := Addr.add_mid b o j
theorem Own.sl {B : Nat} {w : World} {v : Value} {l : List (BitVec 8)} (h : Own B w v l) : Sl w v l := by
  obtain ⟨h1, h2⟩ := h
  rcases h2 with ⟨rfl, hn⟩ | ⟨g, cap, cur, rfl, hg, hh, hc, hm, hs, ht⟩
  · obtain rfl : l = [] := List.length_eq_zero_iff.1 hn
    exact Sl.nil w
  · refine ⟨some ⟨g, 0, none⟩, cap, rfl, hc, hm, (fun h => by cases h), fun i hi => ⟨g, 0, rfl, ?_⟩⟩
    rw [cell_of_row w g (0 + i) cur _ _ hh]
    have := congrArg (fun x => x[i]?) ht
    simp only [List.getElem?_take, Nat.mul_one, hi, if_true, List.getElem?_map] at this
    rw [Nat.zero_add, ← Array.getElem?_toList, this]
    simp [nth, hi]
theorem Own.nil (B : Nat) (w : World) : Own B w (.slice none 0 0) [] := World.ownsRow_nil w B _ 1
/-- The shape of a slice that is not empty. -/
theorem Sl.shape {w : World} {v : Value} {l : List (BitVec 8)} (h : Sl w v l) (hl : l ≠ []) : ∃ b off cap, v = .slice (some ⟨b, off, none⟩) l.length cap ∧ l.length ≤ cap ∧ cap ≤ maxLen ∧ ∀ i, i < l.length → w.cell? ⟨b, off + i, none⟩ = some (U8 (nth l i)) := by
  obtain ⟨a, cap, rfl, hc, hm, _, hi⟩ := h
  have hp : 0 < l.length := List.length_pos_iff.2 hl
  obtain ⟨b, off, rfl, _⟩ := hi 0 hp
  refine ⟨b, off, cap, rfl, hc, hm, fun i h => ?_⟩
  obtain ⟨b', off', e, hcell⟩ := hi i h
  simp only [Option.some.injEq, Addr.mk.injEq] at e
  obtain ⟨rfl, rfl, _⟩ := e
  exact hcell
theorem Sl.len {w : World} {v : Value} {l : List (BitVec 8)} (h : Sl w v l) : ∃ a cap, v = .slice a l.length cap := by obtain ⟨a, cap, h, _⟩ := h; exact ⟨a, cap, h⟩
theorem Sl.mk {w : World} {b off len cap : Nat} {l : List (BitVec 8)} (hl : l.length = len) (hc : len ≤ cap) (hm : cap ≤ maxLen) (h : ∀ i, i < len → w.cell? ⟨b, off + i, none⟩ = some (U8 (nth l i))) : Sl w (.slice (some ⟨b, off, none⟩) len cap) l := by
  subst hl
  exact ⟨_, cap, rfl, hc, hm, fun h => (by cases h), fun i hi => ⟨b, off, rfl, h i hi⟩⟩
theorem Sl.below {w w' : World} {v : Value} {l : List (BitVec 8)} (h : Sl w v l) (hb : Below w.heap.size w w') : Sl w' v l := by
  obtain ⟨a, cap, rfl, hc, hm, hn, hi⟩ := h
  refine ⟨a, cap, rfl, hc, hm, hn, fun i h => ?_⟩
  obtain ⟨b, off, e, hcell⟩ := hi i h
  refine ⟨b, off, e, ?_⟩
  rw [hb.cell (World.block_lt_of_cell? w _ hcell)]; exact hcell
/-- What is changed lies elsewhere. -/
theorem Sl.same {w w' : World} {v : Value} {l : List (BitVec 8)} (h : Sl w v l) (hb : ∀ k, (l ≠ [] → v.ownBlock = some k) → w'.heap[k]? = w.heap[k]?) : Sl w' v l := by
  obtain ⟨a, cap, rfl, hc, hm, hn, hi⟩ := h
  refine ⟨a, cap, rfl, hc, hm, hn, fun i h => ?_⟩
  obtain ⟨b, off, rfl, hcell⟩ := hi i h
  refine ⟨b, off, rfl, ?_⟩
  rw [World.cell?_of_block (w := w) (w' := w') (hb b fun _ => rfl)]; exact hcell
theorem Sl.upto {w : World} {v : Value} {l : List (BitVec 8)} (h : Sl w v l) (hl : l ≠ []) : ∃ k, v.ownBlock = some k ∧ k < w.heap.size := by
  obtain ⟨b, off, cap, rfl, _, _, hi⟩ := h.shape hl
  exact ⟨b, rfl, World.block_lt_of_cell? w _ (hi 0 (List.length_pos_iff.2 hl))⟩

theorem Own.below {B : Nat} {w w' : World} {v : Value} {l : List (BitVec 8)} (h : Own B w v l) (hb : Below w.heap.size w w') : Own B w' v l := by
  obtain ⟨h1, h2⟩ := h
  refine ⟨h1, ?_⟩
  rcases h2 with h2 | ⟨g, cap, cur, rfl, hg, hh, r⟩
  · exact Or.inl h2
  · exact Or.inr ⟨g, cap, cur, rfl, hg, by rw [hb.block g (Array.getElem?_eq_some_iff.1 hh).1]; exact hh, r⟩
theorem Own.mono {B B' : Nat} {w : World} {v : Value} {l : List (BitVec 8)} (h : Own B w v l) (hB : B' ≤ B) : Own B' w v l := by
  obtain ⟨h1, h2⟩ := h
  refine ⟨h1, ?_⟩
  rcases h2 with h2 | ⟨g, cap, cur, rfl, hg, hh, r⟩
  · exact Or.inl h2
  · exact Or.inr ⟨g, cap, cur, rfl, Nat.le_trans hB hg, hh, r⟩
theorem Has.grown {w w' : World} {b : Nat} {cs : Array Value} {t : TypeId} {row : Option Nat} (h : Has w b cs t) (hg : w.grownBy w' row) (hb : some b ≠ row) : Has w' b cs t := by
  have := h.lt; unfold Has at *; rw [hg.block b this hb]; exact h
theorem Sl.grown {w w' : World} {v : Value} {l : List (BitVec 8)} {row : Option Nat} (h : Sl w v l) (hg : w.grownBy w' row) (hb : l ≠ [] → v.ownBlock ≠ row) : Sl w' v l := by
  by_cases hl : l = []
  · subst hl
    obtain ⟨a, cap, rfl, hc, hm, hn, hi⟩ := h
    exact ⟨a, cap, rfl, hc, hm, hn, fun i h => absurd h (by simp)⟩
  · obtain ⟨k, hk, hk2⟩ := h.upto hl
    refine h.same fun j hj => ?_
    have : j = k := by have := hj hl; rw [hk] at this; simpa using this.symm
    subst this
    exact hg.block j hk2 (by rw [← hk]; exact hb hl)

/-- Bytes appended to a slice that the call owns. -/
theorem wpList_append8 {P : Program} (w : World) {ops : Array Oper} {rest : List Oper} {o : Oper} {a : Act} {Q : Exit → Act → World → Prop} (hgd : o.guard = none) (s x : Operand) (t : TypeId)
    (ho : o.op = .call { callee := .builtin .append, args := #[s, x], argTypes := #[t, t] }) (B : Nat) (ht : P.underlying t = some (.slice 5)) (hi : (P.info? 5).map (fun i => (i.zero, i.size, i.bytes)) = some (some (.int .u8 0), 1, 1))
    (v : Value) (l m : List (BitVec 8)) (hs : a.eval s = v) (hown : Own B w v l) (u : Value) (hx : a.eval x = u) (hu : Sl w u m) (h46 : l.length + m.length ≤ 70368744177664) (hB : B ≤ w.heap.size)
    (h : ∀ v' w', Own B w' v' (l ++ m) → w.grownBy w' v.ownBlock → wpList P ops Q rest (a.put o.dst v') w') : wpList P ops Q (o :: rest) a w := by
  obtain ⟨i0, hi0, hz0, hz1, hz2⟩ := info_parts hi
  obtain ⟨ad, cap, rfl, hc, hm, hn, hcell⟩ := hu
  cases ad with
  | none =>
    obtain rfl := hn rfl
    have hm0 : m.length = 0 := by omega
    obtain rfl : m = [] := List.length_eq_zero_iff.1 hm0
    refine wpList_append_own_none hgd s x t ho B 5 i0 1 ht hi0 v l.length (l.map U8) hs hown hx ?_
    exact h v w (by simpa using hown) ⟨rfl, rfl, rfl, Nat.le_refl _, fun _ _ _ => rfl⟩
  | some p =>
    refine wpList_append_own w hgd s x t ho B 5 i0 (.int .u8 0) 1 1 ht hi0 hz0 hz1 hz2 rfl (by decide) v l.length (l.map U8) hs hown p m.length cap (m.map U8) hx (by simp) ?_ ?_ (by unfold maxLen; omega) (by omega) hB ?_
    · intro j y hy
      rw [List.getElem?_map] at hy
      obtain ⟨z, hz, rfl⟩ := Option.map_eq_some_iff.1 hy
      have hj : j < m.length := (List.getElem?_eq_some_iff.1 hz).1
      obtain ⟨b, off, e, hc2⟩ := hcell j hj
      obtain rfl := Option.some.inj e
      rw [addr_mid, hc2]
      simp [nth, hz]
    · intro y hy
      obtain ⟨z, _, rfl⟩ := List.mem_map.1 hy
      rfl
    · intro v' w' hown' hg _
      exact h v' w' (by unfold Own; rw [List.length_append, List.map_append]; exact hown') hg
/-- The same as a law on the operation's run. -/
theorem run_append8 {P : Program} (w : World) (t ty : TypeId) (B : Nat) (ht : P.underlying t = some (.slice 5)) (hi : (P.info? 5).map (fun i => (i.zero, i.size, i.bytes)) = some (some (.int .u8 0), 1, 1))
    (v : Value) (l m : List (BitVec 8)) (hown : Own B w v l) (u : Value) (hu : Sl w u m) (h46 : l.length + m.length ≤ 70368744177664) (hB : B ≤ w.heap.size) :
    ∃ v' w', (Builtin.append_ #[t, t] ty #[v, u]).run P w = .ok v' w' ∧ Own B w' v' (l ++ m) ∧ w.grownBy w' v.ownBlock := by
  obtain ⟨i0, hi0, hz0, hz1, hz2⟩ := info_parts hi
  obtain ⟨ad, cap, rfl, hc, hm, hn, hcell⟩ := hu
  cases ad with
  | none =>
    obtain rfl := hn rfl
    have hm0 : m.length = 0 := by omega
    obtain rfl : m = [] := List.length_eq_zero_iff.1 hm0
    exact ⟨v, w, run_append_owned_none w B t ty 5 i0 1 ht hi0 v l.length (l.map U8) hown, by simpa using hown, ⟨rfl, rfl, rfl, Nat.le_refl _, fun _ _ _ => rfl⟩⟩
  | some p =>
    obtain ⟨v', w', hr, ho, hg, _⟩ := run_append_own (P := P) w B t ty 5 i0 (.int .u8 0) 1 1 ht hi0 hz0 hz1 hz2 rfl (by decide) v l.length (l.map U8) hown p m.length cap (m.map U8) (by simp) (by
      intro j y hy
      rw [List.getElem?_map] at hy
      obtain ⟨z, hz, rfl⟩ := Option.map_eq_some_iff.1 hy
      have hj : j < m.length := (List.getElem?_eq_some_iff.1 hz).1
      obtain ⟨b, off, e, hc2⟩ := hcell j hj
      obtain rfl := Option.some.inj e
      rw [addr_mid, hc2]
      simp [nth, hz]) (by
      intro y hy
      obtain ⟨z, _, rfl⟩ := List.mem_map.1 hy
      rfl) (by unfold maxLen; omega) (by omega) hB
    exact ⟨v', w', hr, by unfold Own; rw [List.length_append, List.map_append]; exact ho, hg⟩
/-- .. as a step of a region that draws. -/
theorem step_append8 {P : Program} {ops : Array Oper} {o : Oper} {a : Act} {w : World} {K : Act → World → Prop} {Q : Exit → Act → World → Prop} {E : Prop}
    (hgd : o.guard = none) (s x : Operand) (t : TypeId) (hop : o.op = Op.call { callee := Callee.builtin Builtin.append, args := #[s, x], argTypes := #[t, t] }) (B : Nat) (ht : P.underlying t = some (.slice 5)) (hi : (P.info? 5).map (fun i => (i.zero, i.size, i.bytes)) = some (some (.int .u8 0), 1, 1))
    (v : Value) (l m : List (BitVec 8)) (hs : a.eval s = v) (hown : Own B w v l) (u : Value) (hx : a.eval x = u) (hu : Sl w u m) (h46 : l.length + m.length ≤ 70368744177664) (hB : B ≤ w.heap.size)
    (hK : ∀ v' w', Own B w' v' (l ++ m) → w.grownBy w' v.ownBlock → K (a.put o.dst v') w') :
    if Region.wanted o (yielded ops a.tmps) = true then Oper.wp P o a w K Q else E := by
  have hw : Region.wanted o (yielded ops a.tmps) = true := by simp [Region.wanted, hgd]
  rw [if_pos hw]
  obtain ⟨v', w', hrun, r1, r2⟩ := run_append8 (P := P) w t o.type B ht hi v l m hown u hu h46 hB
  unfold Oper.wp
  simp [execOp, hop, resolve, invoke, builtin, hs, hx, hrun, Result.andThen]
  exact hK v' w' r1 r2
/-- A slice that the call owns lies apart from any row of another kind. -/
theorem Own.apart {B : Nat} {w : World} {v : Value} {l : List (BitVec 8)} (h : Own B w v l) {b : Nat} {cs : Array Value} {t : TypeId} (hb : Has w b cs t) (ht : t ≠ 5) : some b ≠ v.ownBlock := by
  obtain ⟨_, h2⟩ := h
  rcases h2 with ⟨rfl, _⟩ | ⟨g, cap, cur, rfl, hg, hh, _⟩
  · simp [Value.ownBlock]
  · intro e
    simp only [Value.ownBlock, Option.some.injEq] at e
    subst e
    unfold Has at hb
    rw [hb] at hh
    simp only [Option.some.injEq, Obj.cells.injEq] at hh
    exact ht hh.2.1
theorem Own.from {B : Nat} {w : World} {v : Value} {l : List (BitVec 8)} (h : Own B w v l) : ∀ k, v.ownBlock = some k → B ≤ k := fun k hk => (World.ownsRow.lt h k hk).1
theorem Has.own {B : Nat} {w w' : World} {v : Value} {l : List (BitVec 8)} (h : Own B w v l) (hg : w.grownBy w' v.ownBlock) {b : Nat} {cs : Array Value} {t : TypeId} (hb : Has w b cs t) (ht : t ≠ 5) : Has w' b cs t := hb.grown hg (h.apart hb ht)
theorem below_own {B : Nat} {w0 w w' : World} {v : Value} {l : List (BitVec 8)} (hb : Below B w0 w) {B' : Nat} (h : Own B' w v l) (hB : B ≤ B') (hBw : B ≤ w.heap.size) (hg : w.grownBy w' v.ownBlock) : Below B w0 w' :=
  hb.grown hg hBw fun k hk => Nat.le_trans hB (h.from k hk)
theorem Sl.one {w : World} {g : Nat} {x : BitVec 8} {t : TypeId} (h : Has w g #[U8 x] t) : Sl w (.slice (some ⟨g, 0, none⟩) 1 1) [x] :=
  Sl.mk (l := [x]) rfl (Nat.le_refl _) (by unfold maxLen; omega) fun i hi => by
    obtain rfl : i = 0 := by omega
    rw [h.cell]; rfl
/-- Bytes, and whatever lies behind them. -/
def cellsT (l : List (BitVec 8)) (T : List Value) : Array Value := (l.map U8 ++ T).toArray
@[go_sem] theorem cellsT_get (l : List (BitVec 8)) (T : List Value) (i : Nat) (h : i < l.length) : (cellsT l T)[i]? = some (U8 (nth l i)) := by
  simp only [cellsT, List.getElem?_toArray]
  rw [List.getElem?_append_left (by simpa using h)]
  simp [nth, h]
@[go_sem] theorem cellsT_set (l : List (BitVec 8)) (T : List Value) (i : Nat) (v : BitVec 8) (h : i < l.length) : (cellsT l T).setIfInBounds i (U8 v) = cellsT (put l i v) T := by
  simp [cellsT, put, List.map_set, h]
theorem Own.made0 {B : Nat} {w : World} {g : Nat} (hg : B ≤ g) (h : Has w g #[] 5) : Own B w (.slice (some ⟨g, 0, none⟩) 0 0) [] :=
  ⟨rfl, .inr ⟨g, 0, #[], rfl, hg, h, Nat.le_refl _, by unfold maxLen; omega, rfl, rfl⟩⟩
/-- What a slice that the call owns looks like. -/
theorem Own.shape {B : Nat} {w : World} {v : Value} {l : List (BitVec 8)} (h : Own B w v l) (hl : l ≠ []) : ∃ g cap T, v = .slice (some ⟨g, 0, none⟩) l.length cap ∧ B ≤ g ∧ Has w g (cellsT l T) 5 ∧ l.length ≤ cap ∧ cap ≤ maxLen ∧ l.length + T.length = cap := by
  obtain ⟨h1, h2⟩ := h
  rcases h2 with ⟨rfl, hn⟩ | ⟨g, cap, cur, rfl, hg, hh, hc, hm, hs, ht⟩
  · exact absurd (List.length_eq_zero_iff.1 hn) hl
  · refine ⟨g, cap, cur.toList.drop l.length, rfl, hg, ?_, hc, hm, ?_⟩
    · have e : cellsT l (cur.toList.drop l.length) = cur := by
        unfold cellsT
        rw [Nat.mul_one] at ht
        rw [← ht, List.take_append_drop]
      unfold Has; rw [e]; exact hh
    · have : cur.toList.length = cap := by simpa using hs
      rw [List.length_drop, this]; omega
theorem Own.mk {B : Nat} {w : World} {g cap : Nat} {l : List (BitVec 8)} {T : List Value} (hg : B ≤ g) (h : Has w g (cellsT l T) 5) (hm : cap ≤ maxLen) (hc : l.length + T.length = cap) : Own B w (.slice (some ⟨g, 0, none⟩) l.length cap) l := by
  refine ⟨by simp, .inr ⟨g, cap, cellsT l T, rfl, hg, h, by omega, hm, by simp [cellsT]; omega, ?_⟩⟩
  simp [cellsT]
theorem info8 : (Try.prog.info? 5).map (fun i => (i.zero, i.size, i.bytes)) = some (some (.int .u8 0), 1, 1) := by kernel_rfl
end Go.Proofs.Ytcjponmaeamjdaa
/- Opening the given arguments of a law: slices of bytes, arrays of bytes, words. -/
namespace Go.Proofs.Ytcjponmaeamjdaa
open Go.ChangeShapes Go.WideShapes Go.ChangeAt Go.RowKit

theorem int_u8 {n : Int} (h : (Lit.int .u8 n).wf = true) : (.int .u8 n : Value) = U8 (BitVec.ofInt 8 n) := by
  simp only [Lit.wf, Bool.and_eq_true, decide_eq_true_eq] at h
  have h1 : (0 : Int) ≤ n := h.1
  have h2 : n ≤ 255 := h.2
  show Value.int .u8 n = Value.int .u8 (tn (BitVec.ofInt 8 n))
  congr 1
  unfold tn
  rw [BitVec.toNat_ofInt]
  omega
theorem int_u32 {n : Int} (h : (Lit.int .u32 n).wf = true) : (.int .u32 n : Value) = U32 (BitVec.ofInt 32 n) := by
  simp only [Lit.wf, Bool.and_eq_true, decide_eq_true_eq] at h
  have h1 : (0 : Int) ≤ n := h.1
  have h2 : n ≤ 4294967295 := h.2
  show Value.int .u32 n = Value.int .u32 (tn (BitVec.ofInt 32 n))
  congr 1
  unfold tn
  rw [BitVec.toNat_ofInt]
  omega
theorem int_u64 {n : Int} (h : (Lit.int .u64 n).wf = true) : (.int .u64 n : Value) = U64 (BitVec.ofInt 64 n) := by
  simp only [Lit.wf, Bool.and_eq_true, decide_eq_true_eq] at h
  have h1 : (0 : Int) ≤ n := h.1
  have h2 : n ≤ 18446744073709551615 := h.2
  show Value.int .u64 n = Value.int .u64 (tn (BitVec.ofInt 64 n))
  congr 1
  unfold tn
  rw [BitVec.toNat_ofInt]
  omega
/-- The number of a cell, as a byte. -/
def byteOf : Value → BitVec 8
  | .int _ n => BitVec.ofInt 8 n
  | _ => 0
section
variable {H : Type} {enc : TypeId × Value → H} {P : Program} {w : World} {base : Nat} {spare : Nat → Bool} {held : Bool}
theorem okWide_array {r : Reach} {b0 : Nat} {t e : TypeId} {n : Nat} {v : Value} (ht : P.underlying t = some (.array n e)) (h : Value.okWide P w r b0 t v) : ∃ cs, v = .agg cs ∧ cs.size = P.cellsOf t := by
  simp only [Value.okWide, ht] at h
  obtain ⟨cs, h1, h2, _⟩ := h
  exact ⟨cs, h1, h2⟩
/-- An array of bytes, opened. -/
theorem open_bytes {r : Reach} {b0 : Nat} {t e : TypeId} {n : Nat} {v : Value} {d : DataW H} {ps : List MemPlace} (ht : P.underlying t = some (.array n e)) (he : P.underlying e = some (.int .u8)) (hc : P.cellsOf e = 1) (hct : P.cellsOf t = n)
    (hval : Value.okWide P w r b0 t v) (hd : DataW.Trod enc P w base spare held t v d ps) : ∃ l : List (BitVec 8), v = .agg (cells U8 l) ∧ l.length = n := by
  obtain ⟨cs, rfl, hs⟩ := okWide_array ht hval
  obtain ⟨fuel, hf⟩ := hd
  obtain ⟨xs, m, _, _, _, hx, hi⟩ := DataW.trod_array ht hf
  refine ⟨cs.toList.map byteOf, ?_, by simp [hs, hct]⟩
  congr 1
  apply Array.ext
  · simp [cells]
  · intro i h1 h2
    have hin : i < n := by omega
    have h := hi i hin
    rw [List.getElem?_eq_getElem (by omega)] at h
    obtain ⟨z, hz, _, hw⟩ := DataW.trod_int he h
    have hv : cs[i] = .int .u8 z := by
      rw [hc, Nat.mul_one] at hz
      have : ((cs.toList.drop i).take 1)[0]? = some (.int .u8 z) := by
        have hz' : ((cs.toList.drop i).take 1) = [.int .u8 z] := hz
        rw [hz']; rfl
      simp [List.getElem?_drop] at this
      have h3 := Array.getElem?_eq_some_iff.1 this
      exact h3.2
    simp only [cells, List.getElem_toArray, List.getElem_map, Array.getElem_toList]
    rw [hv]
    exact int_u8 hw
/-- A slice of bytes, opened. -/
theorem open_sl {r : Reach} {b0 : Nat} {t e : TypeId} {v : Value} {d : DataW H} {ps : List MemPlace} (ht : P.underlying t = some (.slice e)) (he : P.underlying e = some (.int .u8)) (hc : P.cellsOf e = 1)
    (hval : Value.okWide P w r b0 t v) (hd : DataW.Trod enc P w base spare held t v d ps) : ∃ l : List (BitVec 8), Sl w v l := by
  obtain ⟨a0, len0, cap0, rfl⟩ := okWide_slice ht hval
  obtain ⟨fuel, hf⟩ := hd
  rcases open_ints ht he hc hf with ⟨hcs, _⟩ | ⟨x, len, c, zs, hcs, _, hl, hm, hz, _, hcell, hwz⟩
  · simp [Value.cells] at hcs
    obtain ⟨rfl, rfl, rfl⟩ := hcs
    exact ⟨[], Sl.nil w⟩
  · simp [Value.cells] at hcs
    obtain ⟨rfl, rfl, rfl⟩ := hcs
    have hzl : len0 ≤ zs.length := by rw [hz]; split <;> omega
    have hlen : ((zs.take len0).map (BitVec.ofInt 8)).length = len0 := by simp; omega
    refine ⟨(zs.take len0).map (BitVec.ofInt 8), some x, cap0, by rw [hlen], by rw [hlen]; exact hl, hm, (fun h => by cases h), fun i hi => ?_⟩
    rw [hlen] at hi
    obtain ⟨b, off, spot⟩ := x
    have hc0 := hcell i (by omega)
    have hspot : spot = none := by
      have h0 := hcell 0 (by omega)
      simpa [Addr.add] using World.cell?_spot h0
    subst hspot
    refine ⟨b, off, rfl, ?_⟩
    have e1 : (⟨b, off, none⟩ : Addr).add i = ⟨b, off + i, none⟩ := addr_mid b off i
    rw [e1] at hc0
    rw [hc0, int_u8 (hwz _ (by rw [List.getD_eq_getElem?_getD, List.getElem?_eq_getElem (by omega)]; exact List.getElem_mem _))]
    congr 2
    rw [nth_eq _ _ (by rw [hlen]; exact hi)]
    have hi2 : i < zs.length := by omega
    simp [hi2]
theorem open_u8 {r : Reach} {b0 : Nat} {t : TypeId} {v : Value} {d : DataW H} {ps : List MemPlace} (ht : P.underlying t = some (.int .u8)) (hval : Value.okWide P w r b0 t v) (hd : DataW.Trod enc P w base spare held t v d ps) : ∃ c : BitVec 8, v = U8 c := by
  obtain ⟨n, rfl, _, _, hw⟩ := open_int ht hval hd
  exact ⟨_, int_u8 hw⟩
theorem open_u32 {r : Reach} {b0 : Nat} {t : TypeId} {v : Value} {d : DataW H} {ps : List MemPlace} (ht : P.underlying t = some (.int .u32)) (hval : Value.okWide P w r b0 t v) (hd : DataW.Trod enc P w base spare held t v d ps) : ∃ c : BitVec 32, v = U32 c := by
  obtain ⟨n, rfl, _, _, hw⟩ := open_int ht hval hd
  exact ⟨_, int_u32 hw⟩
theorem open_u64 {r : Reach} {b0 : Nat} {t : TypeId} {v : Value} {d : DataW H} {ps : List MemPlace} (ht : P.underlying t = some (.int .u64)) (hval : Value.okWide P w r b0 t v) (hd : DataW.Trod enc P w base spare held t v d ps) : ∃ c : BitVec 64, v = U64 c := by
  obtain ⟨n, rfl, _, _, hw⟩ := open_int ht hval hd
  exact ⟨_, int_u64 hw⟩
theorem open_i64 {r : Reach} {b0 : Nat} {t : TypeId} {v : Value} {d : DataW H} {ps : List MemPlace} (ht : P.underlying t = some (.int .i64)) (hval : Value.okWide P w r b0 t v) (hd : DataW.Trod enc P w base spare held t v d ps) :
    ∃ n : Int, v = .int .i64 n ∧ (Lit.int .i64 n).wf = true := by
  obtain ⟨n, rfl, _, _, hw⟩ := open_int ht hval hd
  exact ⟨n, rfl, hw⟩
end
end Go.Proofs.Ytcjponmaeamjdaa
/- Abstract data: the given arguments of a law as rows; a law's answer told of the machine. -/
namespace Go.Proofs.Ytcjponmaeamjdaa
open Go.ChangeShapes Go.WideShapes Go.ChangeAt Go.RowKit
/-- A slice of bytes that may be looked at, with the place that it has. -/
def SlR (w : World) (v : Value) (l : List (BitVec 8)) : Prop :=
  ∃ a cap, v = .slice a l.length cap ∧ l.length ≤ cap ∧ cap ≤ maxLen ∧ (cap = 0 ∨ ∃ b off cs t fr, a = some ⟨b, off, none⟩ ∧ w.heap[b]? = some (.cells cs t fr) ∧ ∀ i, i < l.length → cs[off + i]? = some (U8 (nth l i)))
section
variable {H : Type} {enc : TypeId × Value → H} {P : Program} {w : World} {base : Nat} {held : Bool}
theorem open_slR {r : Reach} {b0 : Nat} {t e : TypeId} {v : Value} {d : DataW H} {ps : List MemPlace} (ht : P.underlying t = some (.slice e)) (he : P.underlying e = some (.int .u8)) (hc : P.cellsOf e = 1)
    (hval : Value.okWide P w r b0 t v) (hd : DataW.Trod enc P w base (fun _ => true) held t v d ps) : ∃ l : List (BitVec 8), SlR w v l := by
  obtain ⟨a0, len0, cap0, rfl⟩ := okWide_slice ht hval
  obtain ⟨fuel, hf⟩ := hd
  rcases open_ints ht he hc hf with ⟨hcs, _⟩ | ⟨x, len, c, zs, hcs, _, hl, hm, hz, _, hcell, hwz⟩
  · simp [Value.cells] at hcs
    obtain ⟨rfl, rfl, rfl⟩ := hcs
    exact ⟨[], none, 0, rfl, Nat.le_refl _, by unfold maxLen; omega, .inl rfl⟩
  · simp [Value.cells] at hcs
    obtain ⟨rfl, rfl, rfl⟩ := hcs
    rw [if_pos rfl] at hz
    have hlen : ((zs.take len0).map (BitVec.ofInt 8)).length = len0 := by simp; omega
    refine ⟨(zs.take len0).map (BitVec.ofInt 8), some x, cap0, by rw [hlen], by rw [hlen]; exact hl, hm, ?_⟩
    rcases Nat.eq_zero_or_pos cap0 with h0 | h0
    · exact .inl h0
    · right
      obtain ⟨b, off, spot⟩ := x
      have hspot : spot = none := by
        have h1 := hcell 0 (by omega)
        simpa [Addr.add] using World.cell?_spot h1
      subst hspot
      have at_ : ∀ i, i < cap0 → w.cell? ⟨b, off + i, none⟩ = some (.int .u8 (zs.getD i 0)) := fun i hi => by
        have h1 := hcell i (by omega)
        rwa [show (⟨b, off, none⟩ : Addr).add i = ⟨b, off + i, none⟩ from addr_mid b off i] at h1
      have h1 := at_ 0 h0
      unfold World.cell? at h1
      split at h1
      · rename_i cs t fr hh
        refine ⟨b, off, cs, t, fr, rfl, hh, fun i hi => ?_⟩
        rw [hlen] at hi
        have h2 := at_ i (by omega)
        unfold World.cell? at h2
        simp only [hh] at h2
        rw [show cs[off + i]? = some (.int .u8 (zs.getD i 0)) by simpa using h2, int_u8 (hwz _ (by rw [List.getD_eq_getElem?_getD, List.getElem?_eq_getElem (by omega)]; exact List.getElem_mem _))]
        congr 2
        rw [nth_eq _ _ (by rw [hlen]; exact hi)]
        have hi2 : i < zs.length := by omega
        simp [hi2]
      · cases h1
end
def locOf : Value → Option Loc
  | .slice (some a) _ cap => if cap = 0 then none else some ⟨a.block, a.off, cap⟩
  | _ => none
def openEmb (us : List (Value × List (BitVec 8))) : Emb := fun i => (us[i]?).bind fun p => locOf p.1
def openMem (us : List (Value × List (BitVec 8))) : Mem := us.map fun p => .row false (.a8 p.2)
theorem open_R {us : List (Value × List (BitVec 8))} {w : World} (h : ∀ p ∈ us, SlR w p.1 p.2) : R (openEmb us) (openMem us) w := by
  have row : ∀ {b : Nat} {own : Bool} {x : Arr}, (openMem us)[b]? = some (.row own x) → ∃ p, us[b]? = some p ∧ own = false ∧ x = .a8 p.2 := fun {b own x} hb => by
    unfold openMem at hb
    rw [List.getElem?_map] at hb
    obtain ⟨p, hp, e⟩ := Option.map_eq_some_iff.1 hb
    cases e
    exact ⟨p, hp, rfl, rfl⟩
  refine ⟨fun b hb => ?_, fun b l own x h1 h2 => ?_, fun b b' l l' own own' x x' _ _ _ k1 k2 ho => ?_⟩
  · unfold openEmb
    rw [List.getElem?_eq_none (by simpa [openMem] using hb)]; rfl
  · obtain ⟨p, hp, rfl, rfl⟩ := row h2
    obtain ⟨a, cap, hv, hl, _, hs⟩ := h p (List.mem_of_getElem? hp)
    unfold openEmb at h1
    rw [hp] at h1
    simp only [Option.bind_some, hv] at h1
    cases a with
    | none => cases h1
    | some a =>
      simp only [locOf] at h1
      split at h1
      · cases h1
      · rename_i hc
        cases h1
        rcases hs with hs | ⟨b1, off, cs, t, fr, ha, hh, hcell⟩
        · exact absurd hs hc
        · cases ha
          exact ⟨cs, t, fr, hh, hl, fun i hi => ⟨_, hcell i hi, rfl⟩, fun h => by cases h⟩
  · obtain ⟨_, _, rfl, _⟩ := row k1
    obtain ⟨_, _, rfl, _⟩ := row k2
    rcases ho with h | h <;> cases h
theorem open_rel {us : List (Value × List (BitVec 8))} {w : World} {i : Nat} {u : Value} {l : List (BitVec 8)} (hi : us[i]? = some (u, l)) (h : SlR w u l) : (AV.c (.sl i 0 l.length l.length 1)).rel (openEmb us) u := by
  obtain ⟨a, cap, rfl, hl, _, hs⟩ := h
  refine ⟨a, cap, rfl, hl, hl, ?_⟩
  rcases hs with hs | ⟨b1, off, cs, t, fr, rfl, hh, hcell⟩
  · exact .inl hs
  · by_cases hc : cap = 0
    · exact .inl hc
    · refine .inr ⟨⟨b1, off, cap⟩, ?_, rfl, by simp⟩
      unfold openEmb
      rw [hi]
      simp [locOf, hc]
theorem rel_bytes (ι : Emb) (l : List (BitVec 8)) : (AV.agg (.a8 l)).rel ι (.agg (cells U8 l)) := by
  refine ⟨cells U8 l, rfl, by simp [cells, Arr.size], fun i hi => ⟨U8 (nth l i), ?_, rfl⟩⟩
  have hi' : i < l.length := hi
  rw [Nat.zero_add, nth_eq l i hi']
  simp [cells, hi']
/-- A law's answer. -/
theorem law_calls {P : Program} {f : FuncId} {args : List AV} {m m' : Mem} {ι : Emb} {w : World} {vs : Array Value} (h : Ev P (.call f args m) (.val (.c (.val (.bool true))) m')) (hR : R ι m w) (ha : ArgsRel ι args vs.toList) (hro : ∀ c, ¬ Owned ι m c) :
    Calls P f vs w fun e w' => e = .returned (.bool true) ∧ Below w.heap.size w w' := by
  refine (sound h ι w vs hR ha).mono fun e w' hq => ?_
  obtain ⟨u, ι', rfl, hv, hs⟩ := hq
  have hu : u = .bool true := hv
  subst hu
  exact ⟨rfl, hs.trans.os, hs.trans.tape, hs.trans.output, hs.trans.size, fun c hc => hs.trans.keep c hc (hro c)⟩
theorem open_none {us : List (Value × List (BitVec 8))} {c : Nat} : ¬ Owned (openEmb us) (openMem us) c := by
  rintro ⟨b, l, x, _, h, _⟩
  unfold openMem at h
  rw [List.getElem?_map] at h
  obtain ⟨p, _, e⟩ := Option.map_eq_some_iff.1 h
  cases e
end Go.Proofs.Ytcjponmaeamjdaa
/- trystlaw05.AeadOpens (Drawn up by a program.) -/
namespace Go.Proofs.Ytcjponmaeamjdaa
open Go.RowKit

set_option maxRecDepth 100000 in
set_option maxHeartbeats 2000000 in
theorem aeadOpensS_ev (key : List (BitVec 8)) (nonce : List (BitVec 8)) (ad : List (BitVec 8)) (acap : Nat) (box : List (BitVec 8)) (bcap : Nat) (hkey : key.length = 32) (hnonce : nonce.length = 12) (h16 : box.length < 16) : Ev Try.prog (.call 4 [.agg (.a8 (key)), .agg (.a8 (nonce)), .c (.sl 0 0 ad.length acap 1), .c (.sl 1 0 box.length bcap 1)] [.row false (.a8 (ad)), .row false (.a8 (box))]) (.val (.c (.val (.bool (true)))) [.row false (.a8 (ad)), .row false (.a8 (box))]) := by
  refine c_call Try.func4 rfl Try.ntmps4 rfl LEN_ ?_
  refine S_ ?_
  refine c_region ?_
  refine s_memN (m_box BX_ LEN_) APP_ rfl ?_
  refine s_memN (m_box BX_ LEN_) APP_ rfl ?_
  refine s_val (v_assignC rfl) rfl ?_
  refine s_nil ?_
  by_cases hc1 : 1000 < ad.length
  · -- it is so
    refine S_ ?_
    refine c_region ?_
    refine s_val (v_moveC rfl) rfl ?_
    refine s_val (v_lenS rfl Try.underlying24) rfl ?_
    refine s_val (v_gtrN (b := 1000) rfl rfl) rfl ?_
    refine s_val (v_moveC rfl) rfl ?_
    refine s_no GO_ rfl ?_
    refine s_no GO_ rfl ?_
    refine s_no GO_ rfl ?_
    refine s_val (v_pickT rfl PK_ rfl) rfl ?_
    refine s_nil ?_
    refine S_ ?_
    refine c_region ?_
    refine s_val (v_assignC rfl) rfl ?_
    refine s_nil ?_
    refine S_ ?_
    exact k_1 (by first | exact r_tmpC rfl | exact r_tmpA rfl) (by first | kernel_rfl | rfl)
  · -- it is not so
    refine S_ ?_
    refine c_region ?_
    refine s_val (v_moveC rfl) rfl ?_
    refine s_val (v_lenS rfl Try.underlying24) rfl ?_
    refine s_val (v_gtrN (b := 1000) rfl rfl) rfl ?_
    refine s_val (v_moveC rfl) rfl ?_
    refine s_go GO_ ?_
    refine s_val (v_moveC rfl) rfl ?_
    refine s_go GO_ ?_
    refine s_val (v_lenS rfl Try.underlying24) rfl ?_
    refine s_go GO_ ?_
    refine s_val (v_gtrN (b := 1000) rfl rfl) rfl ?_
    refine s_val (v_pickF rfl PK_ rfl) rfl ?_
    refine s_nil ?_
    refine Q_ ?_
    by_cases hc2 : 1000 < box.length
    · try simp only [if_pos hc2] at *
      refine c_condT rfl (decide_eq_true hc2) ?_
      refine S_ ?_
      refine c_region ?_
      refine s_val (v_assignC rfl) rfl ?_
      refine s_nil ?_
      refine S_ ?_
      exact k_1 (by first | exact r_tmpC rfl | exact r_tmpA rfl) (by first | kernel_rfl | rfl)
    · try simp only [if_neg hc2] at *
      refine c_condF rfl (decide_eq_false hc2) ?_
      refine S_ ?_
      refine c_region ?_
      refine s_val (v_moveC rfl) rfl ?_
      refine s_evN (e_callR (bs := [0]) (twin_ev ad ad.length acap HYP_ HYP_) ok_8 (by kernel_rfl) (by kernel_rfl) rfl VAL_) APP_ rfl ?_
      refine s_val (v_moveC rfl) rfl ?_
      refine s_evN (e_callR (bs := [1]) (twin_ev box box.length bcap HYP_ HYP_) ok_8 (by kernel_rfl) (by kernel_rfl) rfl VAL_) APP_ rfl ?_
      refine s_val (v_assignC rfl) rfl ?_
      refine s_val (v_assignC rfl) rfl ?_
      refine s_nil ?_
      refine S_ ?_
      refine c_region ?_
      refine s_val (v_loadR rfl rfl row_22 sz_22 EQ_ (by decide)) rfl ?_
      refine s_val (v_loadR rfl rfl row_23 sz_23 EQ_ (by decide)) rfl ?_
      refine s_val (v_moveC rfl) rfl ?_
      refine s_val (v_moveC rfl) rfl ?_
      refine s_evN (e_callR (bs := [4,5]) (adOpenS_ev key nonce ad ad.length ad.length box box.length box.length HYP_ HYP_ HYP_ HYP_ HYP_ HYP_ HYP_ HYP_) ok_13 (by kernel_rfl) (by kernel_rfl) rfl VAL_) APP_ rfl ?_
      refine s_val (v_moveT rfl) rfl ?_
      refine s_val (v_extract rfl rfl) rfl ?_
      refine s_val (v_extract rfl rfl) rfl ?_
      refine s_val (v_assignC rfl) rfl ?_
      refine s_val (v_assignC rfl) rfl ?_
      refine s_nil ?_
      refine S_ ?_
      refine c_region ?_
      refine s_val (v_moveC rfl) rfl ?_
      refine s_val (v_moveC rfl) rfl ?_
      refine s_evN (e_callR (bs := [4,0]) (bytes_ev ad ad 0 0 ad.length ad.length acap HYP_ HYP_ HYP_ (fun _ _ => rfl)) ok_10 (by kernel_rfl) (by kernel_rfl) rfl VAL_) APP_ rfl ?_
      refine s_val (v_unnotB rfl) rfl ?_
      refine s_val (v_moveC rfl) rfl ?_
      refine s_go GO_ ?_
      refine s_val (v_moveC rfl) rfl ?_
      refine s_go GO_ ?_
      refine s_val (v_moveC rfl) rfl ?_
      refine s_go GO_ ?_
      refine s_evN (e_callR (bs := [5,1]) (bytes_ev box box 0 0 box.length box.length bcap HYP_ HYP_ HYP_ (fun _ _ => rfl)) ok_10 (by kernel_rfl) (by kernel_rfl) rfl VAL_) APP_ rfl ?_
      refine s_go GO_ ?_
      refine s_val (v_unnotB rfl) rfl ?_
      refine s_val (v_pickF rfl PK_ rfl) rfl ?_
      refine s_nil ?_
      refine S_ ?_
      refine c_region ?_
      refine s_val (v_moveC rfl) rfl ?_
      refine s_val (v_lenS rfl Try.underlying24) rfl ?_
      refine s_val (v_lssN (b := 16) rfl rfl) rfl ?_
      refine s_nil ?_
      refine S_ ?_
      refine c_region ?_
      refine s_val (v_moveC rfl) rfl ?_
      refine s_val (v_eqlN (a := 2) (b := 2) rfl rfl) rfl ?_
      refine s_val (v_moveC rfl) rfl ?_
      refine s_go GO_ ?_
      refine s_val (v_moveC rfl) rfl ?_
      refine s_go GO_ ?_
      refine s_val (v_lenN rfl Try.underlying24) rfl ?_
      refine s_go GO_ ?_
      refine s_val (v_eqlN (a := 0) (b := 0) rfl rfl) rfl ?_
      refine s_val (v_pickT rfl PK_ rfl) rfl ?_
      refine s_val (v_moveC rfl) rfl ?_
      refine s_go GO_ ?_
      refine s_evN (e_callR (wakes_ev) ok_12 rfl rfl rfl VAL_) APP_ rfl ?_
      refine s_val (v_pickT rfl PK_ rfl) rfl ?_
      refine s_val (v_assignC rfl) rfl ?_
      refine s_nil ?_
      refine S_ ?_
      exact k_1 (by first | exact r_tmpC rfl | exact r_tmpA rfl) (by first | kernel_rfl | rfl)
end Go.Proofs.Ytcjponmaeamjdaa
/- trystlaw05.AeadOpens (Drawn up by a program.) -/
namespace Go.Proofs.Ytcjponmaeamjdaa
open Go.RowKit

set_option maxRecDepth 100000 in
set_option maxHeartbeats 2000000 in
theorem aeadOpens_ev (key : List (BitVec 8)) (nonce : List (BitVec 8)) (ad : List (BitVec 8)) (acap : Nat) (box : List (BitVec 8)) (bcap : Nat) (hkey : key.length = 32) (hnonce : nonce.length = 12) (h16 : 16 ≤ box.length) (hE : rfTagA key nonce ad (cut box 0 (box.length - 16)) = cut box (box.length - 16) 16) : Ev Try.prog (.call 4 [.agg (.a8 (key)), .agg (.a8 (nonce)), .c (.sl 0 0 ad.length acap 1), .c (.sl 1 0 box.length bcap 1)] [.row false (.a8 (ad)), .row false (.a8 (box))]) (.val (.c (.val (.bool (true)))) [.row false (.a8 (ad)), .row false (.a8 (box))]) := by
  refine c_call Try.func4 rfl Try.ntmps4 rfl LEN_ ?_
  refine S_ ?_
  refine c_region ?_
  refine s_memN (m_box BX_ LEN_) APP_ rfl ?_
  refine s_memN (m_box BX_ LEN_) APP_ rfl ?_
  refine s_val (v_assignC rfl) rfl ?_
  refine s_nil ?_
  by_cases hc1 : 1000 < ad.length
  · -- it is so
    refine S_ ?_
    refine c_region ?_
    refine s_val (v_moveC rfl) rfl ?_
    refine s_val (v_lenS rfl Try.underlying24) rfl ?_
    refine s_val (v_gtrN (b := 1000) rfl rfl) rfl ?_
    refine s_val (v_moveC rfl) rfl ?_
    refine s_no GO_ rfl ?_
    refine s_no GO_ rfl ?_
    refine s_no GO_ rfl ?_
    refine s_val (v_pickT rfl PK_ rfl) rfl ?_
    refine s_nil ?_
    refine S_ ?_
    refine c_region ?_
    refine s_val (v_assignC rfl) rfl ?_
    refine s_nil ?_
    refine S_ ?_
    exact k_1 (by first | exact r_tmpC rfl | exact r_tmpA rfl) (by first | kernel_rfl | rfl)
  · -- it is not so
    refine S_ ?_
    refine c_region ?_
    refine s_val (v_moveC rfl) rfl ?_
    refine s_val (v_lenS rfl Try.underlying24) rfl ?_
    refine s_val (v_gtrN (b := 1000) rfl rfl) rfl ?_
    refine s_val (v_moveC rfl) rfl ?_
    refine s_go GO_ ?_
    refine s_val (v_moveC rfl) rfl ?_
    refine s_go GO_ ?_
    refine s_val (v_lenS rfl Try.underlying24) rfl ?_
    refine s_go GO_ ?_
    refine s_val (v_gtrN (b := 1000) rfl rfl) rfl ?_
    refine s_val (v_pickF rfl PK_ rfl) rfl ?_
    refine s_nil ?_
    refine Q_ ?_
    by_cases hc2 : 1000 < box.length
    · try simp only [if_pos hc2] at *
      refine c_condT rfl (decide_eq_true hc2) ?_
      refine S_ ?_
      refine c_region ?_
      refine s_val (v_assignC rfl) rfl ?_
      refine s_nil ?_
      refine S_ ?_
      exact k_1 (by first | exact r_tmpC rfl | exact r_tmpA rfl) (by first | kernel_rfl | rfl)
    · try simp only [if_neg hc2] at *
      refine c_condF rfl (decide_eq_false hc2) ?_
      refine S_ ?_
      refine c_region ?_
      refine s_val (v_moveC rfl) rfl ?_
      refine s_evN (e_callR (bs := [0]) (twin_ev ad ad.length acap HYP_ HYP_) ok_8 (by kernel_rfl) (by kernel_rfl) rfl VAL_) APP_ rfl ?_
      refine s_val (v_moveC rfl) rfl ?_
      refine s_evN (e_callR (bs := [1]) (twin_ev box box.length bcap HYP_ HYP_) ok_8 (by kernel_rfl) (by kernel_rfl) rfl VAL_) APP_ rfl ?_
      refine s_val (v_assignC rfl) rfl ?_
      refine s_val (v_assignC rfl) rfl ?_
      refine s_nil ?_
      have hQ3 : (rfOpen0 key nonce box).length = box.length - 16 := LQ_
      refine S_ ?_
      refine c_region ?_
      refine s_val (v_loadR rfl rfl row_22 sz_22 EQ_ (by decide)) rfl ?_
      refine s_val (v_loadR rfl rfl row_23 sz_23 EQ_ (by decide)) rfl ?_
      refine s_val (v_moveC rfl) rfl ?_
      refine s_val (v_moveC rfl) rfl ?_
      refine s_evN (e_callR (bs := [4,5]) (adOpenR_ev key nonce ad ad.length ad.length box box.length box.length HYP_ HYP_ HYP_ HYP_ HYP_ HYP_ HYP_ HYP_ HYP_ HYP_) ok_13 (by kernel_rfl) (by kernel_rfl) rfl VAL_) APP_ rfl ?_
      refine s_val (v_moveT rfl) rfl ?_
      refine s_val (v_extract rfl rfl) rfl ?_
      refine s_val (v_extract rfl rfl) rfl ?_
      refine s_val (v_assignC rfl) rfl ?_
      refine s_val (v_assignC rfl) rfl ?_
      refine s_nil ?_
      refine S_ ?_
      refine c_region ?_
      refine s_val (v_moveC rfl) rfl ?_
      refine s_val (v_moveC rfl) rfl ?_
      refine s_evN (e_callR (bs := [4,0]) (bytes_ev ad ad 0 0 ad.length ad.length acap HYP_ HYP_ HYP_ (fun _ _ => rfl)) ok_10 (by kernel_rfl) (by kernel_rfl) rfl VAL_) APP_ rfl ?_
      refine s_val (v_unnotB rfl) rfl ?_
      refine s_val (v_moveC rfl) rfl ?_
      refine s_go GO_ ?_
      refine s_val (v_moveC rfl) rfl ?_
      refine s_go GO_ ?_
      refine s_val (v_moveC rfl) rfl ?_
      refine s_go GO_ ?_
      refine s_evN (e_callR (bs := [5,1]) (bytes_ev box box 0 0 box.length box.length bcap HYP_ HYP_ HYP_ (fun _ _ => rfl)) ok_10 (by kernel_rfl) (by kernel_rfl) rfl VAL_) APP_ rfl ?_
      refine s_go GO_ ?_
      refine s_val (v_unnotB rfl) rfl ?_
      refine s_val (v_pickF rfl PK_ rfl) rfl ?_
      refine s_nil ?_
      refine S_ ?_
      refine c_region ?_
      refine s_val (v_moveC rfl) rfl ?_
      refine s_val (v_lenS rfl Try.underlying24) rfl ?_
      refine s_val (v_lssN (b := 16) rfl rfl) rfl ?_
      refine s_nil ?_
      have hQ4 : (rfOpen0 key nonce box).length = box.length - 16 := LQ_
      refine S_ ?_
      refine c_region ?_
      refine s_val (v_loadR rfl rfl row_22 sz_22 EQ_ (by decide)) rfl ?_
      refine s_val (v_loadR rfl rfl row_23 sz_23 EQ_ (by decide)) rfl ?_
      refine s_val (v_moveC rfl) rfl ?_
      refine s_val (v_moveC rfl) rfl ?_
      refine s_evN (e_callR (bs := [0,1]) (rfOpenR_ev key nonce ad ad.length acap box box.length bcap HYP_ HYP_ HYP_ HYP_ HYP_ HYP_ HYP_ HYP_) ok_14 (by kernel_rfl) (by kernel_rfl) rfl VAL_) APP_ rfl ?_
      refine s_val (v_moveT rfl) rfl ?_
      refine s_val (v_extract rfl rfl) rfl ?_
      refine s_val (v_extract rfl rfl) rfl ?_
      refine s_val (v_assignC rfl) rfl ?_
      refine s_val (v_assignC rfl) rfl ?_
      refine s_nil ?_
      refine S_ ?_
      refine c_region ?_
      refine s_val (v_moveC rfl) rfl ?_
      refine s_val (v_unnotB rfl) rfl ?_
      refine s_nil ?_
      refine S_ ?_
      refine c_region ?_
      refine s_val (v_moveC rfl) rfl ?_
      refine s_val (v_eqlN (a := 0) (b := 0) rfl rfl) rfl ?_
      refine s_val (v_moveC rfl) rfl ?_
      refine s_go GO_ ?_
      refine s_val (v_moveC rfl) rfl ?_
      refine s_go GO_ ?_
      refine s_val (v_moveC rfl) rfl ?_
      refine s_go GO_ ?_
      refine s_evN (e_callR (bs := [6,7]) (bytes_ev (rfOpen0 key nonce box) (rfOpen0 key nonce box) 0 0 (box.length - 16) (box.length - 16) (box.length - 16) HYP_ HYP_ HYP_ (fun _ _ => rfl)) ok_10 (by kernel_rfl) (by kernel_rfl) rfl VAL_) APP_ rfl ?_
      refine s_val (v_pickT rfl PK_ rfl) rfl ?_
      refine s_val (v_moveC rfl) rfl ?_
      refine s_go GO_ ?_
      refine s_evN (e_callR (wakes_ev) ok_12 rfl rfl rfl VAL_) APP_ rfl ?_
      refine s_val (v_pickT rfl PK_ rfl) rfl ?_
      refine s_val (v_assignC rfl) rfl ?_
      refine s_nil ?_
      refine S_ ?_
      exact k_1 (by first | exact r_tmpC rfl | exact r_tmpA rfl) (by first | kernel_rfl | rfl)
end Go.Proofs.Ytcjponmaeamjdaa
/- trystlaw05.AeadOpens (Drawn up by a program.) -/
namespace Go.Proofs.Ytcjponmaeamjdaa
open Go.RowKit

set_option maxRecDepth 100000 in
set_option maxHeartbeats 2000000 in
theorem aeadOpensE_ev (key : List (BitVec 8)) (nonce : List (BitVec 8)) (ad : List (BitVec 8)) (acap : Nat) (box : List (BitVec 8)) (bcap : Nat) (hkey : key.length = 32) (hnonce : nonce.length = 12) (h16 : 16 ≤ box.length) (hE : ¬ (rfTagA key nonce ad (cut box 0 (box.length - 16)) = cut box (box.length - 16) 16)) : Ev Try.prog (.call 4 [.agg (.a8 (key)), .agg (.a8 (nonce)), .c (.sl 0 0 ad.length acap 1), .c (.sl 1 0 box.length bcap 1)] [.row false (.a8 (ad)), .row false (.a8 (box))]) (.val (.c (.val (.bool (true)))) [.row false (.a8 (ad)), .row false (.a8 (box))]) := by
  refine c_call Try.func4 rfl Try.ntmps4 rfl LEN_ ?_
  refine S_ ?_
  refine c_region ?_
  refine s_memN (m_box BX_ LEN_) APP_ rfl ?_
  refine s_memN (m_box BX_ LEN_) APP_ rfl ?_
  refine s_val (v_assignC rfl) rfl ?_
  refine s_nil ?_
  by_cases hc1 : 1000 < ad.length
  · -- it is so
    refine S_ ?_
    refine c_region ?_
    refine s_val (v_moveC rfl) rfl ?_
    refine s_val (v_lenS rfl Try.underlying24) rfl ?_
    refine s_val (v_gtrN (b := 1000) rfl rfl) rfl ?_
    refine s_val (v_moveC rfl) rfl ?_
    refine s_no GO_ rfl ?_
    refine s_no GO_ rfl ?_
    refine s_no GO_ rfl ?_
    refine s_val (v_pickT rfl PK_ rfl) rfl ?_
    refine s_nil ?_
    refine S_ ?_
    refine c_region ?_
    refine s_val (v_assignC rfl) rfl ?_
    refine s_nil ?_
    refine S_ ?_
    exact k_1 (by first | exact r_tmpC rfl | exact r_tmpA rfl) (by first | kernel_rfl | rfl)
  · -- it is not so
    refine S_ ?_
    refine c_region ?_
    refine s_val (v_moveC rfl) rfl ?_
    refine s_val (v_lenS rfl Try.underlying24) rfl ?_
    refine s_val (v_gtrN (b := 1000) rfl rfl) rfl ?_
    refine s_val (v_moveC rfl) rfl ?_
    refine s_go GO_ ?_
    refine s_val (v_moveC rfl) rfl ?_
    refine s_go GO_ ?_
    refine s_val (v_lenS rfl Try.underlying24) rfl ?_
    refine s_go GO_ ?_
    refine s_val (v_gtrN (b := 1000) rfl rfl) rfl ?_
    refine s_val (v_pickF rfl PK_ rfl) rfl ?_
    refine s_nil ?_
    refine Q_ ?_
    by_cases hc2 : 1000 < box.length
    · try simp only [if_pos hc2] at *
      refine c_condT rfl (decide_eq_true hc2) ?_
      refine S_ ?_
      refine c_region ?_
      refine s_val (v_assignC rfl) rfl ?_
      refine s_nil ?_
      refine S_ ?_
      exact k_1 (by first | exact r_tmpC rfl | exact r_tmpA rfl) (by first | kernel_rfl | rfl)
    · try simp only [if_neg hc2] at *
      refine c_condF rfl (decide_eq_false hc2) ?_
      refine S_ ?_
      refine c_region ?_
      refine s_val (v_moveC rfl) rfl ?_
      refine s_evN (e_callR (bs := [0]) (twin_ev ad ad.length acap HYP_ HYP_) ok_8 (by kernel_rfl) (by kernel_rfl) rfl VAL_) APP_ rfl ?_
      refine s_val (v_moveC rfl) rfl ?_
      refine s_evN (e_callR (bs := [1]) (twin_ev box box.length bcap HYP_ HYP_) ok_8 (by kernel_rfl) (by kernel_rfl) rfl VAL_) APP_ rfl ?_
      refine s_val (v_assignC rfl) rfl ?_
      refine s_val (v_assignC rfl) rfl ?_
      refine s_nil ?_
      refine S_ ?_
      refine c_region ?_
      refine s_val (v_loadR rfl rfl row_22 sz_22 EQ_ (by decide)) rfl ?_
      refine s_val (v_loadR rfl rfl row_23 sz_23 EQ_ (by decide)) rfl ?_
      refine s_val (v_moveC rfl) rfl ?_
      refine s_val (v_moveC rfl) rfl ?_
      refine s_evN (e_callR (bs := [4,5]) (adOpenRE_ev key nonce ad ad.length ad.length box box.length box.length HYP_ HYP_ HYP_ HYP_ HYP_ HYP_ HYP_ HYP_ HYP_ HYP_) ok_13 (by kernel_rfl) (by kernel_rfl) rfl VAL_) APP_ rfl ?_
      refine s_val (v_moveT rfl) rfl ?_
      refine s_val (v_extract rfl rfl) rfl ?_
      refine s_val (v_extract rfl rfl) rfl ?_
      refine s_val (v_assignC rfl) rfl ?_
      refine s_val (v_assignC rfl) rfl ?_
      refine s_nil ?_
      refine S_ ?_
      refine c_region ?_
      refine s_val (v_moveC rfl) rfl ?_
      refine s_val (v_moveC rfl) rfl ?_
      refine s_evN (e_callR (bs := [4,0]) (bytes_ev ad ad 0 0 ad.length ad.length acap HYP_ HYP_ HYP_ (fun _ _ => rfl)) ok_10 (by kernel_rfl) (by kernel_rfl) rfl VAL_) APP_ rfl ?_
      refine s_val (v_unnotB rfl) rfl ?_
      refine s_val (v_moveC rfl) rfl ?_
      refine s_go GO_ ?_
      refine s_val (v_moveC rfl) rfl ?_
      refine s_go GO_ ?_
      refine s_val (v_moveC rfl) rfl ?_
      refine s_go GO_ ?_
      refine s_evN (e_callR (bs := [5,1]) (bytes_ev box box 0 0 box.length box.length bcap HYP_ HYP_ HYP_ (fun _ _ => rfl)) ok_10 (by kernel_rfl) (by kernel_rfl) rfl VAL_) APP_ rfl ?_
      refine s_go GO_ ?_
      refine s_val (v_unnotB rfl) rfl ?_
      refine s_val (v_pickF rfl PK_ rfl) rfl ?_
      refine s_nil ?_
      refine S_ ?_
      refine c_region ?_
      refine s_val (v_moveC rfl) rfl ?_
      refine s_val (v_lenS rfl Try.underlying24) rfl ?_
      refine s_val (v_lssN (b := 16) rfl rfl) rfl ?_
      refine s_nil ?_
      refine S_ ?_
      refine c_region ?_
      refine s_val (v_loadR rfl rfl row_22 sz_22 EQ_ (by decide)) rfl ?_
      refine s_val (v_loadR rfl rfl row_23 sz_23 EQ_ (by decide)) rfl ?_
      refine s_val (v_moveC rfl) rfl ?_
      refine s_val (v_moveC rfl) rfl ?_
      refine s_evN (e_callR (bs := [0,1]) (rfOpenRE_ev key nonce ad ad.length acap box box.length bcap HYP_ HYP_ HYP_ HYP_ HYP_ HYP_ HYP_ HYP_) ok_14 (by kernel_rfl) (by kernel_rfl) rfl VAL_) APP_ rfl ?_
      refine s_val (v_moveT rfl) rfl ?_
      refine s_val (v_extract rfl rfl) rfl ?_
      refine s_val (v_extract rfl rfl) rfl ?_
      refine s_val (v_assignC rfl) rfl ?_
      refine s_val (v_assignC rfl) rfl ?_
      refine s_nil ?_
      refine S_ ?_
      refine c_region ?_
      refine s_val (v_moveC rfl) rfl ?_
      refine s_val (v_unnotB rfl) rfl ?_
      refine s_nil ?_
      refine S_ ?_
      refine c_region ?_
      refine s_val (v_moveC rfl) rfl ?_
      refine s_val (v_eqlN (a := 3) (b := 3) rfl rfl) rfl ?_
      refine s_val (v_moveC rfl) rfl ?_
      refine s_go GO_ ?_
      refine s_val (v_moveC rfl) rfl ?_
      refine s_go GO_ ?_
      refine s_val (v_lenN rfl Try.underlying24) rfl ?_
      refine s_go GO_ ?_
      refine s_val (v_eqlN (a := 0) (b := 0) rfl rfl) rfl ?_
      refine s_val (v_pickT rfl PK_ rfl) rfl ?_
      refine s_val (v_moveC rfl) rfl ?_
      refine s_go GO_ ?_
      refine s_evN (e_callR (wakes_ev) ok_12 rfl rfl rfl VAL_) APP_ rfl ?_
      refine s_val (v_pickT rfl PK_ rfl) rfl ?_
      refine s_val (v_assignC rfl) rfl ?_
      refine s_nil ?_
      refine S_ ?_
      exact k_1 (by first | exact r_tmpC rfl | exact r_tmpA rfl) (by first | kernel_rfl | rfl)
end Go.Proofs.Ytcjponmaeamjdaa
/- trystlaw05.AeadOpens, all cases. -/
namespace Go.Proofs.Ytcjponmaeamjdaa
open Go.RowKit
theorem aeadOpensAll_ev (key : List (BitVec 8)) (nonce : List (BitVec 8)) (ad : List (BitVec 8)) (acap : Nat) (box : List (BitVec 8)) (bcap : Nat) (hkey : key.length = 32) (hnonce : nonce.length = 12) : Ev Try.prog (.call 4 [.agg (.a8 (key)), .agg (.a8 (nonce)), .c (.sl 0 0 ad.length acap 1), .c (.sl 1 0 box.length bcap 1)] [.row false (.a8 (ad)), .row false (.a8 (box))]) (.val (.c (.val (.bool (true)))) [.row false (.a8 (ad)), .row false (.a8 (box))]) := by
  by_cases h : box.length < 16
  · exact aeadOpensS_ev key nonce ad acap box bcap hkey hnonce h
  · by_cases hE : rfTagA key nonce ad (cut box 0 (box.length - 16)) = cut box (box.length - 16) 16
    · exact aeadOpens_ev key nonce ad acap box bcap hkey hnonce (by omega) hE
    · exact aeadOpensE_ev key nonce ad acap box bcap hkey hnonce (by omega) hE
end Go.Proofs.Ytcjponmaeamjdaa
/- trystkeep.SpoilBytes (Drawn up by a program.) -/
namespace Go.Proofs.Ytcjponmaeamjdaa
open Go.RowKit
def spoilB_L1_S (X1 : List (BitVec 8)) (j1 : Nat) : List (BitVec 8) := put X1 j1 ((nth X1 j1) + 101#8)
def spoilB_L1 (t : List (BitVec 8)) : Nat → List (BitVec 8)
  | 0 => t
  | j1 + 1 => spoilB_L1_S (spoilB_L1 t j1) j1
@[simp] theorem spoilB_L1_len (t : List (BitVec 8)) (j1 : Nat) : (spoilB_L1 t j1).length = t.length := by
  induction j1 with
  | zero => first | (simp [spoilB_L1, *]; done) | (simp [spoilB_L1, *]; omega)
  | succ j1 ih => rw [spoilB_L1.eq_2, spoilB_L1_S]; first | (simp [ih]; done) | (simp [ih]; omega) | (simp [*]; done) | (simp [*]; omega) | (split <;> first | (simp [ih]; done) | (simp [ih]; omega) | (simp [*]; done))
def spoilB (t : List (BitVec 8)) : List (BitVec 8) := (spoilB_L1 t t.length)
set_option maxRecDepth 100000 in
set_option maxHeartbeats 2000000 in
theorem spoilB_ev (t : List (BitVec 8)) (n : Nat) (cap : Nat) (ht : t.length = n) (hn : n ≤ 1099511627776) : Ev Try.prog (.call 15 [.c (.sl 0 0 n cap 1)] [.row true (.a8 (t))]) (.val (.tup []) [.row true (.a8 (spoilB t))]) := by
  have hP_spoilB : Hid (spoilB t = (spoilB_L1 t t.length)) := ⟨rfl⟩
  subst ht
  refine c_call Try.func15 rfl Try.ntmps15 rfl LEN_ ?_
  refine S_ ?_
  refine c_region ?_
  refine s_val (v_assignC rfl) rfl ?_
  refine s_nil ?_
  refine S_ ?_
  refine c_loopC [0, 2] (fun (zz : Nat × List (BitVec 8)) => ⟨17, keepT [0, 2] [.c (.sl 0 0 t.length cap 1), .c (.val (.int .i64 (((zz.1 : Nat) : Int))))], [.row true (.a8 (zz.2))]⟩) (fun j1 => (j1, spoilB_L1 t j1)) (t.length) (by kernel_rfl) ?_ ?_
  · intro j1 hj1
    try dsimp only
    have hX1 : (spoilB_L1 t j1).length = t.length := by rw [spoilB_L1_len t _]; try omega
    rw [spoilB_L1.eq_2, spoilB_L1_S]
    generalize spoilB_L1 t j1 = X1 at *
    refine S_ ?_
    refine c_region ?_
    refine s_val (v_moveC rfl) rfl ?_
    refine s_val (v_moveC rfl) rfl ?_
    refine s_val (v_lenS rfl Try.underlying24) rfl ?_
    refine s_val (v_lssN rfl rfl) rfl ?_
    refine s_nil ?_
    refine S_ ?_
    refine c_region ?_
    refine s_val (v_moveC rfl) rfl ?_
    refine s_val (v_moveC rfl) rfl ?_
    refine s_val (v_moveC rfl) rfl ?_
    refine s_val (v_moveC rfl) rfl ?_
    refine s_val (v_idxS1 rfl rfl Try.underlying24 sz_5 (by omega)) rfl ?_
    refine s_val (v_load8 rfl rfl row_5 LT_) rfl ?_
    refine s_val (v_add8 (b := 101#8) rfl rfl) rfl ?_
    refine s_val (v_idxS1 rfl rfl Try.underlying24 sz_5 (by omega)) rfl ?_
    refine s_store8 rfl rfl rfl sz_5 LT_ SET_ ?_
    refine s_nil ?_
    refine S_ ?_
    refine c_region ?_
    refine s_val (v_moveC rfl) rfl ?_
    refine s_val (v_addN (b := 1) rfl rfl (by omega)) rfl ?_
    refine s_val (v_assignC rfl) rfl ?_
    refine s_nil ?_
    exact ⟨(j1 + 1, _), by kernel_rfl, rfl⟩
  · try dsimp only
    have hY2 : (spoilB_L1 t t.length).length = t.length := by rw [spoilB_L1_len t _]; try omega
    generalize spoilB_L1 t t.length = Y2 at *
    refine S_ ?_
    refine c_region ?_
    refine s_val (v_moveC rfl) rfl ?_
    refine s_val (v_moveC rfl) rfl ?_
    refine s_val (v_lenS rfl Try.underlying24) rfl ?_
    refine s_val (v_lssN rfl rfl) rfl ?_
    refine s_nil ?_
    refine S_ ?_
    rw [hP_spoilB.out]
    exact k_0e (by first | exact .inl rfl | exact .inr rfl) (by first | kernel_rfl | rfl)

@[simp] theorem spoilB_len (t : List (BitVec 8)) : (spoilB t).length = t.length := by
  unfold spoilB
  first | (simp [spoilB_L1_len, *]; done) | (simp [spoilB_L1_len, *]; omega)

attribute [irreducible] spoilB
end Go.Proofs.Ytcjponmaeamjdaa
