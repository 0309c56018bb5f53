/- The walk of poly.tag. -/
import Derived.Test.YtlphiohgehkjlaaPCarry
import Derived.Test.YtlphiohgehkjlaaPLow
namespace Go.Proofs.Ytlphiohgehkjlaa
open Go.RowKit
theorem addC_le (x y c : BitVec 64) (h : c.toNat ≤ 1) : (addC x y c).toNat ≤ 1 := by
  unfold addC
  rw [BitVec.toNat_ofNat]
  have := x.isLt
  have := y.isLt
  omega
/-- What is left of the number, below the modulus. -/
def modL (h : List (BitVec 64)) : List (BitVec 64) :=
  if 0 < (carrySt (put (carriedL (carriedL (carriedL h))) 0 (nth (carriedL (carriedL (carriedL h))) 0 + 5#64)) 5).2.toNat
  then (carrySt (put (carriedL (carriedL (carriedL h))) 0 (nth (carriedL (carriedL (carriedL h))) 0 + 5#64)) 5).1 else carriedL (carriedL (carriedL h))
def loL (h : List (BitVec 64)) : BitVec 64 := (nth h 0 ||| (nth h 1 <<< 26)) ||| (nth h 2 <<< 52)
def hiL (h : List (BitVec 64)) : BitVec 64 := ((nth h 2 >>> 12) ||| (nth h 3 <<< 14)) ||| (nth h 4 <<< 40)
def sixteen (lo hi : BitVec 64) : Nat → List (BitVec 8)
  | 0 => zer8 16
  | k + 1 => put (put (sixteen lo hi k) k ((lo >>> (8 * k)).setWidth 8)) (8 + k) ((hi >>> (8 * k)).setWidth 8)
theorem sixteen_length (lo hi : BitVec 64) (k : Nat) : (sixteen lo hi k).length = 16 := by
  induction k with
  | zero => rfl
  | succ k ih => simp [sixteen, ih]
def tagEnd (h : List (BitVec 64)) (key : List (BitVec 8)) : List (BitVec 8) :=
  sixteen (loL (modL h) + lowAt key 16 8 + 0#64) (hiL (modL h) + lowAt key 24 8 + addC (loL (modL h)) (lowAt key 16 8) 0#64) 8
theorem tagEnd_eq (h : List (BitVec 64)) (key : List (BitVec 8)) : tagEnd h key = sixteen (loL (modL h) + lowAt key 16 8 + 0#64) (hiL (modL h) + lowAt key 24 8 + addC (loL (modL h)) (lowAt key 16 8) 0#64) 8 := rfl
@[simp] theorem tagEnd_length (h : List (BitVec 64)) (key : List (BitVec 8)) : (tagEnd h key).length = 16 := by rw [tagEnd_eq, sixteen_length]
theorem modL_eq (h S : List (BitVec 64)) (e : carriedL (carriedL (carriedL h)) = S) : modL h = if 0 < (carrySt (put S 0 (nth S 0 + 5#64)) 5).2.toNat then (carrySt (put S 0 (nth S 0 + 5#64)) 5).1 else S := by subst e; rfl
theorem modL_length (h : List (BitVec 64)) : (modL h).length = h.length := by
  unfold modL
  split <;> simp [carrySt_length]
attribute [irreducible] tagEnd loL hiL modL
attribute [local irreducible] lowAt
set_option maxRecDepth 100000 in
set_option maxHeartbeats 1000000 in
theorem tag_ev (h : List (BitVec 64)) (key : List (BitVec 8)) (hh : h.length = 5) (hk : key.length = 32) : Ev Try.prog (.call 14 [.agg (.a64 h), .agg (.a8 key)] []) (.val (.agg (.a8 (tagEnd h key))) []) := by
  have hS : (carriedL (carriedL (carriedL h))).length = 5 := by simp [hh]
  have hM := modL_eq h _ rfl
  have hE := tagEnd_eq h key
  refine c_call Try.func14 rfl Try.ntmps14 rfl LEN_ ?_
  refine S_ ?_
  refine c_region ?_
  refine s_memN (m_box BX_ LEN_) APP_ rfl ?_
  refine s_memN (m_box BX_ LEN_) APP_ rfl ?_
  refine s_memN (m_alloc al_25 LEN_) APP_ rfl ?_
  refine s_nil ?_
  refine S_ ?_
  refine c_region ?_
  refine s_val (v_loadR rfl rfl row_38 sz_38 EQ_ (by decide)) rfl ?_
  refine s_evN (e_callR (carried_ev _ hh) ok_17 rfl rfl rfl VAL_) APP_ rfl ?_
  refine s_evN (e_callR (carried_ev _ (by simp [hh])) ok_17 rfl rfl rfl VAL_) APP_ rfl ?_
  refine s_evN (e_callR (carried_ev _ (by simp [hh])) ok_17 rfl rfl rfl VAL_) APP_ rfl ?_
  refine s_storeR rfl rfl rfl rfl sz_38 EQ_ EQ_ SET_ ?_
  refine s_nil ?_
  generalize carriedL (carriedL (carriedL h)) = S at *
  refine S_ ?_
  refine c_region ?_
  refine s_val (v_loadR rfl rfl row_38 sz_38 EQ_ (by decide)) rfl ?_
  refine s_memN (m_alloc al_38 LEN_) APP_ rfl ?_
  refine s_storeR rfl rfl rfl rfl sz_38 EQ_ EQ_ SET_ ?_
  refine s_nil ?_
  refine S_ ?_
  refine c_region ?_
  first
    | refine s_val (v_idxA1 (j := 0) rfl rfl Try.underlying38 sz_36 (by omega)) rfl ?_
    | refine s_val (v_idxA (j := 0) rfl rfl Try.underlying38 sz_36 (by omega)) rfl ?_
  refine s_val (v_load64 rfl rfl row_36 LT_) rfl ?_
  refine s_val (v_add64 (b := 5#64) rfl rfl) rfl ?_
  first
    | refine s_val (v_idxA1 (j := 0) rfl rfl Try.underlying38 sz_36 (by omega)) rfl ?_
    | refine s_val (v_idxA (j := 0) rfl rfl Try.underlying38 sz_36 (by omega)) rfl ?_
  refine s_store64 rfl rfl rfl sz_36 LT_ SET_ ?_
  refine s_nil ?_
  refine S_ ?_
  refine c_region ?_
  refine s_val (v_assignC rfl) rfl ?_
  refine s_nil ?_
  refine S_ ?_
  refine c_region ?_
  refine s_val (v_moveC rfl) rfl ?_
  refine s_nil ?_
  refine S_ ?_
  refine c_loopC [2, 3, 4, 5, 6, 21] (fun (x : Nat × List (BitVec 64) × BitVec 64) => ⟨99, keepT [2, 3, 4, 5, 6, 21] [.c (.ptr 0 0), .c (.ptr 1 0), .c (.ptr 2 0), .c (.ptr 3 0), .c (.val (U64 (x.2.2))), .c (.val (.int .i64 (x.1)))], [.row true (.a64 (S)), .row true (.a8 (key)), .row true (.a8 (zer8 16)), .row true (.a64 (x.2.1))]⟩) (fun j => (j, carrySt (put S 0 (nth S 0 + 5#64)) j)) (5) (by kernel_rfl) ?_ ?_
  · intro j hj
    have h1 : (carrySt (put S 0 (nth S 0 + 5#64)) j).1.length = 5 := by rw [carrySt_length, put_length, hS]
    rw [carrySt_succ]
    generalize carrySt (put S 0 (nth S 0 + 5#64)) j = U at *
    obtain ⟨U, C⟩ := U
    dsimp only at h1 ⊢
    refine S_ ?_
    refine c_region ?_
    first
      | refine s_val (v_lssN (b := 5) rfl rfl) rfl ?_
      | refine s_val (v_lssI rfl rfl) rfl ?_
    refine s_nil ?_
    refine S_ ?_
    refine c_region ?_
    first
      | refine s_val (v_moveC rfl) rfl ?_
      | refine s_val (v_moveA rfl) rfl ?_
      | refine s_val (v_moveT rfl) rfl ?_
    first
      | refine s_val (v_assignC rfl) rfl ?_
      | refine s_val (v_assignA rfl) rfl ?_
      | refine s_val (v_assignT rfl) rfl ?_
    refine s_nil ?_
    refine S_ ?_
    refine c_region ?_
    first
      | refine s_val (v_moveC rfl) rfl ?_
      | refine s_val (v_moveA rfl) rfl ?_
      | refine s_val (v_moveT rfl) rfl ?_
    first
      | refine s_val (v_idxA1 rfl rfl Try.underlying38 sz_36 (by omega)) rfl ?_
      | refine s_val (v_idxA rfl rfl Try.underlying38 sz_36 (by omega)) rfl ?_
    refine s_val (v_load64 rfl rfl row_36 LT_) rfl ?_
    first
      | refine s_val (v_moveC rfl) rfl ?_
      | refine s_val (v_moveA rfl) rfl ?_
      | refine s_val (v_moveT rfl) rfl ?_
    refine s_val (v_add64 rfl rfl) rfl ?_
    first
      | refine s_val (v_idxA1 rfl rfl Try.underlying38 sz_36 (by omega)) rfl ?_
      | refine s_val (v_idxA rfl rfl Try.underlying38 sz_36 (by omega)) rfl ?_
    refine s_store64 rfl rfl rfl sz_36 LT_ SET_ ?_
    refine s_nil ?_
    refine S_ ?_
    refine c_region ?_
    first
      | refine s_val (v_moveC rfl) rfl ?_
      | refine s_val (v_moveA rfl) rfl ?_
      | refine s_val (v_moveT rfl) rfl ?_
    first
      | refine s_val (v_idxA1 rfl rfl Try.underlying38 sz_36 (by omega)) rfl ?_
      | refine s_val (v_idxA rfl rfl Try.underlying38 sz_36 (by omega)) rfl ?_
    refine s_val (v_load64 rfl rfl row_36 LT_) rfl ?_
    refine s_val (v_shr64n (j := 26) rfl rfl) rfl ?_
    first
      | refine s_val (v_assignC rfl) rfl ?_
      | refine s_val (v_assignA rfl) rfl ?_
      | refine s_val (v_assignT rfl) rfl ?_
    refine s_nil ?_
    refine S_ ?_
    refine c_region ?_
    first
      | refine s_val (v_moveC rfl) rfl ?_
      | refine s_val (v_moveA rfl) rfl ?_
      | refine s_val (v_moveT rfl) rfl ?_
    first
      | refine s_val (v_idxA1 rfl rfl Try.underlying38 sz_36 (by omega)) rfl ?_
      | refine s_val (v_idxA rfl rfl Try.underlying38 sz_36 (by omega)) rfl ?_
    refine s_val (v_load64 rfl rfl row_36 LT_) rfl ?_
    refine s_val (v_and64 (b := 67108863#64) rfl rfl) rfl ?_
    first
      | refine s_val (v_idxA1 rfl rfl Try.underlying38 sz_36 (by omega)) rfl ?_
      | refine s_val (v_idxA rfl rfl Try.underlying38 sz_36 (by omega)) rfl ?_
    refine s_store64 rfl rfl rfl sz_36 LT_ SET_ ?_
    refine s_nil ?_
    refine S_ ?_
    refine c_region ?_
    first
      | refine s_val (v_addN (b := 1) rfl rfl (by omega)) rfl ?_
      | refine s_val (v_addI rfl rfl (by omega)) rfl ?_
    first
      | refine s_val (v_moveC rfl) rfl ?_
      | refine s_val (v_moveA rfl) rfl ?_
      | refine s_val (v_moveT rfl) rfl ?_
    refine s_nil ?_
    refine ⟨(_, _, _), rfl, ?_⟩
    simp only [set_put, put_again, nth_put _ _ _ _ (show j < U.length by omega), if_true]
  · have h1 : (carrySt (put S 0 (nth S 0 + 5#64)) 5).1.length = 5 := by rw [carrySt_length, put_length, hS]
    generalize carrySt (put S 0 (nth S 0 + 5#64)) 5 = U at *
    obtain ⟨U, C⟩ := U
    dsimp only at h1 hM ⊢
    refine S_ ?_
    refine c_region ?_
    first
      | refine s_val (v_lssN (b := 5) rfl rfl) rfl ?_
      | refine s_val (v_lssI rfl rfl) rfl ?_
    refine s_nil ?_
    refine S_ ?_
    refine c_region ?_
    first
      | refine s_val (v_moveC rfl) rfl ?_
      | refine s_val (v_moveA rfl) rfl ?_
      | refine s_val (v_moveT rfl) rfl ?_
    refine s_val (v_gtr64 (b := 0#64) rfl rfl) rfl ?_
    refine s_nil ?_
    refine Q_ ?_
    refine c_join [2, 3, 4] (fun (x : List (BitVec 64)) => ⟨99, keepT [2, 3, 4] [.c (.ptr 0 0), .c (.ptr 1 0), .c (.ptr 2 0)], [.row true (.a64 (x)), .row true (.a8 (key)), .row true (.a8 (zer8 16))]⟩) (modL h) rfl (fun hb => ?_) (fun hb => ?_) ?_
    · refine S_ ?_
      refine S_ ?_
      refine c_region ?_
      refine s_val (v_loadR rfl rfl row_38 sz_38 EQ_ (by decide)) rfl ?_
      refine s_storeR rfl rfl rfl rfl sz_38 EQ_ EQ_ SET_ ?_
      refine s_nil ?_
      refine ⟨_, rfl, ?_⟩
      rw [hM, if_pos (show 0 < C.toNat from of_decide_eq_true hb)]
    · refine S_ ?_
      refine ⟨_, rfl, ?_⟩
      rw [hM, if_neg (show ¬ 0 < C.toNat from of_decide_eq_false hb)]
    have hL : (modL h).length = 5 := by rw [modL_length, hh]
    have hlo : loL (modL h) = (nth (modL h) 0 ||| (nth (modL h) 1 <<< 26)) ||| (nth (modL h) 2 <<< 52) := by with_unfolding_all rfl
    have hhi : hiL (modL h) = ((nth (modL h) 2 >>> 12) ||| (nth (modL h) 3 <<< 14)) ||| (nth (modL h) 4 <<< 40) := by with_unfolding_all rfl
    rw [hlo, hhi] at hE
    clear hM hlo hhi
    generalize modL h = U at *
    refine S_ ?_
    refine c_region ?_
    first
      | refine s_val (v_idxA1 (j := 0) rfl rfl Try.underlying38 sz_36 (by omega)) rfl ?_
      | refine s_val (v_idxA (j := 0) rfl rfl Try.underlying38 sz_36 (by omega)) rfl ?_
    refine s_val (v_load64 rfl rfl row_36 LT_) rfl ?_
    first
      | refine s_val (v_idxA1 (j := 1) rfl rfl Try.underlying38 sz_36 (by omega)) rfl ?_
      | refine s_val (v_idxA (j := 1) rfl rfl Try.underlying38 sz_36 (by omega)) rfl ?_
    refine s_val (v_load64 rfl rfl row_36 LT_) rfl ?_
    refine s_val (v_shl64n (j := 26) rfl rfl) rfl ?_
    refine s_val (v_or64 rfl rfl) rfl ?_
    first
      | refine s_val (v_idxA1 (j := 2) rfl rfl Try.underlying38 sz_36 (by omega)) rfl ?_
      | refine s_val (v_idxA (j := 2) rfl rfl Try.underlying38 sz_36 (by omega)) rfl ?_
    refine s_val (v_load64 rfl rfl row_36 LT_) rfl ?_
    refine s_val (v_shl64n (j := 52) rfl rfl) rfl ?_
    refine s_val (v_or64 rfl rfl) rfl ?_
    first
      | refine s_val (v_assignC rfl) rfl ?_
      | refine s_val (v_assignA rfl) rfl ?_
      | refine s_val (v_assignT rfl) rfl ?_
    refine s_nil ?_
    refine S_ ?_
    refine c_region ?_
    first
      | refine s_val (v_idxA1 (j := 2) rfl rfl Try.underlying38 sz_36 (by omega)) rfl ?_
      | refine s_val (v_idxA (j := 2) rfl rfl Try.underlying38 sz_36 (by omega)) rfl ?_
    refine s_val (v_load64 rfl rfl row_36 LT_) rfl ?_
    refine s_val (v_shr64n (j := 12) rfl rfl) rfl ?_
    first
      | refine s_val (v_idxA1 (j := 3) rfl rfl Try.underlying38 sz_36 (by omega)) rfl ?_
      | refine s_val (v_idxA (j := 3) rfl rfl Try.underlying38 sz_36 (by omega)) rfl ?_
    refine s_val (v_load64 rfl rfl row_36 LT_) rfl ?_
    refine s_val (v_shl64n (j := 14) rfl rfl) rfl ?_
    refine s_val (v_or64 rfl rfl) rfl ?_
    first
      | refine s_val (v_idxA1 (j := 4) rfl rfl Try.underlying38 sz_36 (by omega)) rfl ?_
      | refine s_val (v_idxA (j := 4) rfl rfl Try.underlying38 sz_36 (by omega)) rfl ?_
    refine s_val (v_load64 rfl rfl row_36 LT_) rfl ?_
    refine s_val (v_shl64n (j := 40) rfl rfl) rfl ?_
    refine s_val (v_or64 rfl rfl) rfl ?_
    first
      | refine s_val (v_assignC rfl) rfl ?_
      | refine s_val (v_assignA rfl) rfl ?_
      | refine s_val (v_assignT rfl) rfl ?_
    refine s_nil ?_
    refine S_ ?_
    refine c_region ?_
    first
      | refine s_val (v_moveC rfl) rfl ?_
      | refine s_val (v_moveA rfl) rfl ?_
      | refine s_val (v_moveT rfl) rfl ?_
    first
      | refine s_val (v_slA1 (l := 16) (h := 24) (len := 8) (cp := 16) rfl Try.underlying22 sz_5 rfl rfl rfl (by omega) (by omega) FIT_ rfl rfl) rfl ?_
      | refine s_val (v_slA (l := 16) (h := 24) rfl Try.underlying22 sz_5 rfl rfl rfl (by omega) (by omega) FIT_) rfl ?_
    refine s_evN (e_callR (low_ev key _ 8 _ (by omega) (by omega)) ok_16 rfl rfl rfl VAL_) APP_ rfl ?_
    refine s_evN (e_add ext_18 rfl rfl rfl (c := 0#64) rfl (by decide)) APP_ rfl ?_
    first
      | refine s_val (v_moveC rfl) rfl ?_
      | refine s_val (v_moveA rfl) rfl ?_
      | refine s_val (v_moveT rfl) rfl ?_
    refine s_val (v_extract rfl rfl) rfl ?_
    refine s_val (v_extract rfl rfl) rfl ?_
    first
      | refine s_val (v_assignC rfl) rfl ?_
      | refine s_val (v_assignA rfl) rfl ?_
      | refine s_val (v_assignT rfl) rfl ?_
    first
      | refine s_val (v_assignC rfl) rfl ?_
      | refine s_val (v_assignA rfl) rfl ?_
      | refine s_val (v_assignT rfl) rfl ?_
    refine s_nil ?_
    refine S_ ?_
    refine c_region ?_
    first
      | refine s_val (v_moveC rfl) rfl ?_
      | refine s_val (v_moveA rfl) rfl ?_
      | refine s_val (v_moveT rfl) rfl ?_
    first
      | refine s_val (v_slA1 (l := 24) (h := 32) (len := 8) (cp := 8) rfl Try.underlying22 sz_5 rfl rfl rfl (by omega) (by omega) FIT_ rfl rfl) rfl ?_
      | refine s_val (v_slA (l := 24) (h := 32) rfl Try.underlying22 sz_5 rfl rfl rfl (by omega) (by omega) FIT_) rfl ?_
    refine s_evN (e_callR (low_ev key _ 8 _ (by omega) (by omega)) ok_16 rfl rfl rfl VAL_) APP_ rfl ?_
    first
      | refine s_val (v_moveC rfl) rfl ?_
      | refine s_val (v_moveA rfl) rfl ?_
      | refine s_val (v_moveT rfl) rfl ?_
    refine s_evN (e_add ext_18 rfl rfl rfl rfl (addC_le _ _ _ (by decide))) APP_ rfl ?_
    first
      | refine s_val (v_moveC rfl) rfl ?_
      | refine s_val (v_moveA rfl) rfl ?_
      | refine s_val (v_moveT rfl) rfl ?_
    refine s_val (v_extract rfl rfl) rfl ?_
    refine s_val (v_extract rfl rfl) rfl ?_
    first
      | refine s_val (v_assignC rfl) rfl ?_
      | refine s_val (v_assignA rfl) rfl ?_
      | refine s_val (v_assignT rfl) rfl ?_
    refine s_nil ?_
    refine S_ ?_
    refine c_region ?_
    refine s_memN (m_alloc al_25 LEN_) APP_ rfl ?_
    refine s_nil ?_
    refine S_ ?_
    refine c_region ?_
    refine s_val (v_moveC rfl) rfl ?_
    refine s_nil ?_
    rw [hE]
    generalize (nth U 0 ||| nth U 1 <<< 26 ||| nth U 2 <<< 52) + lowAt key 16 8 + 0#64 = lo
    generalize (nth U 2 >>> 12 ||| nth U 3 <<< 14 ||| nth U 4 <<< 40) + lowAt key 24 8 + addC (nth U 0 ||| nth U 1 <<< 26 ||| nth U 2 <<< 52) (lowAt key 16 8) 0#64 = hi
    refine S_ ?_
    refine c_loopC [4, 8, 9, 10, 79] (fun (x : Nat × List (BitVec 8)) => ⟨99, keepT [4, 8, 9, 10, 79] [.c (.ptr 0 0), .c (.val (U64 (lo))), .c (.val (U64 (hi))), .c (.ptr 1 0), .c (.val (.int .i64 (x.1)))], [.row true (.a8 (zer8 16)), .row true (.a8 (x.2))]⟩) (fun j => (j, sixteen lo hi j)) (8) (by kernel_rfl) ?_ ?_
    · intro j hj
      have h2 : (sixteen lo hi j).length = 16 := sixteen_length lo hi j
      simp only [sixteen]
      generalize sixteen lo hi j = V at *
      refine S_ ?_
      refine c_region ?_
      first
        | refine s_val (v_lssN (b := 8) rfl rfl) rfl ?_
        | refine s_val (v_lssI rfl rfl) rfl ?_
      refine s_nil ?_
      refine S_ ?_
      refine c_region ?_
      first
        | refine s_val (v_moveC rfl) rfl ?_
        | refine s_val (v_moveA rfl) rfl ?_
        | refine s_val (v_moveT rfl) rfl ?_
      first
        | refine s_val (v_assignC rfl) rfl ?_
        | refine s_val (v_assignA rfl) rfl ?_
        | refine s_val (v_assignT rfl) rfl ?_
      refine s_nil ?_
      refine S_ ?_
      refine c_stores mixed (by kernel_rfl) ?_
      first
        | refine d_val (v_moveC rfl) rfl ?_
        | refine d_val (v_moveA rfl) rfl ?_
        | refine d_val (v_moveT rfl) rfl ?_
      first
        | refine d_val (v_moveC rfl) rfl ?_
        | refine d_val (v_moveA rfl) rfl ?_
        | refine d_val (v_moveT rfl) rfl ?_
      first
        | refine d_val (v_addN (a := 8) rfl rfl (by omega)) rfl ?_
        | refine d_val (v_addI rfl rfl (by omega)) rfl ?_
      first
        | refine d_val (v_moveC rfl) rfl ?_
        | refine d_val (v_moveA rfl) rfl ?_
        | refine d_val (v_moveT rfl) rfl ?_
      first
        | refine d_val (v_moveC rfl) rfl ?_
        | refine d_val (v_moveA rfl) rfl ?_
        | refine d_val (v_moveT rfl) rfl ?_
      refine d_val (v_mulN (a := 8) rfl rfl (by omega)) rfl ?_
      refine d_val (v_shr64n rfl rfl) rfl ?_
      refine d_val (v_conv rfl Try.underlying36 Try.underlying5 (w64_8 _)) rfl ?_
      first
        | refine d_val (v_moveC rfl) rfl ?_
        | refine d_val (v_moveA rfl) rfl ?_
        | refine d_val (v_moveT rfl) rfl ?_
      first
        | refine d_val (v_moveC rfl) rfl ?_
        | refine d_val (v_moveA rfl) rfl ?_
        | refine d_val (v_moveT rfl) rfl ?_
      refine d_val (v_mulN (a := 8) rfl rfl (by omega)) rfl ?_
      refine d_val (v_shr64n rfl rfl) rfl ?_
      refine d_val (v_conv rfl Try.underlying36 Try.underlying5 (w64_8 _)) rfl ?_
      first
        | refine d_val (v_idxA1 rfl rfl Try.underlying25 sz_5 (by omega)) rfl ?_
        | refine d_val (v_idxA rfl rfl Try.underlying25 sz_5 (by omega)) rfl ?_
      refine d_store8 rfl rfl rfl sz_5 LT_ SET_ ?_
      first
        | refine d_val (v_idxA1 rfl rfl Try.underlying25 sz_5 (by omega)) rfl ?_
        | refine d_val (v_idxA rfl rfl Try.underlying25 sz_5 (by omega)) rfl ?_
      refine d_store8 rfl rfl rfl sz_5 LT_ SET_ ?_
      refine d_nil ?_
      refine S_ ?_
      refine c_region ?_
      first
        | refine s_val (v_addN (b := 1) rfl rfl (by omega)) rfl ?_
        | refine s_val (v_addI rfl rfl (by omega)) rfl ?_
      first
        | refine s_val (v_moveC rfl) rfl ?_
        | refine s_val (v_moveA rfl) rfl ?_
        | refine s_val (v_moveT rfl) rfl ?_
      refine s_nil ?_
      exact ⟨_, by kernel_rfl, rfl⟩
    · dsimp only
      have h2 : (sixteen lo hi 8).length = 16 := sixteen_length lo hi 8
      generalize sixteen lo hi 8 = V at *
      refine S_ ?_
      refine c_region ?_
      first
        | refine s_val (v_lssN (b := 8) rfl rfl) rfl ?_
        | refine s_val (v_lssI rfl rfl) rfl ?_
      refine s_nil ?_
      refine S_ ?_
      refine c_region ?_
      refine s_val (v_loadR rfl rfl row_25 sz_25 EQ_ (by decide)) rfl ?_
      refine s_storeR rfl rfl rfl rfl sz_25 EQ_ EQ_ SET_ ?_
      refine s_nil ?_
      refine S_ ?_
      exact k_1 (r_row rfl rfl row_25 sz_25 EQ_ (by decide)) (by first | kernel_rfl | rfl)
end Go.Proofs.Ytlphiohgehkjlaa
