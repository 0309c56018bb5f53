/- trystref01.Sum256 (Drawn up by a program.) -/
import Derived.Test.YtlnekohkbhidnaaSRfPad
import Derived.Test.YtlnekohkbhidnaaSRfK
namespace Go.Proofs.Ytlnekohkbhidnaa
open Go.RowKit
def rf256_L13_S (tx : List (BitVec 8)) (j5 : Nat) (j9 : Nat) (X6 : List (BitVec 32)) (j13 : Nat) : List (BitVec 32) := put X6 j9 (((nth X6 j9) <<< 8) ||| ((nth (rfPad tx) (((64 * j5) + (4 * j9)) + j13)).setWidth 32))
def rf256_L13 (tx : List (BitVec 8)) (j5 : Nat) (X4 : List (BitVec 32)) (j9 : Nat) : Nat → List (BitVec 32)
  | 0 => X4
  | j13 + 1 => rf256_L13_S tx j5 j9 (rf256_L13 tx j5 X4 j9 j13) j13
theorem rf256_L13_len (tx : List (BitVec 8)) (j5 : Nat) (X4 : List (BitVec 32)) (j9 : Nat) (hX4 : X4.length = 64) (j13 : Nat) : (rf256_L13 tx j5 X4 j9 j13).length = 64 := by
  induction j13 with
  | zero => first | (simp [rf256_L13, *]; done) | (simp [rf256_L13, *]; omega)
  | succ j13 ih => rw [rf256_L13.eq_2, rf256_L13_S]; first | (simp [ih]; done) | (simp [ih]; omega) | (simp [*]; done) | (split <;> first | (simp [ih]; done) | (simp [ih]; omega) | (simp [*]; done))
def rf256_L9_S (tx : List (BitVec 8)) (j5 : Nat) (X4 : List (BitVec 32)) (j9 : Nat) : List (BitVec 32) := if j9 < 16 then (rf256_L13 tx j5 X4 j9 4) else put X4 j9 ((((nth X4 (j9 - 16)) + (nth X4 (j9 - 7))) + (((rfRot32 (nth X4 (j9 - 15)) 7) ^^^ (rfRot32 (nth X4 (j9 - 15)) 18)) ^^^ ((nth X4 (j9 - 15)) >>> 3))) + (((rfRot32 (nth X4 (j9 - 2)) 17) ^^^ (rfRot32 (nth X4 (j9 - 2)) 19)) ^^^ ((nth X4 (j9 - 2)) >>> 10)))
def rf256_L9 (tx : List (BitVec 8)) (j5 : Nat) : Nat → List (BitVec 32)
  | 0 => zer32 64
  | j9 + 1 => rf256_L9_S tx j5 (rf256_L9 tx j5 j9) j9
@[simp] theorem rf256_L9_len (tx : List (BitVec 8)) (j5 : Nat) (j9 : Nat) : (rf256_L9 tx j5 j9).length = 64 := by
  induction j9 with
  | zero => first | (simp [rf256_L9, *]; done) | (simp [rf256_L9, *]; omega)
  | succ j9 ih => rw [rf256_L9.eq_2, rf256_L9_S]; first | (simp [ih]; done) | (simp [ih]; omega) | (simp [rf256_L13_len, *]; done) | (split <;> first | (simp [ih]; done) | (simp [ih]; omega) | (simp [rf256_L13_len, *]; done))
def rf256_L20_S (Y5 : List (BitVec 32)) (X6 : List (BitVec 32)) (j20 : Nat) : List (BitVec 32) := [(((((nth X6 7) + (((rfRot32 (nth X6 4) 6) ^^^ (rfRot32 (nth X6 4) 11)) ^^^ (rfRot32 (nth X6 4) 25))) + (((nth X6 4) &&& (nth X6 5)) ^^^ ((~~~(nth X6 4)) &&& (nth X6 6)))) + (nth rfK256 j20)) + (nth Y5 j20)) + ((((rfRot32 (nth X6 0) 2) ^^^ (rfRot32 (nth X6 0) 13)) ^^^ (rfRot32 (nth X6 0) 22)) + ((((nth X6 0) &&& (nth X6 1)) ^^^ ((nth X6 0) &&& (nth X6 2))) ^^^ ((nth X6 1) &&& (nth X6 2)))), nth X6 0, nth X6 1, nth X6 2, (nth X6 3) + (((((nth X6 7) + (((rfRot32 (nth X6 4) 6) ^^^ (rfRot32 (nth X6 4) 11)) ^^^ (rfRot32 (nth X6 4) 25))) + (((nth X6 4) &&& (nth X6 5)) ^^^ ((~~~(nth X6 4)) &&& (nth X6 6)))) + (nth rfK256 j20)) + (nth Y5 j20)), nth X6 4, nth X6 5, nth X6 6]
def rf256_L20 (X3 : List (BitVec 32)) (Y5 : List (BitVec 32)) : Nat → List (BitVec 32)
  | 0 => X3
  | j20 + 1 => rf256_L20_S Y5 (rf256_L20 X3 Y5 j20) j20
theorem rf256_L20_len (X3 : List (BitVec 32)) (Y5 : List (BitVec 32)) (hX3 : X3.length = 8) (hY5 : Y5.length = 64) (j20 : Nat) : (rf256_L20 X3 Y5 j20).length = 8 := by
  induction j20 with
  | zero => first | (simp [rf256_L20, *]; done) | (simp [rf256_L20, *]; omega)
  | succ j20 ih => rw [rf256_L20.eq_2, rf256_L20_S]; first | (simp [ih]; done) | (simp [ih]; omega) | (simp [rf256_L13_len, rf256_L9_len, *]; done) | (split <;> first | (simp [ih]; done) | (simp [ih]; omega) | (simp [rf256_L13_len, rf256_L9_len, *]; done))
def rf256_L27_S (Y7 : List (BitVec 32)) (X8 : List (BitVec 32)) (j27 : Nat) : List (BitVec 32) := put X8 j27 ((nth X8 j27) + (nth Y7 j27))
def rf256_L27 (X3 : List (BitVec 32)) (Y7 : List (BitVec 32)) : Nat → List (BitVec 32)
  | 0 => X3
  | j27 + 1 => rf256_L27_S Y7 (rf256_L27 X3 Y7 j27) j27
theorem rf256_L27_len (X3 : List (BitVec 32)) (Y7 : List (BitVec 32)) (hX3 : X3.length = 8) (hY7 : Y7.length = 8) (j27 : Nat) : (rf256_L27 X3 Y7 j27).length = 8 := by
  induction j27 with
  | zero => first | (simp [rf256_L27, *]; done) | (simp [rf256_L27, *]; omega)
  | succ j27 ih => rw [rf256_L27.eq_2, rf256_L27_S]; first | (simp [ih]; done) | (simp [ih]; omega) | (simp [rf256_L13_len, rf256_L9_len, rf256_L20_len, *]; done) | (split <;> first | (simp [ih]; done) | (simp [ih]; omega) | (simp [rf256_L13_len, rf256_L9_len, rf256_L20_len, *]; done))
def rf256_L5_S (tx : List (BitVec 8)) (X3 : List (BitVec 32)) (j5 : Nat) : List (BitVec 32) := (rf256_L27 X3 (rf256_L20 X3 (rf256_L9 tx j5 64) 64) 8)
def rf256_L5 (tx : List (BitVec 8)) : Nat → List (BitVec 32)
  | 0 => [1779033703#32, 3144134277#32, 1013904242#32, 2773480762#32, 1359893119#32, 2600822924#32, 528734635#32, 1541459225#32]
  | j5 + 1 => rf256_L5_S tx (rf256_L5 tx j5) j5
@[simp] theorem rf256_L5_len (tx : List (BitVec 8)) (j5 : Nat) : (rf256_L5 tx j5).length = 8 := by
  induction j5 with
  | zero => first | (simp [rf256_L5, *]; done) | (simp [rf256_L5, *]; omega)
  | succ j5 ih => rw [rf256_L5.eq_2, rf256_L5_S]; first | (simp [ih]; done) | (simp [ih]; omega) | (simp [rf256_L13_len, rf256_L9_len, rf256_L20_len, rf256_L27_len, *]; done) | (split <;> first | (simp [ih]; done) | (simp [ih]; omega) | (simp [rf256_L13_len, rf256_L9_len, rf256_L20_len, rf256_L27_len, *]; done))
def rf256_L32_S (Y13 : List (BitVec 32)) (X14 : List (BitVec 8)) (j32 : Nat) : List (BitVec 8) := put X14 j32 (((nth Y13 (j32 / 4)) >>> (BitVec.ofNat 64 (24 - (8 * (j32 % 4)))).toNat).setWidth 8)
def rf256_L32 (Y13 : List (BitVec 32)) : Nat → List (BitVec 8)
  | 0 => zer8 32
  | j32 + 1 => rf256_L32_S Y13 (rf256_L32 Y13 j32) j32
theorem rf256_L32_len (Y13 : List (BitVec 32)) (hY13 : Y13.length = 8) (j32 : Nat) : (rf256_L32 Y13 j32).length = 32 := by
  induction j32 with
  | zero => first | (simp [rf256_L32, *]; done) | (simp [rf256_L32, *]; omega)
  | succ j32 ih => rw [rf256_L32.eq_2, rf256_L32_S]; first | (simp [ih]; done) | (simp [ih]; omega) | (simp [rf256_L13_len, rf256_L9_len, rf256_L20_len, rf256_L27_len, rf256_L5_len, *]; done) | (split <;> first | (simp [ih]; done) | (simp [ih]; omega) | (simp [rf256_L13_len, rf256_L9_len, rf256_L20_len, rf256_L27_len, rf256_L5_len, *]; done))
def rf256 (tx : List (BitVec 8)) : List (BitVec 8) := (rf256_L32 (rf256_L5 tx (((((tx.length + 1) + (120 - (tx.length + 1) % 64) % 64) + 8) + 63) / 64)) 32)
set_option maxRecDepth 100000 in
set_option maxHeartbeats 2000000 in
theorem rf256_ev (b : List (BitVec 8)) (o : Nat) (n : Nat) (cap : Nat) (hb : o + n ≤ b.length) (hn : n ≤ 2199023255552) : Ev Try.prog (.call 21 [.c (.sl 0 o n cap 1)] [.row false (.a8 (b))]) (.val (.agg (.a8 (rf256 (cut b o n)))) [.row false (.a8 (b))]) := by
  have hP : Hid (rf256 (cut b o n) = (rf256_L32 (rf256_L5 (cut b o n) ((((((cut b o n).length + 1) + (120 - ((cut b o n).length + 1) % 64) % 64) + 8) + 63) / 64)) 32)) := ⟨rfl⟩
  have htx : (cut b o n).length = n := by rw [cut_length]; omega
  try simp only [htx] at hP
  refine c_call Try.func21 rfl Try.ntmps21 rfl LEN_ ?_
  refine S_ ?_
  refine c_region ?_
  refine s_memN (m_alloc al_23 LEN_) APP_ rfl ?_
  refine s_nil ?_
  refine S_ ?_
  refine c_region ?_
  refine s_evN (e_callR (bs := []) (rfK256_ev) ok_24 (by kernel_rfl) (by kernel_rfl) rfl VAL_) APP_ rfl ?_
  refine s_memN (m_alloc al_41 LEN_) APP_ rfl ?_
  refine s_storeR rfl rfl rfl rfl sz_41 EQ_ EQ_ SET_ ?_
  refine s_nil ?_
  have hQ1 : (rfK256).length = 64 := LQ_
  refine S_ ?_
  refine c_region ?_
  refine s_val (v_bld32 (l := [1779033703#32, 3144134277#32, 1013904242#32, 2773480762#32, 1359893119#32, 2600822924#32, 528734635#32, 1541459225#32]) zc_37 Try.underlying37 sz_36 rfl rfl (by decide)) rfl ?_
  refine s_memN (m_alloc al_37 LEN_) APP_ rfl ?_
  refine s_storeR rfl rfl rfl rfl sz_37 EQ_ EQ_ SET_ ?_
  refine s_nil ?_
  refine S_ ?_
  refine c_region ?_
  refine s_val (v_moveC rfl) rfl ?_
  refine s_evN (e_callR (bs := [0]) (rfPad_ev b o n cap HYP_ HYP_) ok_25 (by kernel_rfl) (by kernel_rfl) rfl VAL_) APP_ rfl ?_
  refine s_val (v_assignC rfl) rfl ?_
  refine s_nil ?_
  have hQ2 : (rfPad (cut b o n)).length = ((n + 1) + (120 - (n + 1) % 64) % 64) + 8 := LQ_
  refine S_ ?_
  refine c_region ?_
  refine s_val (v_assignC rfl) rfl ?_
  refine s_nil ?_
  refine S_ ?_
  refine c_loopC [2, 3, 4, 5, 6] (fun (zz : Nat × List (BitVec 32)) => ⟨208, keepT [2, 3, 4, 5, 6] [.c (.ptr 1 0), .c (.ptr 2 0), .c (.ptr 3 0), .c (.sl 4 0 (((n + 1) + (120 - (n + 1) % 64) % 64) + 8) (((n + 1) + (120 - (n + 1) % 64) % 64) + 8) 1), .c (.val (.int .i64 (((64 * zz.1 : Nat) : Int))))], [.row false (.a8 (b)), .row true (.a8 (zer8 32)), .row true (.a32 (rfK256)), .row true (.a32 (zz.2)), .row true (.a8 (rfPad (cut b o n)))]⟩) (fun j5 => (j5, rf256_L5 (cut b o n) j5)) (((((n + 1) + (120 - (n + 1) % 64) % 64) + 8) + 63) / 64) (by kernel_rfl) ?_ ?_
  · intro j5 hj5
    try dsimp only
    have hX3 : (rf256_L5 (cut b o n) j5).length = 8 := by rw [rf256_L5_len (cut b o n) _]; try omega
    rw [rf256_L5.eq_2, rf256_L5_S]
    try simp only [htx]
    generalize rf256_L5 (cut b o n) j5 = X3 at *
    refine S_ ?_
    refine c_region ?_
    refine s_val (v_moveC rfl) rfl ?_
    refine s_val (v_moveC rfl) rfl ?_
    refine s_val (v_lenS rfl Try.underlying22) rfl ?_
    refine s_val (v_lssN rfl rfl) rfl ?_
    refine s_nil ?_
    refine S_ ?_
    refine c_region ?_
    refine s_memN (m_alloc al_41 LEN_) APP_ rfl ?_
    refine s_nil ?_
    refine S_ ?_
    refine c_region ?_
    refine s_val (v_assignC rfl) rfl ?_
    refine s_nil ?_
    refine S_ ?_
    refine c_loopC [2, 3, 4, 5, 6, 7, 8] (fun (zz : Nat × List (BitVec 32)) => ⟨208, keepT [2, 3, 4, 5, 6, 7, 8] [.c (.ptr 1 0), .c (.ptr 2 0), .c (.ptr 3 0), .c (.sl 4 0 (((n + 1) + (120 - (n + 1) % 64) % 64) + 8) (((n + 1) + (120 - (n + 1) % 64) % 64) + 8) 1), .c (.val (.int .i64 (((64 * j5 : Nat) : Int)))), .c (.ptr 5 0), .c (.val (.int .i64 (((zz.1 : Nat) : Int))))], [.row false (.a8 (b)), .row true (.a8 (zer8 32)), .row true (.a32 (rfK256)), .row true (.a32 (X3)), .row true (.a8 (rfPad (cut b o n))), .row true (.a32 (zz.2))]⟩) (fun j9 => (j9, rf256_L9 (cut b o n) j5 j9)) (64) (by kernel_rfl) ?_ ?_
    · intro j9 hj9
      try dsimp only
      have hX4 : (rf256_L9 (cut b o n) j5 j9).length = 64 := by rw [rf256_L9_len (cut b o n) j5 _]; try omega
      rw [rf256_L9.eq_2, rf256_L9_S]
      try simp only [htx]
      generalize rf256_L9 (cut b o n) j5 j9 = X4 at *
      refine S_ ?_
      refine c_region ?_
      refine s_val (v_moveC rfl) rfl ?_
      refine s_val (v_lssN (b := 64) rfl rfl) rfl ?_
      refine s_nil ?_
      refine S_ ?_
      refine c_region ?_
      refine s_val (v_moveC rfl) rfl ?_
      refine s_val (v_lssN (b := 16) rfl rfl) rfl ?_
      refine s_nil ?_
      refine Q_ ?_
      by_cases hc5 : j9 < 16
      · try simp only [if_pos hc5] at *
        refine c_condT rfl (decide_eq_true hc5) ?_
        refine S_ ?_
        refine c_region ?_
        refine s_val (v_assignC rfl) rfl ?_
        refine s_nil ?_
        refine S_ ?_
        refine c_loopC [2, 3, 4, 5, 6, 7, 8, 9] (fun (zz : Nat × List (BitVec 32)) => ⟨208, keepT [2, 3, 4, 5, 6, 7, 8, 9] [.c (.ptr 1 0), .c (.ptr 2 0), .c (.ptr 3 0), .c (.sl 4 0 (((n + 1) + (120 - (n + 1) % 64) % 64) + 8) (((n + 1) + (120 - (n + 1) % 64) % 64) + 8) 1), .c (.val (.int .i64 (((64 * j5 : Nat) : Int)))), .c (.ptr 5 0), .c (.val (.int .i64 (((j9 : Nat) : Int)))), .c (.val (.int .i64 (((zz.1 : Nat) : Int))))], [.row false (.a8 (b)), .row true (.a8 (zer8 32)), .row true (.a32 (rfK256)), .row true (.a32 (X3)), .row true (.a8 (rfPad (cut b o n))), .row true (.a32 (zz.2))]⟩) (fun j13 => (j13, rf256_L13 (cut b o n) j5 X4 j9 j13)) (4) (by kernel_rfl) ?_ ?_
        · intro j13 hj13
          try dsimp only
          have hX6 : (rf256_L13 (cut b o n) j5 X4 j9 j13).length = 64 := by rw [rf256_L13_len (cut b o n) j5 X4 j9 hX4 _]; try omega
          rw [rf256_L13.eq_2, rf256_L13_S]
          try simp only [htx]
          generalize rf256_L13 (cut b o n) j5 X4 j9 j13 = X6 at *
          refine S_ ?_
          refine c_region ?_
          refine s_val (v_moveC rfl) rfl ?_
          refine s_val (v_lssN (b := 4) rfl rfl) rfl ?_
          refine s_nil ?_
          refine S_ ?_
          refine c_draw 17 mixed (by kernel_rfl) rfl rfl rfl ?_
          refine h_val (v_moveC rfl) rfl ?_
          refine h_val (v_moveC rfl) rfl ?_
          refine h_val (v_idxA1 rfl rfl Try.underlying41 sz_36 (by omega)) rfl ?_
          refine h_val (v_load32 rfl rfl row_36 LT_) rfl ?_
          refine h_val (v_shl32n (j := 8) rfl rfl) rfl ?_
          refine h_val (v_moveC rfl) rfl ?_
          refine h_val (v_moveC rfl) rfl ?_
          refine h_val (v_moveC rfl) rfl ?_
          refine h_val (v_mulN (a := 4) rfl rfl (by omega)) rfl ?_
          refine h_val (v_addN rfl rfl (by omega)) rfl ?_
          refine h_val (v_moveC rfl) rfl ?_
          refine h_val (v_addN rfl rfl (by omega)) rfl ?_
          refine h_val (v_idxS1 rfl rfl Try.underlying22 sz_5 (by omega)) rfl ?_
          refine h_val (v_load8 rfl rfl row_5 LT_) rfl ?_
          refine h_val (v_conv rfl Try.underlying5 Try.underlying36 (w8_32 _)) rfl ?_
          refine h_val (v_or32 rfl rfl) rfl ?_
          refine h_val (v_idxA1 rfl rfl Try.underlying41 sz_36 (by omega)) rfl ?_
          refine h_nil ?_
          refine s_store32 rfl rfl rfl sz_36 LT_ SET_ ?_
          refine s_nil ?_
          refine S_ ?_
          refine c_region ?_
          refine s_val (v_moveC rfl) rfl ?_
          refine s_val (v_addN (b := 1) rfl rfl (by omega)) rfl ?_
          refine s_val (v_assignC rfl) rfl ?_
          refine s_nil ?_
          exact ⟨(j13 + 1, _), by kernel_rfl, rfl⟩
        · try dsimp only
          have hY7 : (rf256_L13 (cut b o n) j5 X4 j9 4).length = 64 := by rw [rf256_L13_len (cut b o n) j5 X4 j9 hX4 _]; try omega
          generalize rf256_L13 (cut b o n) j5 X4 j9 4 = Y7 at *
          refine S_ ?_
          refine c_region ?_
          refine s_val (v_moveC rfl) rfl ?_
          refine s_val (v_lssN (a := 4) (b := 4) rfl rfl) rfl ?_
          refine s_nil ?_
          refine S_ ?_
          refine c_region ?_
          refine s_val (v_moveC rfl) rfl ?_
          refine s_val (v_addN (b := 1) rfl rfl (by omega)) rfl ?_
          refine s_val (v_assignC rfl) rfl ?_
          refine s_nil ?_
          exact ⟨(j9 + 1, _), by kernel_rfl, rfl⟩
      · try simp only [if_neg hc5] at *
        refine c_condF rfl (decide_eq_false hc5) ?_
        refine S_ ?_
        refine c_draw 10 mixed (by kernel_rfl) rfl rfl rfl ?_
        refine h_val (v_moveC rfl) rfl ?_
        first
          | refine h_val (v_subN (b := 15) rfl rfl (by omega) (by omega)) rfl ?_
          | refine h_val (v_subI rfl rfl (by omega)) rfl ?_
        refine h_val (v_idxA1 rfl rfl Try.underlying41 sz_36 (by omega)) rfl ?_
        refine h_val (v_load32 rfl rfl row_36 LT_) rfl ?_
        refine h_val (v_moveC rfl) rfl ?_
        first
          | refine h_val (v_subN (b := 2) rfl rfl (by omega) (by omega)) rfl ?_
          | refine h_val (v_subI rfl rfl (by omega)) rfl ?_
        refine h_val (v_idxA1 rfl rfl Try.underlying41 sz_36 (by omega)) rfl ?_
        refine h_val (v_load32 rfl rfl row_36 LT_) rfl ?_
        refine h_val (v_assignC rfl) rfl ?_
        refine h_val (v_assignC rfl) rfl ?_
        refine h_nil ?_
        refine s_nil ?_
        refine S_ ?_
        refine c_draw 29 mixed (by kernel_rfl) rfl rfl rfl ?_
        refine h_val (v_moveC rfl) rfl ?_
        refine h_val (v_moveC rfl) rfl ?_
        first
          | refine h_val (v_subN (b := 16) rfl rfl (by omega) (by omega)) rfl ?_
          | refine h_val (v_subI rfl rfl (by omega)) rfl ?_
        refine h_val (v_idxA1 rfl rfl Try.underlying41 sz_36 (by omega)) rfl ?_
        refine h_val (v_load32 rfl rfl row_36 LT_) rfl ?_
        refine h_val (v_moveC rfl) rfl ?_
        first
          | refine h_val (v_subN (b := 7) rfl rfl (by omega) (by omega)) rfl ?_
          | refine h_val (v_subI rfl rfl (by omega)) rfl ?_
        refine h_val (v_idxA1 rfl rfl Try.underlying41 sz_36 (by omega)) rfl ?_
        refine h_val (v_load32 rfl rfl row_36 LT_) rfl ?_
        refine h_val (v_add32 rfl rfl) rfl ?_
        refine h_val (v_moveC rfl) rfl ?_
        refine h_evN (e_callR (bs := []) (rfRot32_ev (nth X4 (j9 - 15)) 7 HYP_) ok_26 (by kernel_rfl) (by kernel_rfl) rfl VAL_) APP_ rfl ?_
        refine h_val (v_moveC rfl) rfl ?_
        refine h_evN (e_callR (bs := []) (rfRot32_ev (nth X4 (j9 - 15)) 18 HYP_) ok_26 (by kernel_rfl) (by kernel_rfl) rfl VAL_) APP_ rfl ?_
        refine h_val (v_xor32 rfl rfl) rfl ?_
        refine h_val (v_moveC rfl) rfl ?_
        refine h_val (v_shr32n (j := 3) rfl rfl) rfl ?_
        refine h_val (v_xor32 rfl rfl) rfl ?_
        refine h_val (v_add32 rfl rfl) rfl ?_
        refine h_val (v_moveC rfl) rfl ?_
        refine h_evN (e_callR (bs := []) (rfRot32_ev (nth X4 (j9 - 2)) 17 HYP_) ok_26 (by kernel_rfl) (by kernel_rfl) rfl VAL_) APP_ rfl ?_
        refine h_val (v_moveC rfl) rfl ?_
        refine h_evN (e_callR (bs := []) (rfRot32_ev (nth X4 (j9 - 2)) 19 HYP_) ok_26 (by kernel_rfl) (by kernel_rfl) rfl VAL_) APP_ rfl ?_
        refine h_val (v_xor32 rfl rfl) rfl ?_
        refine h_val (v_moveC rfl) rfl ?_
        refine h_val (v_shr32n (j := 10) rfl rfl) rfl ?_
        refine h_val (v_xor32 rfl rfl) rfl ?_
        refine h_val (v_add32 rfl rfl) rfl ?_
        refine h_val (v_idxA1 rfl rfl Try.underlying41 sz_36 (by omega)) rfl ?_
        refine h_nil ?_
        refine s_store32 rfl rfl rfl sz_36 LT_ SET_ ?_
        refine s_nil ?_
        refine S_ ?_
        refine c_region ?_
        refine s_val (v_moveC rfl) rfl ?_
        refine s_val (v_addN (b := 1) rfl rfl (by omega)) rfl ?_
        refine s_val (v_assignC rfl) rfl ?_
        refine s_nil ?_
        exact ⟨(j9 + 1, _), by kernel_rfl, rfl⟩
    · try dsimp only
      have hY8 : (rf256_L9 (cut b o n) j5 64).length = 64 := by rw [rf256_L9_len (cut b o n) j5 _]; try omega
      generalize rf256_L9 (cut b o n) j5 64 = Y8 at *
      refine S_ ?_
      refine c_region ?_
      refine s_val (v_moveC rfl) rfl ?_
      refine s_val (v_lssN (a := 64) (b := 64) rfl rfl) rfl ?_
      refine s_nil ?_
      refine S_ ?_
      refine c_region ?_
      refine s_val (v_loadR rfl rfl row_37 sz_37 EQ_ (by decide)) rfl ?_
      refine s_memN (m_alloc al_37 LEN_) APP_ rfl ?_
      refine s_storeR rfl rfl rfl rfl sz_37 EQ_ EQ_ SET_ ?_
      refine s_nil ?_
      refine S_ ?_
      refine c_region ?_
      refine s_val (v_assignC rfl) rfl ?_
      refine s_nil ?_
      refine S_ ?_
      refine c_loopC [2, 3, 4, 5, 6, 7, 12, 13] (fun (zz : Nat × List (BitVec 32)) => ⟨208, keepT [2, 3, 4, 5, 6, 7, 12, 13] [.c (.ptr 1 0), .c (.ptr 2 0), .c (.ptr 3 0), .c (.sl 4 0 (((n + 1) + (120 - (n + 1) % 64) % 64) + 8) (((n + 1) + (120 - (n + 1) % 64) % 64) + 8) 1), .c (.val (.int .i64 (((64 * j5 : Nat) : Int)))), .c (.ptr 5 0), .c (.ptr 6 0), .c (.val (.int .i64 (((zz.1 : Nat) : Int))))], [.row false (.a8 (b)), .row true (.a8 (zer8 32)), .row true (.a32 (rfK256)), .row true (.a32 (X3)), .row true (.a8 (rfPad (cut b o n))), .row true (.a32 (Y8)), .row true (.a32 (zz.2))]⟩) (fun j20 => (j20, rf256_L20 X3 Y8 j20)) (64) (by kernel_rfl) ?_ ?_
      · intro j20 hj20
        try dsimp only
        have hX9 : (rf256_L20 X3 Y8 j20).length = 8 := by rw [rf256_L20_len X3 Y8 hX3 hY8 _]; try omega
        rw [rf256_L20.eq_2, rf256_L20_S]
        try simp only [htx]
        generalize rf256_L20 X3 Y8 j20 = X9 at *
        refine S_ ?_
        refine c_region ?_
        refine s_val (v_moveC rfl) rfl ?_
        refine s_val (v_lssN (b := 64) rfl rfl) rfl ?_
        refine s_nil ?_
        refine S_ ?_
        refine c_draw 6 mixed (by kernel_rfl) rfl rfl rfl ?_
        refine h_val (v_idxA1 (j := 0) rfl rfl Try.underlying37 sz_36 (by omega)) rfl ?_
        refine h_val (v_load32 rfl rfl row_36 LT_) rfl ?_
        refine h_val (v_idxA1 (j := 4) rfl rfl Try.underlying37 sz_36 (by omega)) rfl ?_
        refine h_val (v_load32 rfl rfl row_36 LT_) rfl ?_
        refine h_val (v_assignC rfl) rfl ?_
        refine h_val (v_assignC rfl) rfl ?_
        refine h_nil ?_
        refine s_nil ?_
        refine S_ ?_
        refine c_draw 31 mixed (by kernel_rfl) rfl rfl rfl ?_
        refine h_val (v_idxA1 (j := 7) rfl rfl Try.underlying37 sz_36 (by omega)) rfl ?_
        refine h_val (v_load32 rfl rfl row_36 LT_) rfl ?_
        refine h_val (v_moveC rfl) rfl ?_
        refine h_evN (e_callR (bs := []) (rfRot32_ev (nth X9 4) 6 HYP_) ok_26 (by kernel_rfl) (by kernel_rfl) rfl VAL_) APP_ rfl ?_
        refine h_val (v_moveC rfl) rfl ?_
        refine h_evN (e_callR (bs := []) (rfRot32_ev (nth X9 4) 11 HYP_) ok_26 (by kernel_rfl) (by kernel_rfl) rfl VAL_) APP_ rfl ?_
        refine h_val (v_xor32 rfl rfl) rfl ?_
        refine h_val (v_moveC rfl) rfl ?_
        refine h_evN (e_callR (bs := []) (rfRot32_ev (nth X9 4) 25 HYP_) ok_26 (by kernel_rfl) (by kernel_rfl) rfl VAL_) APP_ rfl ?_
        refine h_val (v_xor32 rfl rfl) rfl ?_
        refine h_val (v_add32 rfl rfl) rfl ?_
        refine h_val (v_moveC rfl) rfl ?_
        refine h_val (v_idxA1 (j := 5) rfl rfl Try.underlying37 sz_36 (by omega)) rfl ?_
        refine h_val (v_load32 rfl rfl row_36 LT_) rfl ?_
        refine h_val (v_and32 rfl rfl) rfl ?_
        refine h_val (v_moveC rfl) rfl ?_
        refine h_val (v_unxor32 rfl) rfl ?_
        refine h_val (v_idxA1 (j := 6) rfl rfl Try.underlying37 sz_36 (by omega)) rfl ?_
        refine h_val (v_load32 rfl rfl row_36 LT_) rfl ?_
        refine h_val (v_and32 rfl rfl) rfl ?_
        refine h_val (v_xor32 rfl rfl) rfl ?_
        refine h_val (v_add32 rfl rfl) rfl ?_
        refine h_val (v_moveC rfl) rfl ?_
        refine h_val (v_idxA1 rfl rfl Try.underlying41 sz_36 (by omega)) rfl ?_
        refine h_val (v_load32 rfl rfl row_36 LT_) rfl ?_
        refine h_val (v_add32 rfl rfl) rfl ?_
        refine h_val (v_moveC rfl) rfl ?_
        refine h_val (v_idxA1 rfl rfl Try.underlying41 sz_36 (by omega)) rfl ?_
        refine h_val (v_load32 rfl rfl row_36 LT_) rfl ?_
        refine h_val (v_add32 rfl rfl) rfl ?_
        refine h_val (v_assignC rfl) rfl ?_
        refine h_nil ?_
        refine s_nil ?_
        refine S_ ?_
        refine c_draw 25 mixed (by kernel_rfl) rfl rfl rfl ?_
        refine h_val (v_moveC rfl) rfl ?_
        refine h_evN (e_callR (bs := []) (rfRot32_ev (nth X9 0) 2 HYP_) ok_26 (by kernel_rfl) (by kernel_rfl) rfl VAL_) APP_ rfl ?_
        refine h_val (v_moveC rfl) rfl ?_
        refine h_evN (e_callR (bs := []) (rfRot32_ev (nth X9 0) 13 HYP_) ok_26 (by kernel_rfl) (by kernel_rfl) rfl VAL_) APP_ rfl ?_
        refine h_val (v_xor32 rfl rfl) rfl ?_
        refine h_val (v_moveC rfl) rfl ?_
        refine h_evN (e_callR (bs := []) (rfRot32_ev (nth X9 0) 22 HYP_) ok_26 (by kernel_rfl) (by kernel_rfl) rfl VAL_) APP_ rfl ?_
        refine h_val (v_xor32 rfl rfl) rfl ?_
        refine h_val (v_moveC rfl) rfl ?_
        refine h_val (v_idxA1 (j := 1) rfl rfl Try.underlying37 sz_36 (by omega)) rfl ?_
        refine h_val (v_load32 rfl rfl row_36 LT_) rfl ?_
        refine h_val (v_and32 rfl rfl) rfl ?_
        refine h_val (v_moveC rfl) rfl ?_
        refine h_val (v_idxA1 (j := 2) rfl rfl Try.underlying37 sz_36 (by omega)) rfl ?_
        refine h_val (v_load32 rfl rfl row_36 LT_) rfl ?_
        refine h_val (v_and32 rfl rfl) rfl ?_
        refine h_val (v_xor32 rfl rfl) rfl ?_
        refine h_val (v_idxA1 (j := 1) rfl rfl Try.underlying37 sz_36 (by omega)) rfl ?_
        refine h_val (v_load32 rfl rfl row_36 LT_) rfl ?_
        refine h_val (v_idxA1 (j := 2) rfl rfl Try.underlying37 sz_36 (by omega)) rfl ?_
        refine h_val (v_load32 rfl rfl row_36 LT_) rfl ?_
        refine h_val (v_and32 rfl rfl) rfl ?_
        refine h_val (v_xor32 rfl rfl) rfl ?_
        refine h_val (v_add32 rfl rfl) rfl ?_
        refine h_val (v_assignC rfl) rfl ?_
        refine h_nil ?_
        refine s_nil ?_
        refine S_ ?_
        refine c_region ?_
        refine s_val (v_moveC rfl) rfl ?_
        refine s_val (v_moveC rfl) rfl ?_
        refine s_val (v_add32 rfl rfl) rfl ?_
        refine s_val (v_idxA1 (j := 0) rfl rfl Try.underlying37 sz_36 (by omega)) rfl ?_
        refine s_val (v_load32 rfl rfl row_36 LT_) rfl ?_
        refine s_val (v_idxA1 (j := 1) rfl rfl Try.underlying37 sz_36 (by omega)) rfl ?_
        refine s_val (v_load32 rfl rfl row_36 LT_) rfl ?_
        refine s_val (v_idxA1 (j := 2) rfl rfl Try.underlying37 sz_36 (by omega)) rfl ?_
        refine s_val (v_load32 rfl rfl row_36 LT_) rfl ?_
        refine s_val (v_idxA1 (j := 3) rfl rfl Try.underlying37 sz_36 (by omega)) rfl ?_
        refine s_val (v_load32 rfl rfl row_36 LT_) rfl ?_
        refine s_val (v_moveC rfl) rfl ?_
        refine s_val (v_add32 rfl rfl) rfl ?_
        refine s_val (v_idxA1 (j := 4) rfl rfl Try.underlying37 sz_36 (by omega)) rfl ?_
        refine s_val (v_load32 rfl rfl row_36 LT_) rfl ?_
        refine s_val (v_idxA1 (j := 5) rfl rfl Try.underlying37 sz_36 (by omega)) rfl ?_
        refine s_val (v_load32 rfl rfl row_36 LT_) rfl ?_
        refine s_val (v_idxA1 (j := 6) rfl rfl Try.underlying37 sz_36 (by omega)) rfl ?_
        refine s_val (v_load32 rfl rfl row_36 LT_) rfl ?_
        refine s_val (v_bld32 (l := [_, _, _, _, _, _, _, _]) zc_37 Try.underlying37 sz_36 rfl rfl (by decide)) rfl ?_
        refine s_storeR rfl rfl rfl rfl sz_37 EQ_ EQ_ SET_ ?_
        refine s_nil ?_
        refine S_ ?_
        refine c_region ?_
        refine s_val (v_moveC rfl) rfl ?_
        refine s_val (v_addN (b := 1) rfl rfl (by omega)) rfl ?_
        refine s_val (v_assignC rfl) rfl ?_
        refine s_nil ?_
        exact ⟨(j20 + 1, _), by kernel_rfl, rfl⟩
      · try dsimp only
        have hY10 : (rf256_L20 X3 Y8 64).length = 8 := by rw [rf256_L20_len X3 Y8 hX3 hY8 _]; try omega
        generalize rf256_L20 X3 Y8 64 = Y10 at *
        refine S_ ?_
        refine c_region ?_
        refine s_val (v_moveC rfl) rfl ?_
        refine s_val (v_lssN (a := 64) (b := 64) rfl rfl) rfl ?_
        refine s_nil ?_
        refine S_ ?_
        refine c_region ?_
        refine s_val (v_assignC rfl) rfl ?_
        refine s_nil ?_
        refine S_ ?_
        refine c_loopC [2, 3, 4, 5, 6, 12, 18] (fun (zz : Nat × List (BitVec 32)) => ⟨208, keepT [2, 3, 4, 5, 6, 12, 18] [.c (.ptr 1 0), .c (.ptr 2 0), .c (.ptr 3 0), .c (.sl 4 0 (((n + 1) + (120 - (n + 1) % 64) % 64) + 8) (((n + 1) + (120 - (n + 1) % 64) % 64) + 8) 1), .c (.val (.int .i64 (((64 * j5 : Nat) : Int)))), .c (.ptr 5 0), .c (.val (.int .i64 (((zz.1 : Nat) : Int))))], [.row false (.a8 (b)), .row true (.a8 (zer8 32)), .row true (.a32 (rfK256)), .row true (.a32 (zz.2)), .row true (.a8 (rfPad (cut b o n))), .row true (.a32 (Y10))]⟩) (fun j27 => (j27, rf256_L27 X3 Y10 j27)) (8) (by kernel_rfl) ?_ ?_
        · intro j27 hj27
          try dsimp only
          have hX11 : (rf256_L27 X3 Y10 j27).length = 8 := by rw [rf256_L27_len X3 Y10 hX3 hY10 _]; try omega
          rw [rf256_L27.eq_2, rf256_L27_S]
          try simp only [htx]
          generalize rf256_L27 X3 Y10 j27 = X11 at *
          refine S_ ?_
          refine c_region ?_
          refine s_val (v_moveC rfl) rfl ?_
          refine s_val (v_lssN (b := 8) rfl rfl) rfl ?_
          refine s_nil ?_
          refine S_ ?_
          refine c_draw 8 mixed (by kernel_rfl) rfl rfl rfl ?_
          refine h_val (v_moveC rfl) rfl ?_
          refine h_val (v_idxA1 rfl rfl Try.underlying37 sz_36 (by omega)) rfl ?_
          refine h_val (v_load32 rfl rfl row_36 LT_) rfl ?_
          refine h_val (v_moveC rfl) rfl ?_
          refine h_val (v_idxA1 rfl rfl Try.underlying37 sz_36 (by omega)) rfl ?_
          refine h_val (v_load32 rfl rfl row_36 LT_) rfl ?_
          refine h_val (v_add32 rfl rfl) rfl ?_
          refine h_val (v_idxA1 rfl rfl Try.underlying37 sz_36 (by omega)) rfl ?_
          refine h_nil ?_
          refine s_store32 rfl rfl rfl sz_36 LT_ SET_ ?_
          refine s_nil ?_
          refine S_ ?_
          refine c_region ?_
          refine s_val (v_moveC rfl) rfl ?_
          refine s_val (v_addN (b := 1) rfl rfl (by omega)) rfl ?_
          refine s_val (v_assignC rfl) rfl ?_
          refine s_nil ?_
          exact ⟨(j27 + 1, _), by kernel_rfl, rfl⟩
        · try dsimp only
          have hY12 : (rf256_L27 X3 Y10 8).length = 8 := by rw [rf256_L27_len X3 Y10 hX3 hY10 _]; try omega
          generalize rf256_L27 X3 Y10 8 = Y12 at *
          refine S_ ?_
          refine c_region ?_
          refine s_val (v_moveC rfl) rfl ?_
          refine s_val (v_lssN (a := 8) (b := 8) rfl rfl) rfl ?_
          refine s_nil ?_
          refine S_ ?_
          refine c_region ?_
          refine s_val (v_moveC rfl) rfl ?_
          refine s_val (v_addN (b := 64) rfl rfl (by omega)) rfl ?_
          refine s_val (v_assignC rfl) rfl ?_
          refine s_nil ?_
          exact ⟨(j5 + 1, _), by kernel_rfl, rfl⟩
  · try dsimp only
    have hY13 : (rf256_L5 (cut b o n) (((((n + 1) + (120 - (n + 1) % 64) % 64) + 8) + 63) / 64)).length = 8 := by rw [rf256_L5_len (cut b o n) _]; try omega
    generalize rf256_L5 (cut b o n) (((((n + 1) + (120 - (n + 1) % 64) % 64) + 8) + 63) / 64) = Y13 at *
    refine S_ ?_
    refine c_region ?_
    refine s_val (v_moveC rfl) rfl ?_
    refine s_val (v_moveC rfl) rfl ?_
    refine s_val (v_lenS rfl Try.underlying22) rfl ?_
    refine s_val (v_lssN rfl rfl) rfl ?_
    refine s_nil ?_
    refine S_ ?_
    refine c_region ?_
    refine s_memN (m_alloc al_23 LEN_) APP_ rfl ?_
    refine s_nil ?_
    refine S_ ?_
    refine c_region ?_
    refine s_val (v_assignC rfl) rfl ?_
    refine s_nil ?_
    refine S_ ?_
    refine c_loopC [2, 4, 19, 20] (fun (zz : Nat × List (BitVec 8)) => ⟨208, keepT [2, 4, 19, 20] [.c (.ptr 1 0), .c (.ptr 2 0), .c (.ptr 3 0), .c (.val (.int .i64 (((zz.1 : Nat) : Int))))], [.row false (.a8 (b)), .row true (.a8 (zer8 32)), .row true (.a32 (Y13)), .row true (.a8 (zz.2))]⟩) (fun j32 => (j32, rf256_L32 Y13 j32)) (32) (by kernel_rfl) ?_ ?_
    · intro j32 hj32
      try dsimp only
      have hX14 : (rf256_L32 Y13 j32).length = 32 := by rw [rf256_L32_len Y13 hY13 _]; try omega
      rw [rf256_L32.eq_2, rf256_L32_S]
      try simp only [htx]
      generalize rf256_L32 Y13 j32 = X14 at *
      refine S_ ?_
      refine c_region ?_
      refine s_val (v_moveC rfl) rfl ?_
      refine s_val (v_lssN (b := 32) rfl rfl) rfl ?_
      refine s_nil ?_
      refine S_ ?_
      refine c_region ?_
      refine s_val (v_moveC rfl) rfl ?_
      refine s_val (v_moveC rfl) rfl ?_
      refine s_val (v_quoN (b := 4) rfl rfl (by omega) (by omega)) rfl ?_
      refine s_val (v_idxA1 rfl rfl Try.underlying37 sz_36 (by omega)) rfl ?_
      refine s_val (v_load32 rfl rfl row_36 LT_) rfl ?_
      refine s_val (v_moveC rfl) rfl ?_
      refine s_val (v_remN (b := 4) rfl rfl (by omega) (by omega)) rfl ?_
      refine s_val (v_mulN (a := 8) rfl rfl (by omega)) rfl ?_
      first
        | refine s_val (v_subN (a := 24) rfl rfl (by omega) (by omega)) rfl ?_
        | refine s_val (v_subI rfl rfl (by omega)) rfl ?_
      refine s_val (v_conv rfl Try.underlying3 Try.underlying45 (wi_64 _)) rfl ?_
      refine s_val (v_shr32w rfl rfl) rfl ?_
      refine s_val (v_conv rfl Try.underlying36 Try.underlying5 (w32_8 _)) rfl ?_
      refine s_val (v_idxA1 rfl rfl Try.underlying23 sz_5 (by omega)) rfl ?_
      refine s_store8 rfl rfl rfl sz_5 LT_ SET_ ?_
      refine s_nil ?_
      refine S_ ?_
      refine c_region ?_
      refine s_val (v_moveC rfl) rfl ?_
      refine s_val (v_addN (b := 1) rfl rfl (by omega)) rfl ?_
      refine s_val (v_assignC rfl) rfl ?_
      refine s_nil ?_
      exact ⟨(j32 + 1, _), by kernel_rfl, rfl⟩
    · try dsimp only
      have hY15 : (rf256_L32 Y13 32).length = 32 := by rw [rf256_L32_len Y13 hY13 _]; try omega
      generalize rf256_L32 Y13 32 = Y15 at *
      refine S_ ?_
      refine c_region ?_
      refine s_val (v_moveC rfl) rfl ?_
      refine s_val (v_lssN (a := 32) (b := 32) rfl rfl) rfl ?_
      refine s_nil ?_
      refine S_ ?_
      refine c_region ?_
      refine s_val (v_loadR rfl rfl row_23 sz_23 EQ_ (by decide)) rfl ?_
      refine s_storeR rfl rfl rfl rfl sz_23 EQ_ EQ_ SET_ ?_
      refine s_nil ?_
      refine S_ ?_
      rw [hP.out]
      exact k_1 (r_row rfl rfl row_23 sz_23 EQ_ (by decide)) (by first | kernel_rfl | rfl)
theorem rf256_evS (b : List (BitVec 8)) (n : Nat) (cap : Nat) (hb : b.length = n) (hn : n ≤ 2199023255552) : Ev Try.prog (.call 21 [.c (.sl 0 0 n cap 1)] [.row false (.a8 (b))]) (.val (.agg (.a8 (rf256 b))) [.row false (.a8 (b))]) := by
  have h_ := rf256_ev b 0 n cap (by omega) hn
  rw [cut_all hb] at h_
  exact h_

@[simp] theorem rf256_len (tx : List (BitVec 8)) : (rf256 tx).length = 32 := by
  unfold rf256
  first | (simp [rf256_L13_len, rf256_L9_len, rf256_L20_len, rf256_L27_len, rf256_L5_len, rf256_L32_len, *]; done) | (simp [rf256_L13_len, rf256_L9_len, rf256_L20_len, rf256_L27_len, rf256_L5_len, rf256_L32_len, *]; omega)

attribute [irreducible] rf256
end Go.Proofs.Ytlnekohkbhidnaa
