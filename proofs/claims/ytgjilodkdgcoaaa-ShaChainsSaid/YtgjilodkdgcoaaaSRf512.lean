/- trystref01.Sum512 (Drawn up by a program.) -/
import Derived.Test.YtgjilodkdgcoaaaSRfPad5
import Derived.Test.YtgjilodkdgcoaaaSRfK
namespace Go.Proofs.Ytgjilodkdgcoaaa
open Go.RowKit
def rf512_L13_S (tx : List (BitVec 8)) (j5 : Nat) (j9 : Nat) (X6 : List (BitVec 64)) (j13 : Nat) : List (BitVec 64) := put X6 j9 (((nth X6 j9) <<< 8) ||| ((nth (rfPad5 tx) (((128 * j5) + (8 * j9)) + j13)).setWidth 64))
def rf512_L13 (tx : List (BitVec 8)) (j5 : Nat) (X4 : List (BitVec 64)) (j9 : Nat) : Nat → List (BitVec 64)
  | 0 => X4
  | j13 + 1 => rf512_L13_S tx j5 j9 (rf512_L13 tx j5 X4 j9 j13) j13
theorem rf512_L13_len (tx : List (BitVec 8)) (j5 : Nat) (X4 : List (BitVec 64)) (j9 : Nat) (hX4 : X4.length = 80) (j13 : Nat) : (rf512_L13 tx j5 X4 j9 j13).length = 80 := by
  induction j13 with
  | zero => simp [rf512_L13, *]
  | succ j13 ih => rw [rf512_L13.eq_2, rf512_L13_S]; first | (simp [ih]; done) | (simp [ih]; omega) | (simp [*]; done) | (split <;> first | (simp [ih]; done) | (simp [ih]; omega) | (simp [*]; done))
def rf512_L9_S (tx : List (BitVec 8)) (j5 : Nat) (X4 : List (BitVec 64)) (j9 : Nat) : List (BitVec 64) := if j9 < 16 then (rf512_L13 tx j5 X4 j9 8) else put X4 j9 ((((nth X4 (j9 - 16)) + (nth X4 (j9 - 7))) + (((rfRot64 (nth X4 (j9 - 15)) 1) ^^^ (rfRot64 (nth X4 (j9 - 15)) 8)) ^^^ ((nth X4 (j9 - 15)) >>> 7))) + (((rfRot64 (nth X4 (j9 - 2)) 19) ^^^ (rfRot64 (nth X4 (j9 - 2)) 61)) ^^^ ((nth X4 (j9 - 2)) >>> 6)))
def rf512_L9 (tx : List (BitVec 8)) (j5 : Nat) : Nat → List (BitVec 64)
  | 0 => zer64 80
  | j9 + 1 => rf512_L9_S tx j5 (rf512_L9 tx j5 j9) j9
@[simp] theorem rf512_L9_len (tx : List (BitVec 8)) (j5 : Nat) (j9 : Nat) : (rf512_L9 tx j5 j9).length = 80 := by
  induction j9 with
  | zero => simp [rf512_L9, *]
  | succ j9 ih => rw [rf512_L9.eq_2, rf512_L9_S]; first | (simp [ih]; done) | (simp [ih]; omega) | (simp [rf512_L13_len, *]; done) | (split <;> first | (simp [ih]; done) | (simp [ih]; omega) | (simp [rf512_L13_len, *]; done))
def rf512_L20_S (Y5 : List (BitVec 64)) (X6 : List (BitVec 64)) (j20 : Nat) : List (BitVec 64) := [(((((nth X6 7) + (((rfRot64 (nth X6 4) 14) ^^^ (rfRot64 (nth X6 4) 18)) ^^^ (rfRot64 (nth X6 4) 41))) + (((nth X6 4) &&& (nth X6 5)) ^^^ ((~~~(nth X6 4)) &&& (nth X6 6)))) + (nth rfK512 j20)) + (nth Y5 j20)) + ((((rfRot64 (nth X6 0) 28) ^^^ (rfRot64 (nth X6 0) 34)) ^^^ (rfRot64 (nth X6 0) 39)) + ((((nth X6 0) &&& (nth X6 1)) ^^^ ((nth X6 0) &&& (nth X6 2))) ^^^ ((nth X6 1) &&& (nth X6 2)))), nth X6 0, nth X6 1, nth X6 2, (nth X6 3) + (((((nth X6 7) + (((rfRot64 (nth X6 4) 14) ^^^ (rfRot64 (nth X6 4) 18)) ^^^ (rfRot64 (nth X6 4) 41))) + (((nth X6 4) &&& (nth X6 5)) ^^^ ((~~~(nth X6 4)) &&& (nth X6 6)))) + (nth rfK512 j20)) + (nth Y5 j20)), nth X6 4, nth X6 5, nth X6 6]
def rf512_L20 (X3 : List (BitVec 64)) (Y5 : List (BitVec 64)) : Nat → List (BitVec 64)
  | 0 => X3
  | j20 + 1 => rf512_L20_S Y5 (rf512_L20 X3 Y5 j20) j20
theorem rf512_L20_len (X3 : List (BitVec 64)) (Y5 : List (BitVec 64)) (hX3 : X3.length = 8) (hY5 : Y5.length = 80) (j20 : Nat) : (rf512_L20 X3 Y5 j20).length = 8 := by
  induction j20 with
  | zero => simp [rf512_L20, *]
  | succ j20 ih => rw [rf512_L20.eq_2, rf512_L20_S]; first | (simp [ih]; done) | (simp [ih]; omega) | (simp [rf512_L13_len, rf512_L9_len, *]; done) | (split <;> first | (simp [ih]; done) | (simp [ih]; omega) | (simp [rf512_L13_len, rf512_L9_len, *]; done))
def rf512_L27_S (Y7 : List (BitVec 64)) (X8 : List (BitVec 64)) (j27 : Nat) : List (BitVec 64) := put X8 j27 ((nth X8 j27) + (nth Y7 j27))
def rf512_L27 (X3 : List (BitVec 64)) (Y7 : List (BitVec 64)) : Nat → List (BitVec 64)
  | 0 => X3
  | j27 + 1 => rf512_L27_S Y7 (rf512_L27 X3 Y7 j27) j27
theorem rf512_L27_len (X3 : List (BitVec 64)) (Y7 : List (BitVec 64)) (hX3 : X3.length = 8) (hY7 : Y7.length = 8) (j27 : Nat) : (rf512_L27 X3 Y7 j27).length = 8 := by
  induction j27 with
  | zero => simp [rf512_L27, *]
  | succ j27 ih => rw [rf512_L27.eq_2, rf512_L27_S]; first | (simp [ih]; done) | (simp [ih]; omega) | (simp [rf512_L13_len, rf512_L9_len, rf512_L20_len, *]; done) | (split <;> first | (simp [ih]; done) | (simp [ih]; omega) | (simp [rf512_L13_len, rf512_L9_len, rf512_L20_len, *]; done))
def rf512_L5_S (tx : List (BitVec 8)) (X3 : List (BitVec 64)) (j5 : Nat) : List (BitVec 64) := (rf512_L27 X3 (rf512_L20 X3 (rf512_L9 tx j5 80) 80) 8)
def rf512_L5 (tx : List (BitVec 8)) : Nat → List (BitVec 64)
  | 0 => [7640891576956012808#64, 13503953896175478587#64, 4354685564936845355#64, 11912009170470909681#64, 5840696475078001361#64, 11170449401992604703#64, 2270897969802886507#64, 6620516959819538809#64]
  | j5 + 1 => rf512_L5_S tx (rf512_L5 tx j5) j5
@[simp] theorem rf512_L5_len (tx : List (BitVec 8)) (j5 : Nat) : (rf512_L5 tx j5).length = 8 := by
  induction j5 with
  | zero => simp [rf512_L5, *]
  | succ j5 ih => rw [rf512_L5.eq_2, rf512_L5_S]; first | (simp [ih]; done) | (simp [ih]; omega) | (simp [rf512_L13_len, rf512_L9_len, rf512_L20_len, rf512_L27_len, *]; done) | (split <;> first | (simp [ih]; done) | (simp [ih]; omega) | (simp [rf512_L13_len, rf512_L9_len, rf512_L20_len, rf512_L27_len, *]; done))
def rf512_L32_S (Y13 : List (BitVec 64)) (X14 : List (BitVec 8)) (j32 : Nat) : List (BitVec 8) := put X14 j32 (((nth Y13 (j32 / 8)) >>> (BitVec.ofNat 64 (56 - (8 * (j32 % 8)))).toNat).setWidth 8)
def rf512_L32 (Y13 : List (BitVec 64)) : Nat → List (BitVec 8)
  | 0 => zer8 64
  | j32 + 1 => rf512_L32_S Y13 (rf512_L32 Y13 j32) j32
theorem rf512_L32_len (Y13 : List (BitVec 64)) (hY13 : Y13.length = 8) (j32 : Nat) : (rf512_L32 Y13 j32).length = 64 := by
  induction j32 with
  | zero => simp [rf512_L32, *]
  | succ j32 ih => rw [rf512_L32.eq_2, rf512_L32_S]; first | (simp [ih]; done) | (simp [ih]; omega) | (simp [rf512_L13_len, rf512_L9_len, rf512_L20_len, rf512_L27_len, rf512_L5_len, *]; done) | (split <;> first | (simp [ih]; done) | (simp [ih]; omega) | (simp [rf512_L13_len, rf512_L9_len, rf512_L20_len, rf512_L27_len, rf512_L5_len, *]; done))
def rf512 (tx : List (BitVec 8)) : List (BitVec 8) := (rf512_L32 (rf512_L5 tx (((((tx.length + 1) + (240 - (tx.length + 1) % 128) % 128) + 16) + 127) / 128)) 64)
set_option maxRecDepth 100000 in
set_option maxHeartbeats 2000000 in
theorem rf512_ev (b : List (BitVec 8)) (o : Nat) (n : Nat) (cap : Nat) (hb : o + n ≤ b.length) (hn : n ≤ 2199023255552) : Ev Try.prog (.call 12 [.c (.sl 0 o n cap 1)] [.row false (.a8 (b))]) (.val (.agg (.a8 (rf512 (cut b o n)))) [.row false (.a8 (b))]) := by
  have hP : Hid (rf512 (cut b o n) = (rf512_L32 (rf512_L5 (cut b o n) ((((((cut b o n).length + 1) + (240 - ((cut b o n).length + 1) % 128) % 128) + 16) + 127) / 128)) 64)) := ⟨rfl⟩
  have htx : (cut b o n).length = n := by rw [cut_length]; omega
  try simp only [htx] at hP
  refine c_call Try.func12 rfl Try.ntmps12 rfl LEN_ ?_
  refine S_ ?_
  refine c_region ?_
  refine s_memN (m_alloc al_26 LEN_) APP_ rfl ?_
  refine s_nil ?_
  refine S_ ?_
  refine c_region ?_
  refine s_evN (e_callR (rfK512_ev) ok_24 rfl rfl rfl VAL_) APP_ rfl ?_
  refine s_memN (m_alloc al_48 LEN_) APP_ rfl ?_
  refine s_storeR rfl rfl rfl rfl sz_48 EQ_ EQ_ SET_ ?_
  refine s_nil ?_
  have hQ1 : (rfK512).length = 80 := LQ_
  refine S_ ?_
  refine c_region ?_
  refine s_val (v_bld64 (l := [7640891576956012808#64, 13503953896175478587#64, 4354685564936845355#64, 11912009170470909681#64, 5840696475078001361#64, 11170449401992604703#64, 2270897969802886507#64, 6620516959819538809#64]) zc_45 Try.underlying45 sz_40 rfl rfl (by decide)) rfl ?_
  refine s_memN (m_alloc al_45 LEN_) APP_ rfl ?_
  refine s_storeR rfl rfl rfl rfl sz_45 EQ_ EQ_ SET_ ?_
  refine s_nil ?_
  refine S_ ?_
  refine c_region ?_
  refine s_val (v_moveC rfl) rfl ?_
  refine s_evN (e_callR (rfPad5_ev b o n cap HYP_ HYP_) ok_20 rfl rfl rfl VAL_) APP_ rfl ?_
  refine s_val (v_assignC rfl) rfl ?_
  refine s_nil ?_
  have hQ2 : (rfPad5 (cut b o n)).length = ((n + 1) + (240 - (n + 1) % 128) % 128) + 16 := LQ_
  refine S_ ?_
  refine c_region ?_
  refine s_val (v_assignC rfl) rfl ?_
  refine s_nil ?_
  refine S_ ?_
  refine c_loopC [2, 3, 4, 5, 6] (fun (zz : Nat × List (BitVec 64)) => ⟨208, keepT [2, 3, 4, 5, 6] [.c (.ptr 1 0), .c (.ptr 2 0), .c (.ptr 3 0), .c (.sl 4 0 (((n + 1) + (240 - (n + 1) % 128) % 128) + 16) (((n + 1) + (240 - (n + 1) % 128) % 128) + 16) 1), .c (.val (.int .i64 (((128 * zz.1 : Nat) : Int))))], [.row false (.a8 (b)), .row true (.a8 (zer8 64)), .row true (.a64 (rfK512)), .row true (.a64 (zz.2)), .row true (.a8 (rfPad5 (cut b o n)))]⟩) (fun j5 => (j5, rf512_L5 (cut b o n) j5)) (((((n + 1) + (240 - (n + 1) % 128) % 128) + 16) + 127) / 128) (by kernel_rfl) ?_ ?_
  · intro j5 hj5
    dsimp only
    have hX3 : (rf512_L5 (cut b o n) j5).length = 8 := by rw [rf512_L5_len (cut b o n) _]; try omega
    rw [rf512_L5.eq_2, rf512_L5_S]
    try simp only [htx]
    generalize rf512_L5 (cut b o n) j5 = X3 at *
    refine S_ ?_
    refine c_region ?_
    refine s_val (v_moveC rfl) rfl ?_
    refine s_val (v_moveC rfl) rfl ?_
    refine s_val (v_lenS rfl Try.underlying22) rfl ?_
    refine s_val (v_lssN rfl rfl) rfl ?_
    refine s_nil ?_
    refine S_ ?_
    refine c_region ?_
    refine s_memN (m_alloc al_48 LEN_) APP_ rfl ?_
    refine s_nil ?_
    refine S_ ?_
    refine c_region ?_
    refine s_val (v_assignC rfl) rfl ?_
    refine s_nil ?_
    refine S_ ?_
    refine c_loopC [2, 3, 4, 5, 6, 7, 8] (fun (zz : Nat × List (BitVec 64)) => ⟨208, keepT [2, 3, 4, 5, 6, 7, 8] [.c (.ptr 1 0), .c (.ptr 2 0), .c (.ptr 3 0), .c (.sl 4 0 (((n + 1) + (240 - (n + 1) % 128) % 128) + 16) (((n + 1) + (240 - (n + 1) % 128) % 128) + 16) 1), .c (.val (.int .i64 (((128 * j5 : Nat) : Int)))), .c (.ptr 5 0), .c (.val (.int .i64 (((zz.1 : Nat) : Int))))], [.row false (.a8 (b)), .row true (.a8 (zer8 64)), .row true (.a64 (rfK512)), .row true (.a64 (X3)), .row true (.a8 (rfPad5 (cut b o n))), .row true (.a64 (zz.2))]⟩) (fun j9 => (j9, rf512_L9 (cut b o n) j5 j9)) (80) (by kernel_rfl) ?_ ?_
    · intro j9 hj9
      dsimp only
      have hX4 : (rf512_L9 (cut b o n) j5 j9).length = 80 := by rw [rf512_L9_len (cut b o n) j5 _]; try omega
      rw [rf512_L9.eq_2, rf512_L9_S]
      try simp only [htx]
      generalize rf512_L9 (cut b o n) j5 j9 = X4 at *
      refine S_ ?_
      refine c_region ?_
      refine s_val (v_moveC rfl) rfl ?_
      refine s_val (v_lssN (b := 80) rfl rfl) rfl ?_
      refine s_nil ?_
      refine S_ ?_
      refine c_region ?_
      refine s_val (v_moveC rfl) rfl ?_
      refine s_val (v_lssN (b := 16) rfl rfl) rfl ?_
      refine s_nil ?_
      refine Q_ ?_
      by_cases hc5 : j9 < 16
      · try simp only [if_pos hc5] at *
        refine c_condT rfl (decide_eq_true hc5) ?_
        refine S_ ?_
        refine c_region ?_
        refine s_val (v_assignC rfl) rfl ?_
        refine s_nil ?_
        refine S_ ?_
        refine c_loopC [2, 3, 4, 5, 6, 7, 8, 9] (fun (zz : Nat × List (BitVec 64)) => ⟨208, keepT [2, 3, 4, 5, 6, 7, 8, 9] [.c (.ptr 1 0), .c (.ptr 2 0), .c (.ptr 3 0), .c (.sl 4 0 (((n + 1) + (240 - (n + 1) % 128) % 128) + 16) (((n + 1) + (240 - (n + 1) % 128) % 128) + 16) 1), .c (.val (.int .i64 (((128 * j5 : Nat) : Int)))), .c (.ptr 5 0), .c (.val (.int .i64 (((j9 : Nat) : Int)))), .c (.val (.int .i64 (((zz.1 : Nat) : Int))))], [.row false (.a8 (b)), .row true (.a8 (zer8 64)), .row true (.a64 (rfK512)), .row true (.a64 (X3)), .row true (.a8 (rfPad5 (cut b o n))), .row true (.a64 (zz.2))]⟩) (fun j13 => (j13, rf512_L13 (cut b o n) j5 X4 j9 j13)) (8) (by kernel_rfl) ?_ ?_
        · intro j13 hj13
          dsimp only
          have hX6 : (rf512_L13 (cut b o n) j5 X4 j9 j13).length = 80 := by rw [rf512_L13_len (cut b o n) j5 X4 j9 hX4 _]; try omega
          rw [rf512_L13.eq_2, rf512_L13_S]
          try simp only [htx]
          generalize rf512_L13 (cut b o n) j5 X4 j9 j13 = X6 at *
          refine S_ ?_
          refine c_region ?_
          refine s_val (v_moveC rfl) rfl ?_
          refine s_val (v_lssN (b := 8) rfl rfl) rfl ?_
          refine s_nil ?_
          refine S_ ?_
          refine c_draw 17 mixed (by kernel_rfl) rfl rfl rfl ?_
          refine h_val (v_moveC rfl) rfl ?_
          refine h_val (v_moveC rfl) rfl ?_
          refine h_val (v_idxA1 rfl rfl Try.underlying48 sz_40 (by omega)) rfl ?_
          refine h_val (v_load64 rfl rfl row_40 LT_) rfl ?_
          refine h_val (v_shl64n (j := 8) rfl rfl) rfl ?_
          refine h_val (v_moveC rfl) rfl ?_
          refine h_val (v_moveC rfl) rfl ?_
          refine h_val (v_moveC rfl) rfl ?_
          refine h_val (v_mulN (a := 8) rfl rfl (by omega)) rfl ?_
          refine h_val (v_addN rfl rfl (by omega)) rfl ?_
          refine h_val (v_moveC rfl) rfl ?_
          refine h_val (v_addN rfl rfl (by omega)) rfl ?_
          refine h_val (v_idxS1 rfl rfl Try.underlying22 sz_5 (by omega)) rfl ?_
          refine h_val (v_load8 rfl rfl row_5 LT_) rfl ?_
          refine h_val (v_conv rfl Try.underlying5 Try.underlying40 (w8_64 _)) rfl ?_
          refine h_val (v_or64 rfl rfl) rfl ?_
          refine h_val (v_idxA1 rfl rfl Try.underlying48 sz_40 (by omega)) rfl ?_
          refine h_nil ?_
          refine s_store64 rfl rfl rfl sz_40 LT_ SET_ ?_
          refine s_nil ?_
          refine S_ ?_
          refine c_region ?_
          refine s_val (v_moveC rfl) rfl ?_
          refine s_val (v_addN (b := 1) rfl rfl (by omega)) rfl ?_
          refine s_val (v_assignC rfl) rfl ?_
          refine s_nil ?_
          exact ⟨(j13 + 1, _), by kernel_rfl, rfl⟩
        · dsimp only
          have hY7 : (rf512_L13 (cut b o n) j5 X4 j9 8).length = 80 := by rw [rf512_L13_len (cut b o n) j5 X4 j9 hX4 _]; try omega
          generalize rf512_L13 (cut b o n) j5 X4 j9 8 = Y7 at *
          refine S_ ?_
          refine c_region ?_
          refine s_val (v_moveC rfl) rfl ?_
          refine s_val (v_lssN (b := 8) rfl rfl) rfl ?_
          refine s_nil ?_
          refine S_ ?_
          refine c_region ?_
          refine s_val (v_moveC rfl) rfl ?_
          refine s_val (v_addN (b := 1) rfl rfl (by omega)) rfl ?_
          refine s_val (v_assignC rfl) rfl ?_
          refine s_nil ?_
          exact ⟨(j9 + 1, _), by kernel_rfl, rfl⟩
      · try simp only [if_neg hc5] at *
        refine c_condF rfl (decide_eq_false hc5) ?_
        refine S_ ?_
        refine c_draw 10 mixed (by kernel_rfl) rfl rfl rfl ?_
        refine h_val (v_moveC rfl) rfl ?_
        first
          | refine h_val (v_subN (b := 15) rfl rfl (by omega) (by omega)) rfl ?_
          | refine h_val (v_subI rfl rfl (by omega)) rfl ?_
        refine h_val (v_idxA1 rfl rfl Try.underlying48 sz_40 (by omega)) rfl ?_
        refine h_val (v_load64 rfl rfl row_40 LT_) rfl ?_
        refine h_val (v_moveC rfl) rfl ?_
        first
          | refine h_val (v_subN (b := 2) rfl rfl (by omega) (by omega)) rfl ?_
          | refine h_val (v_subI rfl rfl (by omega)) rfl ?_
        refine h_val (v_idxA1 rfl rfl Try.underlying48 sz_40 (by omega)) rfl ?_
        refine h_val (v_load64 rfl rfl row_40 LT_) rfl ?_
        refine h_val (v_assignC rfl) rfl ?_
        refine h_val (v_assignC rfl) rfl ?_
        refine h_nil ?_
        refine s_nil ?_
        refine S_ ?_
        refine c_draw 29 mixed (by kernel_rfl) rfl rfl rfl ?_
        refine h_val (v_moveC rfl) rfl ?_
        refine h_val (v_moveC rfl) rfl ?_
        first
          | refine h_val (v_subN (b := 16) rfl rfl (by omega) (by omega)) rfl ?_
          | refine h_val (v_subI rfl rfl (by omega)) rfl ?_
        refine h_val (v_idxA1 rfl rfl Try.underlying48 sz_40 (by omega)) rfl ?_
        refine h_val (v_load64 rfl rfl row_40 LT_) rfl ?_
        refine h_val (v_moveC rfl) rfl ?_
        first
          | refine h_val (v_subN (b := 7) rfl rfl (by omega) (by omega)) rfl ?_
          | refine h_val (v_subI rfl rfl (by omega)) rfl ?_
        refine h_val (v_idxA1 rfl rfl Try.underlying48 sz_40 (by omega)) rfl ?_
        refine h_val (v_load64 rfl rfl row_40 LT_) rfl ?_
        refine h_val (v_add64 rfl rfl) rfl ?_
        refine h_val (v_moveC rfl) rfl ?_
        refine h_evN (e_callR (rfRot64_ev (nth X4 (j9 - 15)) 1 HYP_) ok_25 rfl rfl rfl VAL_) APP_ rfl ?_
        refine h_val (v_moveC rfl) rfl ?_
        refine h_evN (e_callR (rfRot64_ev (nth X4 (j9 - 15)) 8 HYP_) ok_25 rfl rfl rfl VAL_) APP_ rfl ?_
        refine h_val (v_xor64 rfl rfl) rfl ?_
        refine h_val (v_moveC rfl) rfl ?_
        refine h_val (v_shr64n (j := 7) rfl rfl) rfl ?_
        refine h_val (v_xor64 rfl rfl) rfl ?_
        refine h_val (v_add64 rfl rfl) rfl ?_
        refine h_val (v_moveC rfl) rfl ?_
        refine h_evN (e_callR (rfRot64_ev (nth X4 (j9 - 2)) 19 HYP_) ok_25 rfl rfl rfl VAL_) APP_ rfl ?_
        refine h_val (v_moveC rfl) rfl ?_
        refine h_evN (e_callR (rfRot64_ev (nth X4 (j9 - 2)) 61 HYP_) ok_25 rfl rfl rfl VAL_) APP_ rfl ?_
        refine h_val (v_xor64 rfl rfl) rfl ?_
        refine h_val (v_moveC rfl) rfl ?_
        refine h_val (v_shr64n (j := 6) rfl rfl) rfl ?_
        refine h_val (v_xor64 rfl rfl) rfl ?_
        refine h_val (v_add64 rfl rfl) rfl ?_
        refine h_val (v_idxA1 rfl rfl Try.underlying48 sz_40 (by omega)) rfl ?_
        refine h_nil ?_
        refine s_store64 rfl rfl rfl sz_40 LT_ SET_ ?_
        refine s_nil ?_
        refine S_ ?_
        refine c_region ?_
        refine s_val (v_moveC rfl) rfl ?_
        refine s_val (v_addN (b := 1) rfl rfl (by omega)) rfl ?_
        refine s_val (v_assignC rfl) rfl ?_
        refine s_nil ?_
        exact ⟨(j9 + 1, _), by kernel_rfl, rfl⟩
    · dsimp only
      have hY8 : (rf512_L9 (cut b o n) j5 80).length = 80 := by rw [rf512_L9_len (cut b o n) j5 _]; try omega
      generalize rf512_L9 (cut b o n) j5 80 = Y8 at *
      refine S_ ?_
      refine c_region ?_
      refine s_val (v_moveC rfl) rfl ?_
      refine s_val (v_lssN (b := 80) rfl rfl) rfl ?_
      refine s_nil ?_
      refine S_ ?_
      refine c_region ?_
      refine s_val (v_loadR rfl rfl row_45 sz_45 EQ_ (by decide)) rfl ?_
      refine s_memN (m_alloc al_45 LEN_) APP_ rfl ?_
      refine s_storeR rfl rfl rfl rfl sz_45 EQ_ EQ_ SET_ ?_
      refine s_nil ?_
      refine S_ ?_
      refine c_region ?_
      refine s_val (v_assignC rfl) rfl ?_
      refine s_nil ?_
      refine S_ ?_
      refine c_loopC [2, 3, 4, 5, 6, 7, 12, 13] (fun (zz : Nat × List (BitVec 64)) => ⟨208, keepT [2, 3, 4, 5, 6, 7, 12, 13] [.c (.ptr 1 0), .c (.ptr 2 0), .c (.ptr 3 0), .c (.sl 4 0 (((n + 1) + (240 - (n + 1) % 128) % 128) + 16) (((n + 1) + (240 - (n + 1) % 128) % 128) + 16) 1), .c (.val (.int .i64 (((128 * j5 : Nat) : Int)))), .c (.ptr 5 0), .c (.ptr 6 0), .c (.val (.int .i64 (((zz.1 : Nat) : Int))))], [.row false (.a8 (b)), .row true (.a8 (zer8 64)), .row true (.a64 (rfK512)), .row true (.a64 (X3)), .row true (.a8 (rfPad5 (cut b o n))), .row true (.a64 (Y8)), .row true (.a64 (zz.2))]⟩) (fun j20 => (j20, rf512_L20 X3 Y8 j20)) (80) (by kernel_rfl) ?_ ?_
      · intro j20 hj20
        dsimp only
        have hX9 : (rf512_L20 X3 Y8 j20).length = 8 := by rw [rf512_L20_len X3 Y8 hX3 hY8 _]; try omega
        rw [rf512_L20.eq_2, rf512_L20_S]
        try simp only [htx]
        generalize rf512_L20 X3 Y8 j20 = X9 at *
        refine S_ ?_
        refine c_region ?_
        refine s_val (v_moveC rfl) rfl ?_
        refine s_val (v_lssN (b := 80) rfl rfl) rfl ?_
        refine s_nil ?_
        refine S_ ?_
        refine c_draw 6 mixed (by kernel_rfl) rfl rfl rfl ?_
        refine h_val (v_idxA1 (j := 0) rfl rfl Try.underlying45 sz_40 (by omega)) rfl ?_
        refine h_val (v_load64 rfl rfl row_40 LT_) rfl ?_
        refine h_val (v_idxA1 (j := 4) rfl rfl Try.underlying45 sz_40 (by omega)) rfl ?_
        refine h_val (v_load64 rfl rfl row_40 LT_) rfl ?_
        refine h_val (v_assignC rfl) rfl ?_
        refine h_val (v_assignC rfl) rfl ?_
        refine h_nil ?_
        refine s_nil ?_
        refine S_ ?_
        refine c_draw 31 mixed (by kernel_rfl) rfl rfl rfl ?_
        refine h_val (v_idxA1 (j := 7) rfl rfl Try.underlying45 sz_40 (by omega)) rfl ?_
        refine h_val (v_load64 rfl rfl row_40 LT_) rfl ?_
        refine h_val (v_moveC rfl) rfl ?_
        refine h_evN (e_callR (rfRot64_ev (nth X9 4) 14 HYP_) ok_25 rfl rfl rfl VAL_) APP_ rfl ?_
        refine h_val (v_moveC rfl) rfl ?_
        refine h_evN (e_callR (rfRot64_ev (nth X9 4) 18 HYP_) ok_25 rfl rfl rfl VAL_) APP_ rfl ?_
        refine h_val (v_xor64 rfl rfl) rfl ?_
        refine h_val (v_moveC rfl) rfl ?_
        refine h_evN (e_callR (rfRot64_ev (nth X9 4) 41 HYP_) ok_25 rfl rfl rfl VAL_) APP_ rfl ?_
        refine h_val (v_xor64 rfl rfl) rfl ?_
        refine h_val (v_add64 rfl rfl) rfl ?_
        refine h_val (v_moveC rfl) rfl ?_
        refine h_val (v_idxA1 (j := 5) rfl rfl Try.underlying45 sz_40 (by omega)) rfl ?_
        refine h_val (v_load64 rfl rfl row_40 LT_) rfl ?_
        refine h_val (v_and64 rfl rfl) rfl ?_
        refine h_val (v_moveC rfl) rfl ?_
        refine h_val (v_unxor64 rfl) rfl ?_
        refine h_val (v_idxA1 (j := 6) rfl rfl Try.underlying45 sz_40 (by omega)) rfl ?_
        refine h_val (v_load64 rfl rfl row_40 LT_) rfl ?_
        refine h_val (v_and64 rfl rfl) rfl ?_
        refine h_val (v_xor64 rfl rfl) rfl ?_
        refine h_val (v_add64 rfl rfl) rfl ?_
        refine h_val (v_moveC rfl) rfl ?_
        refine h_val (v_idxA1 rfl rfl Try.underlying48 sz_40 (by omega)) rfl ?_
        refine h_val (v_load64 rfl rfl row_40 LT_) rfl ?_
        refine h_val (v_add64 rfl rfl) rfl ?_
        refine h_val (v_moveC rfl) rfl ?_
        refine h_val (v_idxA1 rfl rfl Try.underlying48 sz_40 (by omega)) rfl ?_
        refine h_val (v_load64 rfl rfl row_40 LT_) rfl ?_
        refine h_val (v_add64 rfl rfl) rfl ?_
        refine h_val (v_assignC rfl) rfl ?_
        refine h_nil ?_
        refine s_nil ?_
        refine S_ ?_
        refine c_draw 25 mixed (by kernel_rfl) rfl rfl rfl ?_
        refine h_val (v_moveC rfl) rfl ?_
        refine h_evN (e_callR (rfRot64_ev (nth X9 0) 28 HYP_) ok_25 rfl rfl rfl VAL_) APP_ rfl ?_
        refine h_val (v_moveC rfl) rfl ?_
        refine h_evN (e_callR (rfRot64_ev (nth X9 0) 34 HYP_) ok_25 rfl rfl rfl VAL_) APP_ rfl ?_
        refine h_val (v_xor64 rfl rfl) rfl ?_
        refine h_val (v_moveC rfl) rfl ?_
        refine h_evN (e_callR (rfRot64_ev (nth X9 0) 39 HYP_) ok_25 rfl rfl rfl VAL_) APP_ rfl ?_
        refine h_val (v_xor64 rfl rfl) rfl ?_
        refine h_val (v_moveC rfl) rfl ?_
        refine h_val (v_idxA1 (j := 1) rfl rfl Try.underlying45 sz_40 (by omega)) rfl ?_
        refine h_val (v_load64 rfl rfl row_40 LT_) rfl ?_
        refine h_val (v_and64 rfl rfl) rfl ?_
        refine h_val (v_moveC rfl) rfl ?_
        refine h_val (v_idxA1 (j := 2) rfl rfl Try.underlying45 sz_40 (by omega)) rfl ?_
        refine h_val (v_load64 rfl rfl row_40 LT_) rfl ?_
        refine h_val (v_and64 rfl rfl) rfl ?_
        refine h_val (v_xor64 rfl rfl) rfl ?_
        refine h_val (v_idxA1 (j := 1) rfl rfl Try.underlying45 sz_40 (by omega)) rfl ?_
        refine h_val (v_load64 rfl rfl row_40 LT_) rfl ?_
        refine h_val (v_idxA1 (j := 2) rfl rfl Try.underlying45 sz_40 (by omega)) rfl ?_
        refine h_val (v_load64 rfl rfl row_40 LT_) rfl ?_
        refine h_val (v_and64 rfl rfl) rfl ?_
        refine h_val (v_xor64 rfl rfl) rfl ?_
        refine h_val (v_add64 rfl rfl) rfl ?_
        refine h_val (v_assignC rfl) rfl ?_
        refine h_nil ?_
        refine s_nil ?_
        refine S_ ?_
        refine c_region ?_
        refine s_val (v_moveC rfl) rfl ?_
        refine s_val (v_moveC rfl) rfl ?_
        refine s_val (v_add64 rfl rfl) rfl ?_
        refine s_val (v_idxA1 (j := 0) rfl rfl Try.underlying45 sz_40 (by omega)) rfl ?_
        refine s_val (v_load64 rfl rfl row_40 LT_) rfl ?_
        refine s_val (v_idxA1 (j := 1) rfl rfl Try.underlying45 sz_40 (by omega)) rfl ?_
        refine s_val (v_load64 rfl rfl row_40 LT_) rfl ?_
        refine s_val (v_idxA1 (j := 2) rfl rfl Try.underlying45 sz_40 (by omega)) rfl ?_
        refine s_val (v_load64 rfl rfl row_40 LT_) rfl ?_
        refine s_val (v_idxA1 (j := 3) rfl rfl Try.underlying45 sz_40 (by omega)) rfl ?_
        refine s_val (v_load64 rfl rfl row_40 LT_) rfl ?_
        refine s_val (v_moveC rfl) rfl ?_
        refine s_val (v_add64 rfl rfl) rfl ?_
        refine s_val (v_idxA1 (j := 4) rfl rfl Try.underlying45 sz_40 (by omega)) rfl ?_
        refine s_val (v_load64 rfl rfl row_40 LT_) rfl ?_
        refine s_val (v_idxA1 (j := 5) rfl rfl Try.underlying45 sz_40 (by omega)) rfl ?_
        refine s_val (v_load64 rfl rfl row_40 LT_) rfl ?_
        refine s_val (v_idxA1 (j := 6) rfl rfl Try.underlying45 sz_40 (by omega)) rfl ?_
        refine s_val (v_load64 rfl rfl row_40 LT_) rfl ?_
        refine s_val (v_bld64 (l := [_, _, _, _, _, _, _, _]) zc_45 Try.underlying45 sz_40 rfl rfl (by decide)) rfl ?_
        refine s_storeR rfl rfl rfl rfl sz_45 EQ_ EQ_ SET_ ?_
        refine s_nil ?_
        refine S_ ?_
        refine c_region ?_
        refine s_val (v_moveC rfl) rfl ?_
        refine s_val (v_addN (b := 1) rfl rfl (by omega)) rfl ?_
        refine s_val (v_assignC rfl) rfl ?_
        refine s_nil ?_
        exact ⟨(j20 + 1, _), by kernel_rfl, rfl⟩
      · dsimp only
        have hY10 : (rf512_L20 X3 Y8 80).length = 8 := by rw [rf512_L20_len X3 Y8 hX3 hY8 _]; try omega
        generalize rf512_L20 X3 Y8 80 = Y10 at *
        refine S_ ?_
        refine c_region ?_
        refine s_val (v_moveC rfl) rfl ?_
        refine s_val (v_lssN (b := 80) rfl rfl) rfl ?_
        refine s_nil ?_
        refine S_ ?_
        refine c_region ?_
        refine s_val (v_assignC rfl) rfl ?_
        refine s_nil ?_
        refine S_ ?_
        refine c_loopC [2, 3, 4, 5, 6, 12, 18] (fun (zz : Nat × List (BitVec 64)) => ⟨208, keepT [2, 3, 4, 5, 6, 12, 18] [.c (.ptr 1 0), .c (.ptr 2 0), .c (.ptr 3 0), .c (.sl 4 0 (((n + 1) + (240 - (n + 1) % 128) % 128) + 16) (((n + 1) + (240 - (n + 1) % 128) % 128) + 16) 1), .c (.val (.int .i64 (((128 * j5 : Nat) : Int)))), .c (.ptr 5 0), .c (.val (.int .i64 (((zz.1 : Nat) : Int))))], [.row false (.a8 (b)), .row true (.a8 (zer8 64)), .row true (.a64 (rfK512)), .row true (.a64 (zz.2)), .row true (.a8 (rfPad5 (cut b o n))), .row true (.a64 (Y10))]⟩) (fun j27 => (j27, rf512_L27 X3 Y10 j27)) (8) (by kernel_rfl) ?_ ?_
        · intro j27 hj27
          dsimp only
          have hX11 : (rf512_L27 X3 Y10 j27).length = 8 := by rw [rf512_L27_len X3 Y10 hX3 hY10 _]; try omega
          rw [rf512_L27.eq_2, rf512_L27_S]
          try simp only [htx]
          generalize rf512_L27 X3 Y10 j27 = X11 at *
          refine S_ ?_
          refine c_region ?_
          refine s_val (v_moveC rfl) rfl ?_
          refine s_val (v_lssN (b := 8) rfl rfl) rfl ?_
          refine s_nil ?_
          refine S_ ?_
          refine c_draw 8 mixed (by kernel_rfl) rfl rfl rfl ?_
          refine h_val (v_moveC rfl) rfl ?_
          refine h_val (v_idxA1 rfl rfl Try.underlying45 sz_40 (by omega)) rfl ?_
          refine h_val (v_load64 rfl rfl row_40 LT_) rfl ?_
          refine h_val (v_moveC rfl) rfl ?_
          refine h_val (v_idxA1 rfl rfl Try.underlying45 sz_40 (by omega)) rfl ?_
          refine h_val (v_load64 rfl rfl row_40 LT_) rfl ?_
          refine h_val (v_add64 rfl rfl) rfl ?_
          refine h_val (v_idxA1 rfl rfl Try.underlying45 sz_40 (by omega)) rfl ?_
          refine h_nil ?_
          refine s_store64 rfl rfl rfl sz_40 LT_ SET_ ?_
          refine s_nil ?_
          refine S_ ?_
          refine c_region ?_
          refine s_val (v_moveC rfl) rfl ?_
          refine s_val (v_addN (b := 1) rfl rfl (by omega)) rfl ?_
          refine s_val (v_assignC rfl) rfl ?_
          refine s_nil ?_
          exact ⟨(j27 + 1, _), by kernel_rfl, rfl⟩
        · dsimp only
          have hY12 : (rf512_L27 X3 Y10 8).length = 8 := by rw [rf512_L27_len X3 Y10 hX3 hY10 _]; try omega
          generalize rf512_L27 X3 Y10 8 = Y12 at *
          refine S_ ?_
          refine c_region ?_
          refine s_val (v_moveC rfl) rfl ?_
          refine s_val (v_lssN (b := 8) rfl rfl) rfl ?_
          refine s_nil ?_
          refine S_ ?_
          refine c_region ?_
          refine s_val (v_moveC rfl) rfl ?_
          refine s_val (v_addN (b := 128) rfl rfl (by omega)) rfl ?_
          refine s_val (v_assignC rfl) rfl ?_
          refine s_nil ?_
          exact ⟨(j5 + 1, _), by kernel_rfl, rfl⟩
  · dsimp only
    have hY13 : (rf512_L5 (cut b o n) (((((n + 1) + (240 - (n + 1) % 128) % 128) + 16) + 127) / 128)).length = 8 := by rw [rf512_L5_len (cut b o n) _]; try omega
    generalize rf512_L5 (cut b o n) (((((n + 1) + (240 - (n + 1) % 128) % 128) + 16) + 127) / 128) = Y13 at *
    refine S_ ?_
    refine c_region ?_
    refine s_val (v_moveC rfl) rfl ?_
    refine s_val (v_moveC rfl) rfl ?_
    refine s_val (v_lenS rfl Try.underlying22) rfl ?_
    refine s_val (v_lssN rfl rfl) rfl ?_
    refine s_nil ?_
    refine S_ ?_
    refine c_region ?_
    refine s_memN (m_alloc al_26 LEN_) APP_ rfl ?_
    refine s_nil ?_
    refine S_ ?_
    refine c_region ?_
    refine s_val (v_assignC rfl) rfl ?_
    refine s_nil ?_
    refine S_ ?_
    refine c_loopC [2, 4, 19, 20] (fun (zz : Nat × List (BitVec 8)) => ⟨208, keepT [2, 4, 19, 20] [.c (.ptr 1 0), .c (.ptr 2 0), .c (.ptr 3 0), .c (.val (.int .i64 (((zz.1 : Nat) : Int))))], [.row false (.a8 (b)), .row true (.a8 (zer8 64)), .row true (.a64 (Y13)), .row true (.a8 (zz.2))]⟩) (fun j32 => (j32, rf512_L32 Y13 j32)) (64) (by kernel_rfl) ?_ ?_
    · intro j32 hj32
      dsimp only
      have hX14 : (rf512_L32 Y13 j32).length = 64 := by rw [rf512_L32_len Y13 hY13 _]; try omega
      rw [rf512_L32.eq_2, rf512_L32_S]
      try simp only [htx]
      generalize rf512_L32 Y13 j32 = X14 at *
      refine S_ ?_
      refine c_region ?_
      refine s_val (v_moveC rfl) rfl ?_
      refine s_val (v_lssN (b := 64) rfl rfl) rfl ?_
      refine s_nil ?_
      refine S_ ?_
      refine c_region ?_
      refine s_val (v_moveC rfl) rfl ?_
      refine s_val (v_moveC rfl) rfl ?_
      refine s_val (v_quoN (b := 8) rfl rfl (by omega) (by omega)) rfl ?_
      refine s_val (v_idxA1 rfl rfl Try.underlying45 sz_40 (by omega)) rfl ?_
      refine s_val (v_load64 rfl rfl row_40 LT_) rfl ?_
      refine s_val (v_moveC rfl) rfl ?_
      refine s_val (v_remN (b := 8) rfl rfl (by omega) (by omega)) rfl ?_
      refine s_val (v_mulN (a := 8) rfl rfl (by omega)) rfl ?_
      first
        | refine s_val (v_subN (a := 56) rfl rfl (by omega) (by omega)) rfl ?_
        | refine s_val (v_subI rfl rfl (by omega)) rfl ?_
      refine s_val (v_conv rfl Try.underlying3 Try.underlying43 (wi_64 _)) rfl ?_
      refine s_val (v_shr64w rfl rfl) rfl ?_
      refine s_val (v_conv rfl Try.underlying40 Try.underlying5 (w64_8 _)) rfl ?_
      refine s_val (v_idxA1 rfl rfl Try.underlying26 sz_5 (by omega)) rfl ?_
      refine s_store8 rfl rfl rfl sz_5 LT_ SET_ ?_
      refine s_nil ?_
      refine S_ ?_
      refine c_region ?_
      refine s_val (v_moveC rfl) rfl ?_
      refine s_val (v_addN (b := 1) rfl rfl (by omega)) rfl ?_
      refine s_val (v_assignC rfl) rfl ?_
      refine s_nil ?_
      exact ⟨(j32 + 1, _), by kernel_rfl, rfl⟩
    · dsimp only
      have hY15 : (rf512_L32 Y13 64).length = 64 := by rw [rf512_L32_len Y13 hY13 _]; try omega
      generalize rf512_L32 Y13 64 = Y15 at *
      refine S_ ?_
      refine c_region ?_
      refine s_val (v_moveC rfl) rfl ?_
      refine s_val (v_lssN (b := 64) rfl rfl) rfl ?_
      refine s_nil ?_
      refine S_ ?_
      refine c_region ?_
      refine s_val (v_loadR rfl rfl row_26 sz_26 EQ_ (by decide)) rfl ?_
      refine s_storeR rfl rfl rfl rfl sz_26 EQ_ EQ_ SET_ ?_
      refine s_nil ?_
      refine S_ ?_
      rw [hP.out]
      exact k_1 (r_row rfl rfl row_26 sz_26 EQ_ (by decide)) (by first | kernel_rfl | rfl)
theorem rf512_evS (b : List (BitVec 8)) (n : Nat) (cap : Nat) (hb : b.length = n) (hn : n ≤ 2199023255552) : Ev Try.prog (.call 12 [.c (.sl 0 0 n cap 1)] [.row false (.a8 (b))]) (.val (.agg (.a8 (rf512 b))) [.row false (.a8 (b))]) := by
  have h_ := rf512_ev b 0 n cap (by omega) hn
  rw [cut_all hb] at h_
  exact h_

@[simp] theorem rf512_len (tx : List (BitVec 8)) : (rf512 tx).length = 64 := by
  unfold rf512
  simp [rf512_L13_len, rf512_L9_len, rf512_L20_len, rf512_L27_len, rf512_L5_len, rf512_L13_len, rf512_L9_len, rf512_L13_len, rf512_L20_len, rf512_L27_len, rf512_L32_len, *]

attribute [irreducible] rf512
end Go.Proofs.Ytgjilodkdgcoaaa
