/- sha.Sum512 (Drawn up by a program.) -/
import Derived.Test.YtgjilodkdgcoaaaSPad5
import Derived.Test.YtgjilodkdgcoaaaSRot
namespace Go.Proofs.Ytgjilodkdgcoaaa
open Go.RowKit
def sha512_L8_S (tx : List (BitVec 8)) (j4 : Nat) (X4 : List (BitVec 64)) (j8 : Nat) : List (BitVec 64) := if j8 < 16 then put X4 j8 (shaHigh (shaPad5 tx) ((128 * j4) + (8 * j8)) (((8 * j8) + 8) - (8 * j8))) else put X4 j8 ((((nth X4 (j8 - 16)) + (((rotl64 (nth X4 (j8 - 15)) (-1)) ^^^ (rotl64 (nth X4 (j8 - 15)) (-8))) ^^^ ((nth X4 (j8 - 15)) >>> 7))) + (nth X4 (j8 - 7))) + (((rotl64 (nth X4 (j8 - 2)) (-19)) ^^^ (rotl64 (nth X4 (j8 - 2)) (-61))) ^^^ ((nth X4 (j8 - 2)) >>> 6)))
def sha512_L8 (tx : List (BitVec 8)) (j4 : Nat) : Nat → List (BitVec 64)
  | 0 => zer64 80
  | j8 + 1 => sha512_L8_S tx j4 (sha512_L8 tx j4 j8) j8
@[simp] theorem sha512_L8_len (tx : List (BitVec 8)) (j4 : Nat) (j8 : Nat) : (sha512_L8 tx j4 j8).length = 80 := by
  induction j8 with
  | zero => simp [sha512_L8, *]
  | succ j8 ih => rw [sha512_L8.eq_2, sha512_L8_S]; first | (simp [ih]; done) | (simp [ih]; omega) | (simp [*]; done) | (split <;> first | (simp [ih]; done) | (simp [ih]; omega) | (simp [*]; done))
def sha512_L19_S (Y5 : List (BitVec 64)) (X6 : List (BitVec 64)) (j19 : Nat) : List (BitVec 64) := [(((((nth X6 7) + (((rotl64 (nth X6 4) (-14)) ^^^ (rotl64 (nth X6 4) (-18))) ^^^ (rotl64 (nth X6 4) (-41)))) + (((nth X6 4) &&& (nth X6 5)) ^^^ ((~~~(nth X6 4)) &&& (nth X6 6)))) + (nth shaK512 j19)) + (nth Y5 j19)) + ((((rotl64 (nth X6 0) (-28)) ^^^ (rotl64 (nth X6 0) (-34))) ^^^ (rotl64 (nth X6 0) (-39))) + ((((nth X6 0) &&& (nth X6 1)) ^^^ ((nth X6 0) &&& (nth X6 2))) ^^^ ((nth X6 1) &&& (nth X6 2)))), nth X6 0, nth X6 1, nth X6 2, (nth X6 3) + (((((nth X6 7) + (((rotl64 (nth X6 4) (-14)) ^^^ (rotl64 (nth X6 4) (-18))) ^^^ (rotl64 (nth X6 4) (-41)))) + (((nth X6 4) &&& (nth X6 5)) ^^^ ((~~~(nth X6 4)) &&& (nth X6 6)))) + (nth shaK512 j19)) + (nth Y5 j19)), nth X6 4, nth X6 5, nth X6 6]
def sha512_L19 (X3 : List (BitVec 64)) (Y5 : List (BitVec 64)) : Nat → List (BitVec 64)
  | 0 => X3
  | j19 + 1 => sha512_L19_S Y5 (sha512_L19 X3 Y5 j19) j19
theorem sha512_L19_len (X3 : List (BitVec 64)) (Y5 : List (BitVec 64)) (hX3 : X3.length = 8) (hY5 : Y5.length = 80) (j19 : Nat) : (sha512_L19 X3 Y5 j19).length = 8 := by
  induction j19 with
  | zero => simp [sha512_L19, *]
  | succ j19 ih => rw [sha512_L19.eq_2, sha512_L19_S]; first | (simp [ih]; done) | (simp [ih]; omega) | (simp [sha512_L8_len, *]; done) | (split <;> first | (simp [ih]; done) | (simp [ih]; omega) | (simp [sha512_L8_len, *]; done))
def sha512_L29_S (Y7 : List (BitVec 64)) (X8 : List (BitVec 64)) (j29 : Nat) : List (BitVec 64) := put X8 j29 ((nth X8 j29) + (nth Y7 j29))
def sha512_L29 (X3 : List (BitVec 64)) (Y7 : List (BitVec 64)) : Nat → List (BitVec 64)
  | 0 => X3
  | j29 + 1 => sha512_L29_S Y7 (sha512_L29 X3 Y7 j29) j29
theorem sha512_L29_len (X3 : List (BitVec 64)) (Y7 : List (BitVec 64)) (hX3 : X3.length = 8) (hY7 : Y7.length = 8) (j29 : Nat) : (sha512_L29 X3 Y7 j29).length = 8 := by
  induction j29 with
  | zero => simp [sha512_L29, *]
  | succ j29 ih => rw [sha512_L29.eq_2, sha512_L29_S]; first | (simp [ih]; done) | (simp [ih]; omega) | (simp [sha512_L8_len, sha512_L19_len, *]; done) | (split <;> first | (simp [ih]; done) | (simp [ih]; omega) | (simp [sha512_L8_len, sha512_L19_len, *]; done))
def sha512_L4_S (tx : List (BitVec 8)) (X3 : List (BitVec 64)) (j4 : Nat) : List (BitVec 64) := (sha512_L29 X3 (sha512_L19 X3 (sha512_L8 tx j4 80) 80) 8)
def sha512_L4 (tx : List (BitVec 8)) : Nat → List (BitVec 64)
  | 0 => [7640891576956012808#64, 13503953896175478587#64, 4354685564936845355#64, 11912009170470909681#64, 5840696475078001361#64, 11170449401992604703#64, 2270897969802886507#64, 6620516959819538809#64]
  | j4 + 1 => sha512_L4_S tx (sha512_L4 tx j4) j4
@[simp] theorem sha512_L4_len (tx : List (BitVec 8)) (j4 : Nat) : (sha512_L4 tx j4).length = 8 := by
  induction j4 with
  | zero => simp [sha512_L4, *]
  | succ j4 ih => rw [sha512_L4.eq_2, sha512_L4_S]; first | (simp [ih]; done) | (simp [ih]; omega) | (simp [sha512_L8_len, sha512_L19_len, sha512_L29_len, *]; done) | (split <;> first | (simp [ih]; done) | (simp [ih]; omega) | (simp [sha512_L8_len, sha512_L19_len, sha512_L29_len, *]; done))
def sha512_L35_S (Y11 : List (BitVec 64)) (X12 : List (BitVec 8)) (j35 : Nat) : List (BitVec 8) := put X12 j35 (((nth Y11 (j35 / 8)) >>> (56 - (8 * (j35 % 8)))).setWidth 8)
def sha512_L35 (Y11 : List (BitVec 64)) : Nat → List (BitVec 8)
  | 0 => zer8 64
  | j35 + 1 => sha512_L35_S Y11 (sha512_L35 Y11 j35) j35
theorem sha512_L35_len (Y11 : List (BitVec 64)) (hY11 : Y11.length = 8) (j35 : Nat) : (sha512_L35 Y11 j35).length = 64 := by
  induction j35 with
  | zero => simp [sha512_L35, *]
  | succ j35 ih => rw [sha512_L35.eq_2, sha512_L35_S]; first | (simp [ih]; done) | (simp [ih]; omega) | (simp [sha512_L8_len, sha512_L19_len, sha512_L29_len, sha512_L4_len, *]; done) | (split <;> first | (simp [ih]; done) | (simp [ih]; omega) | (simp [sha512_L8_len, sha512_L19_len, sha512_L29_len, sha512_L4_len, *]; done))
def sha512 (tx : List (BitVec 8)) : List (BitVec 8) := (sha512_L35 (sha512_L4 tx ((tx.length + 144) / 128)) 64)
set_option maxRecDepth 100000 in
set_option maxHeartbeats 2000000 in
theorem sha512_ev (b : List (BitVec 8)) (o : Nat) (n : Nat) (cap : Nat) (hb : o + n ≤ b.length) (hn : n ≤ 2199023255552) : Ev Try.prog (.call 11 [.c (.sl 0 o n cap 1)] [.row false (.a8 (b))]) (.val (.agg (.a8 (sha512 (cut b o n)))) [.row false (.a8 (b))]) := by
  have hP : Hid (sha512 (cut b o n) = (sha512_L35 (sha512_L4 (cut b o n) (((cut b o n).length + 144) / 128)) 64)) := ⟨rfl⟩
  have htx : (cut b o n).length = n := by rw [cut_length]; omega
  try simp only [htx] at hP
  refine c_call Try.func11 rfl Try.ntmps11 rfl LEN_ ?_
  refine S_ ?_
  refine c_region ?_
  refine s_memN (m_alloc al_26 LEN_) APP_ rfl ?_
  refine s_nil ?_
  refine S_ ?_
  refine c_region ?_
  refine s_val (v_bld64 (l := [7640891576956012808#64, 13503953896175478587#64, 4354685564936845355#64, 11912009170470909681#64, 5840696475078001361#64, 11170449401992604703#64, 2270897969802886507#64, 6620516959819538809#64]) zc_45 Try.underlying45 sz_40 rfl rfl (by decide)) rfl ?_
  refine s_memN (m_alloc al_45 LEN_) APP_ rfl ?_
  refine s_storeR rfl rfl rfl rfl sz_45 EQ_ EQ_ SET_ ?_
  refine s_nil ?_
  refine S_ ?_
  refine c_region ?_
  refine s_evN (e_callR (shaK512_ev) ok_22 rfl rfl rfl VAL_) APP_ rfl ?_
  refine s_val (v_assignC rfl) rfl ?_
  refine s_nil ?_
  have hQ1 : (shaK512).length = 80 := LQ_
  refine S_ ?_
  refine c_region ?_
  refine s_val (v_moveC rfl) rfl ?_
  refine s_evN (e_callR (shaPad5_ev b o n cap HYP_ HYP_) ok_16 rfl rfl rfl VAL_) APP_ rfl ?_
  refine s_val (v_assignC rfl) rfl ?_
  refine s_nil ?_
  have hQ2 : (shaPad5 (cut b o n)).length = (((n + 1) + (240 - (n + 1) % 128) % 128) + 8) + 8 := LQ_
  refine S_ ?_
  refine c_loopC [2, 3, 4, 5] (fun (zz : Nat × List (BitVec 64)) => ⟨200, keepT [2, 3, 4, 5] [.c (.ptr 1 0), .c (.ptr 2 0), .c (.sl 3 0 80 80 1), .c (.sl 4 (128 * zz.1) (((((n + 1) + (240 - (n + 1) % 128) % 128) + 8) + 8) - 128 * zz.1) (((((n + 1) + (240 - (n + 1) % 128) % 128) + 8) + 8) - 128 * zz.1) 1)], [.row false (.a8 (b)), .row true (.a8 (zer8 64)), .row true (.a64 (zz.2)), .row true (.a64 (shaK512)), .row true (.a8 (shaPad5 (cut b o n)))]⟩) (fun j4 => (j4, sha512_L4 (cut b o n) j4)) ((n + 144) / 128) (by kernel_rfl) ?_ ?_
  · intro j4 hj4
    dsimp only
    have hX3 : (sha512_L4 (cut b o n) j4).length = 8 := by rw [sha512_L4_len (cut b o n) _]; try omega
    rw [sha512_L4.eq_2, sha512_L4_S]
    try simp only [htx]
    generalize sha512_L4 (cut b o n) j4 = X3 at *
    refine S_ ?_
    refine c_region ?_
    refine s_val (v_moveC rfl) rfl ?_
    refine s_val (v_lenS rfl Try.underlying22) rfl ?_
    refine s_val (v_gtrN (b := 0) rfl rfl) rfl ?_
    refine s_nil ?_
    refine S_ ?_
    refine c_region ?_
    refine s_memN (m_alloc al_48 LEN_) APP_ rfl ?_
    refine s_nil ?_
    refine S_ ?_
    refine c_region ?_
    refine s_val (v_moveC rfl) rfl ?_
    refine s_nil ?_
    refine S_ ?_
    refine c_loopC [2, 3, 4, 5, 6, 32] (fun (zz : Nat × List (BitVec 64)) => ⟨200, keepT [2, 3, 4, 5, 6, 32] [.c (.ptr 1 0), .c (.ptr 2 0), .c (.sl 3 0 80 80 1), .c (.sl 4 (128 * j4) (((((n + 1) + (240 - (n + 1) % 128) % 128) + 8) + 8) - 128 * j4) (((((n + 1) + (240 - (n + 1) % 128) % 128) + 8) + 8) - 128 * j4) 1), .c (.ptr 5 0), .c (.val (.int .i64 (((zz.1 : Nat) : Int))))], [.row false (.a8 (b)), .row true (.a8 (zer8 64)), .row true (.a64 (X3)), .row true (.a64 (shaK512)), .row true (.a8 (shaPad5 (cut b o n))), .row true (.a64 (zz.2))]⟩) (fun j8 => (j8, sha512_L8 (cut b o n) j4 j8)) (80) (by kernel_rfl) ?_ ?_
    · intro j8 hj8
      dsimp only
      have hX4 : (sha512_L8 (cut b o n) j4 j8).length = 80 := by rw [sha512_L8_len (cut b o n) j4 _]; try omega
      rw [sha512_L8.eq_2, sha512_L8_S]
      try simp only [htx]
      generalize sha512_L8 (cut b o n) j4 j8 = X4 at *
      refine S_ ?_
      refine c_region ?_
      refine s_val (v_lssN (b := 80) rfl rfl) rfl ?_
      refine s_nil ?_
      refine S_ ?_
      refine c_region ?_
      refine s_val (v_moveC rfl) rfl ?_
      refine s_val (v_assignC rfl) rfl ?_
      refine s_nil ?_
      refine S_ ?_
      refine c_region ?_
      refine s_val (v_moveC rfl) rfl ?_
      refine s_val (v_lssN (b := 16) rfl rfl) rfl ?_
      refine s_nil ?_
      refine Q_ ?_
      by_cases hc5 : j8 < 16
      · try simp only [if_pos hc5] at *
        refine c_condT rfl (decide_eq_true hc5) ?_
        refine S_ ?_
        refine c_region ?_
        refine s_val (v_moveC rfl) rfl ?_
        refine s_val (v_moveC rfl) rfl ?_
        refine s_val (v_moveC rfl) rfl ?_
        refine s_val (v_mulN (a := 8) rfl rfl (by omega)) rfl ?_
        refine s_val (v_moveC rfl) rfl ?_
        refine s_val (v_mulN (a := 8) rfl rfl (by omega)) rfl ?_
        refine s_val (v_addN (b := 8) rfl rfl (by omega)) rfl ?_
        refine s_val (v_slSo rfl Try.underlying22 sz_5 rfl rfl (by omega) (by omega)) rfl ?_
        refine s_evN (e_callR (shaHigh_ev (shaPad5 (cut b o n)) ((128 * j4) + (8 * j8)) (((8 * j8) + 8) - (8 * j8)) ((((((n + 1) + (240 - (n + 1) % 128) % 128) + 8) + 8) - 128 * j4) - (8 * j8)) HYP_ HYP_) ok_17 rfl rfl rfl VAL_) APP_ rfl ?_
        refine s_val (v_idxA1 rfl rfl Try.underlying48 sz_40 (by omega)) rfl ?_
        refine s_store64 rfl rfl rfl sz_40 LT_ SET_ ?_
        refine s_nil ?_
        refine S_ ?_
        refine c_region ?_
        refine s_val (v_addN (b := 1) rfl rfl (by omega)) rfl ?_
        refine s_val (v_moveC rfl) rfl ?_
        refine s_nil ?_
        exact ⟨(j8 + 1, _), by kernel_rfl, rfl⟩
      · try simp only [if_neg hc5] at *
        refine c_condF rfl (decide_eq_false hc5) ?_
        refine S_ ?_
        refine c_draw 10 mixed (by kernel_rfl) rfl rfl rfl ?_
        refine h_val (v_moveC rfl) rfl ?_
        first
          | refine h_val (v_subN (b := 15) rfl rfl (by omega) (by omega)) rfl ?_
          | refine h_val (v_subI rfl rfl (by omega)) rfl ?_
        refine h_val (v_idxA1 rfl rfl Try.underlying48 sz_40 (by omega)) rfl ?_
        refine h_val (v_load64 rfl rfl row_40 LT_) rfl ?_
        refine h_val (v_moveC rfl) rfl ?_
        first
          | refine h_val (v_subN (b := 2) rfl rfl (by omega) (by omega)) rfl ?_
          | refine h_val (v_subI rfl rfl (by omega)) rfl ?_
        refine h_val (v_idxA1 rfl rfl Try.underlying48 sz_40 (by omega)) rfl ?_
        refine h_val (v_load64 rfl rfl row_40 LT_) rfl ?_
        refine h_val (v_assignC rfl) rfl ?_
        refine h_val (v_assignC rfl) rfl ?_
        refine h_nil ?_
        refine s_nil ?_
        refine S_ ?_
        refine c_region ?_
        refine s_val (v_moveC rfl) rfl ?_
        refine s_evN (e_callR (rotl64_ev (nth X4 (j8 - 15)) (-1)) ok_23 rfl rfl rfl VAL_) APP_ rfl ?_
        refine s_val (v_moveC rfl) rfl ?_
        refine s_evN (e_callR (rotl64_ev (nth X4 (j8 - 15)) (-8)) ok_23 rfl rfl rfl VAL_) APP_ rfl ?_
        refine s_val (v_xor64 rfl rfl) rfl ?_
        refine s_val (v_moveC rfl) rfl ?_
        refine s_val (v_shr64n (j := 7) rfl rfl) rfl ?_
        refine s_val (v_xor64 rfl rfl) rfl ?_
        refine s_val (v_assignC rfl) rfl ?_
        refine s_nil ?_
        refine S_ ?_
        refine c_region ?_
        refine s_val (v_moveC rfl) rfl ?_
        refine s_evN (e_callR (rotl64_ev (nth X4 (j8 - 2)) (-19)) ok_23 rfl rfl rfl VAL_) APP_ rfl ?_
        refine s_val (v_moveC rfl) rfl ?_
        refine s_evN (e_callR (rotl64_ev (nth X4 (j8 - 2)) (-61)) ok_23 rfl rfl rfl VAL_) APP_ rfl ?_
        refine s_val (v_xor64 rfl rfl) rfl ?_
        refine s_val (v_moveC rfl) rfl ?_
        refine s_val (v_shr64n (j := 6) rfl rfl) rfl ?_
        refine s_val (v_xor64 rfl rfl) rfl ?_
        refine s_val (v_assignC rfl) rfl ?_
        refine s_nil ?_
        refine S_ ?_
        refine c_draw 15 mixed (by kernel_rfl) rfl rfl rfl ?_
        refine h_val (v_moveC rfl) rfl ?_
        refine h_val (v_moveC rfl) rfl ?_
        first
          | refine h_val (v_subN (b := 16) rfl rfl (by omega) (by omega)) rfl ?_
          | refine h_val (v_subI rfl rfl (by omega)) rfl ?_
        refine h_val (v_idxA1 rfl rfl Try.underlying48 sz_40 (by omega)) rfl ?_
        refine h_val (v_load64 rfl rfl row_40 LT_) rfl ?_
        refine h_val (v_moveC rfl) rfl ?_
        refine h_val (v_add64 rfl rfl) rfl ?_
        refine h_val (v_moveC rfl) rfl ?_
        first
          | refine h_val (v_subN (b := 7) rfl rfl (by omega) (by omega)) rfl ?_
          | refine h_val (v_subI rfl rfl (by omega)) rfl ?_
        refine h_val (v_idxA1 rfl rfl Try.underlying48 sz_40 (by omega)) rfl ?_
        refine h_val (v_load64 rfl rfl row_40 LT_) rfl ?_
        refine h_val (v_add64 rfl rfl) rfl ?_
        refine h_val (v_moveC rfl) rfl ?_
        refine h_val (v_add64 rfl rfl) rfl ?_
        refine h_val (v_idxA1 rfl rfl Try.underlying48 sz_40 (by omega)) rfl ?_
        refine h_nil ?_
        refine s_store64 rfl rfl rfl sz_40 LT_ SET_ ?_
        refine s_nil ?_
        refine S_ ?_
        refine c_region ?_
        refine s_val (v_addN (b := 1) rfl rfl (by omega)) rfl ?_
        refine s_val (v_moveC rfl) rfl ?_
        refine s_nil ?_
        exact ⟨(j8 + 1, _), by kernel_rfl, rfl⟩
    · dsimp only
      have hY6 : (sha512_L8 (cut b o n) j4 80).length = 80 := by rw [sha512_L8_len (cut b o n) j4 _]; try omega
      generalize sha512_L8 (cut b o n) j4 80 = Y6 at *
      refine S_ ?_
      refine c_region ?_
      refine s_val (v_lssN (b := 80) rfl rfl) rfl ?_
      refine s_nil ?_
      refine S_ ?_
      refine c_region ?_
      refine s_val (v_loadR rfl rfl row_45 sz_45 EQ_ (by decide)) rfl ?_
      refine s_memN (m_alloc al_45 LEN_) APP_ rfl ?_
      refine s_storeR rfl rfl rfl rfl sz_45 EQ_ EQ_ SET_ ?_
      refine s_nil ?_
      refine S_ ?_
      refine c_region ?_
      refine s_val (v_moveC rfl) rfl ?_
      refine s_nil ?_
      refine S_ ?_
      refine c_loopC [2, 3, 4, 5, 6, 12, 88] (fun (zz : Nat × List (BitVec 64)) => ⟨200, keepT [2, 3, 4, 5, 6, 12, 88] [.c (.ptr 1 0), .c (.ptr 2 0), .c (.sl 3 0 80 80 1), .c (.sl 4 (128 * j4) (((((n + 1) + (240 - (n + 1) % 128) % 128) + 8) + 8) - 128 * j4) (((((n + 1) + (240 - (n + 1) % 128) % 128) + 8) + 8) - 128 * j4) 1), .c (.ptr 5 0), .c (.ptr 6 0), .c (.val (.int .i64 (((zz.1 : Nat) : Int))))], [.row false (.a8 (b)), .row true (.a8 (zer8 64)), .row true (.a64 (X3)), .row true (.a64 (shaK512)), .row true (.a8 (shaPad5 (cut b o n))), .row true (.a64 (Y6)), .row true (.a64 (zz.2))]⟩) (fun j19 => (j19, sha512_L19 X3 Y6 j19)) (80) (by kernel_rfl) ?_ ?_
      · intro j19 hj19
        dsimp only
        have hX7 : (sha512_L19 X3 Y6 j19).length = 8 := by rw [sha512_L19_len X3 Y6 hX3 hY6 _]; try omega
        rw [sha512_L19.eq_2, sha512_L19_S]
        try simp only [htx]
        generalize sha512_L19 X3 Y6 j19 = X7 at *
        refine S_ ?_
        refine c_region ?_
        refine s_val (v_lssN (b := 80) rfl rfl) rfl ?_
        refine s_nil ?_
        refine S_ ?_
        refine c_region ?_
        refine s_val (v_moveC rfl) rfl ?_
        refine s_val (v_assignC rfl) rfl ?_
        refine s_nil ?_
        refine S_ ?_
        refine c_draw 6 mixed (by kernel_rfl) rfl rfl rfl ?_
        refine h_val (v_idxA1 (j := 4) rfl rfl Try.underlying45 sz_40 (by omega)) rfl ?_
        refine h_val (v_load64 rfl rfl row_40 LT_) rfl ?_
        refine h_val (v_idxA1 (j := 0) rfl rfl Try.underlying45 sz_40 (by omega)) rfl ?_
        refine h_val (v_load64 rfl rfl row_40 LT_) rfl ?_
        refine h_val (v_assignC rfl) rfl ?_
        refine h_val (v_assignC rfl) rfl ?_
        refine h_nil ?_
        refine s_nil ?_
        refine S_ ?_
        refine c_region ?_
        refine s_val (v_moveC rfl) rfl ?_
        refine s_evN (e_callR (rotl64_ev (nth X7 4) (-14)) ok_23 rfl rfl rfl VAL_) APP_ rfl ?_
        refine s_val (v_moveC rfl) rfl ?_
        refine s_evN (e_callR (rotl64_ev (nth X7 4) (-18)) ok_23 rfl rfl rfl VAL_) APP_ rfl ?_
        refine s_val (v_xor64 rfl rfl) rfl ?_
        refine s_val (v_moveC rfl) rfl ?_
        refine s_evN (e_callR (rotl64_ev (nth X7 4) (-41)) ok_23 rfl rfl rfl VAL_) APP_ rfl ?_
        refine s_val (v_xor64 rfl rfl) rfl ?_
        refine s_val (v_assignC rfl) rfl ?_
        refine s_nil ?_
        refine S_ ?_
        refine c_draw 25 mixed (by kernel_rfl) rfl rfl rfl ?_
        refine h_val (v_idxA1 (j := 7) rfl rfl Try.underlying45 sz_40 (by omega)) rfl ?_
        refine h_val (v_load64 rfl rfl row_40 LT_) rfl ?_
        refine h_val (v_moveC rfl) rfl ?_
        refine h_val (v_add64 rfl rfl) rfl ?_
        refine h_val (v_moveC rfl) rfl ?_
        refine h_val (v_idxA1 (j := 5) rfl rfl Try.underlying45 sz_40 (by omega)) rfl ?_
        refine h_val (v_load64 rfl rfl row_40 LT_) rfl ?_
        refine h_val (v_and64 rfl rfl) rfl ?_
        refine h_val (v_moveC rfl) rfl ?_
        refine h_val (v_unxor64 rfl) rfl ?_
        refine h_val (v_idxA1 (j := 6) rfl rfl Try.underlying45 sz_40 (by omega)) rfl ?_
        refine h_val (v_load64 rfl rfl row_40 LT_) rfl ?_
        refine h_val (v_and64 rfl rfl) rfl ?_
        refine h_val (v_xor64 rfl rfl) rfl ?_
        refine h_val (v_add64 rfl rfl) rfl ?_
        refine h_val (v_moveC rfl) rfl ?_
        refine h_val (v_moveC rfl) rfl ?_
        refine h_val (v_idxS1 rfl rfl Try.underlying46 sz_40 (by omega)) rfl ?_
        refine h_val (v_load64 rfl rfl row_40 LT_) rfl ?_
        refine h_val (v_add64 rfl rfl) rfl ?_
        refine h_val (v_moveC rfl) rfl ?_
        refine h_val (v_idxA1 rfl rfl Try.underlying48 sz_40 (by omega)) rfl ?_
        refine h_val (v_load64 rfl rfl row_40 LT_) rfl ?_
        refine h_val (v_add64 rfl rfl) rfl ?_
        refine h_val (v_assignC rfl) rfl ?_
        refine h_nil ?_
        refine s_nil ?_
        refine S_ ?_
        refine c_region ?_
        refine s_val (v_moveC rfl) rfl ?_
        refine s_evN (e_callR (rotl64_ev (nth X7 0) (-28)) ok_23 rfl rfl rfl VAL_) APP_ rfl ?_
        refine s_val (v_moveC rfl) rfl ?_
        refine s_evN (e_callR (rotl64_ev (nth X7 0) (-34)) ok_23 rfl rfl rfl VAL_) APP_ rfl ?_
        refine s_val (v_xor64 rfl rfl) rfl ?_
        refine s_val (v_moveC rfl) rfl ?_
        refine s_evN (e_callR (rotl64_ev (nth X7 0) (-39)) ok_23 rfl rfl rfl VAL_) APP_ rfl ?_
        refine s_val (v_xor64 rfl rfl) rfl ?_
        refine s_val (v_assignC rfl) rfl ?_
        refine s_nil ?_
        refine S_ ?_
        refine c_region ?_
        refine s_val (v_moveC rfl) rfl ?_
        refine s_val (v_moveC rfl) rfl ?_
        refine s_val (v_idxA1 (j := 1) rfl rfl Try.underlying45 sz_40 (by omega)) rfl ?_
        refine s_val (v_load64 rfl rfl row_40 LT_) rfl ?_
        refine s_val (v_and64 rfl rfl) rfl ?_
        refine s_val (v_moveC rfl) rfl ?_
        refine s_val (v_idxA1 (j := 2) rfl rfl Try.underlying45 sz_40 (by omega)) rfl ?_
        refine s_val (v_load64 rfl rfl row_40 LT_) rfl ?_
        refine s_val (v_and64 rfl rfl) rfl ?_
        refine s_val (v_xor64 rfl rfl) rfl ?_
        refine s_val (v_idxA1 (j := 1) rfl rfl Try.underlying45 sz_40 (by omega)) rfl ?_
        refine s_val (v_load64 rfl rfl row_40 LT_) rfl ?_
        refine s_val (v_idxA1 (j := 2) rfl rfl Try.underlying45 sz_40 (by omega)) rfl ?_
        refine s_val (v_load64 rfl rfl row_40 LT_) rfl ?_
        refine s_val (v_and64 rfl rfl) rfl ?_
        refine s_val (v_xor64 rfl rfl) rfl ?_
        refine s_val (v_add64 rfl rfl) rfl ?_
        refine s_val (v_assignC rfl) rfl ?_
        refine s_nil ?_
        refine S_ ?_
        refine c_region ?_
        refine s_val (v_moveC rfl) rfl ?_
        refine s_val (v_moveC rfl) rfl ?_
        refine s_val (v_add64 rfl rfl) rfl ?_
        refine s_val (v_moveC rfl) rfl ?_
        refine s_val (v_idxA1 (j := 1) rfl rfl Try.underlying45 sz_40 (by omega)) rfl ?_
        refine s_val (v_load64 rfl rfl row_40 LT_) rfl ?_
        refine s_val (v_idxA1 (j := 2) rfl rfl Try.underlying45 sz_40 (by omega)) rfl ?_
        refine s_val (v_load64 rfl rfl row_40 LT_) rfl ?_
        refine s_val (v_idxA1 (j := 3) rfl rfl Try.underlying45 sz_40 (by omega)) rfl ?_
        refine s_val (v_load64 rfl rfl row_40 LT_) rfl ?_
        refine s_val (v_moveC rfl) rfl ?_
        refine s_val (v_add64 rfl rfl) rfl ?_
        refine s_val (v_moveC rfl) rfl ?_
        refine s_val (v_idxA1 (j := 5) rfl rfl Try.underlying45 sz_40 (by omega)) rfl ?_
        refine s_val (v_load64 rfl rfl row_40 LT_) rfl ?_
        refine s_val (v_idxA1 (j := 6) rfl rfl Try.underlying45 sz_40 (by omega)) rfl ?_
        refine s_val (v_load64 rfl rfl row_40 LT_) rfl ?_
        refine s_val (v_bld64 (l := [_, _, _, _, _, _, _, _]) zc_45 Try.underlying45 sz_40 rfl rfl (by decide)) rfl ?_
        refine s_storeR rfl rfl rfl rfl sz_45 EQ_ EQ_ SET_ ?_
        refine s_nil ?_
        refine S_ ?_
        refine c_region ?_
        refine s_val (v_addN (b := 1) rfl rfl (by omega)) rfl ?_
        refine s_val (v_moveC rfl) rfl ?_
        refine s_nil ?_
        exact ⟨(j19 + 1, _), by kernel_rfl, rfl⟩
      · dsimp only
        have hY8 : (sha512_L19 X3 Y6 80).length = 8 := by rw [sha512_L19_len X3 Y6 hX3 hY6 _]; try omega
        generalize sha512_L19 X3 Y6 80 = Y8 at *
        refine S_ ?_
        refine c_region ?_
        refine s_val (v_lssN (b := 80) rfl rfl) rfl ?_
        refine s_nil ?_
        refine S_ ?_
        refine c_region ?_
        refine s_val (v_moveC rfl) rfl ?_
        refine s_nil ?_
        refine S_ ?_
        refine c_loopC [2, 3, 4, 5, 12, 171] (fun (zz : Nat × List (BitVec 64)) => ⟨200, keepT [2, 3, 4, 5, 12, 171] [.c (.ptr 1 0), .c (.ptr 2 0), .c (.sl 3 0 80 80 1), .c (.sl 4 (128 * j4) (((((n + 1) + (240 - (n + 1) % 128) % 128) + 8) + 8) - 128 * j4) (((((n + 1) + (240 - (n + 1) % 128) % 128) + 8) + 8) - 128 * j4) 1), .c (.ptr 5 0), .c (.val (.int .i64 (((zz.1 : Nat) : Int))))], [.row false (.a8 (b)), .row true (.a8 (zer8 64)), .row true (.a64 (zz.2)), .row true (.a64 (shaK512)), .row true (.a8 (shaPad5 (cut b o n))), .row true (.a64 (Y8))]⟩) (fun j29 => (j29, sha512_L29 X3 Y8 j29)) (8) (by kernel_rfl) ?_ ?_
        · intro j29 hj29
          dsimp only
          have hX9 : (sha512_L29 X3 Y8 j29).length = 8 := by rw [sha512_L29_len X3 Y8 hX3 hY8 _]; try omega
          rw [sha512_L29.eq_2, sha512_L29_S]
          try simp only [htx]
          generalize sha512_L29 X3 Y8 j29 = X9 at *
          refine S_ ?_
          refine c_region ?_
          refine s_val (v_lssN (b := 8) rfl rfl) rfl ?_
          refine s_nil ?_
          refine S_ ?_
          refine c_region ?_
          refine s_val (v_moveC rfl) rfl ?_
          refine s_val (v_assignC rfl) rfl ?_
          refine s_nil ?_
          refine S_ ?_
          refine c_draw 8 mixed (by kernel_rfl) rfl rfl rfl ?_
          refine h_val (v_moveC rfl) rfl ?_
          refine h_val (v_idxA1 rfl rfl Try.underlying45 sz_40 (by omega)) rfl ?_
          refine h_val (v_load64 rfl rfl row_40 LT_) rfl ?_
          refine h_val (v_moveC rfl) rfl ?_
          refine h_val (v_idxA1 rfl rfl Try.underlying45 sz_40 (by omega)) rfl ?_
          refine h_val (v_load64 rfl rfl row_40 LT_) rfl ?_
          refine h_val (v_add64 rfl rfl) rfl ?_
          refine h_val (v_idxA1 rfl rfl Try.underlying45 sz_40 (by omega)) rfl ?_
          refine h_nil ?_
          refine s_store64 rfl rfl rfl sz_40 LT_ SET_ ?_
          refine s_nil ?_
          refine S_ ?_
          refine c_region ?_
          refine s_val (v_addN (b := 1) rfl rfl (by omega)) rfl ?_
          refine s_val (v_moveC rfl) rfl ?_
          refine s_nil ?_
          exact ⟨(j29 + 1, _), by kernel_rfl, rfl⟩
        · dsimp only
          have hY10 : (sha512_L29 X3 Y8 8).length = 8 := by rw [sha512_L29_len X3 Y8 hX3 hY8 _]; try omega
          generalize sha512_L29 X3 Y8 8 = Y10 at *
          refine S_ ?_
          refine c_region ?_
          refine s_val (v_lssN (b := 8) rfl rfl) rfl ?_
          refine s_nil ?_
          refine S_ ?_
          refine c_region ?_
          refine s_val (v_moveC rfl) rfl ?_
          refine s_val (v_slSo (l := 128) rfl Try.underlying22 sz_5 rfl rfl (by omega) (by omega)) rfl ?_
          refine s_val (v_assignC rfl) rfl ?_
          refine s_nil ?_
          exact ⟨(j4 + 1, _), by kernel_rfl, rfl⟩
  · dsimp only
    have hY11 : (sha512_L4 (cut b o n) ((n + 144) / 128)).length = 8 := by rw [sha512_L4_len (cut b o n) _]; try omega
    generalize sha512_L4 (cut b o n) ((n + 144) / 128) = Y11 at *
    refine S_ ?_
    refine c_region ?_
    refine s_val (v_moveC rfl) rfl ?_
    refine s_val (v_lenS rfl Try.underlying22) rfl ?_
    refine s_val (v_gtrN (b := 0) rfl rfl) rfl ?_
    refine s_nil ?_
    refine S_ ?_
    refine c_region ?_
    refine s_memN (m_alloc al_26 LEN_) APP_ rfl ?_
    refine s_nil ?_
    refine S_ ?_
    refine c_region ?_
    refine s_val (v_moveC rfl) rfl ?_
    refine s_nil ?_
    refine S_ ?_
    refine c_loopC [2, 3, 21, 183] (fun (zz : Nat × List (BitVec 8)) => ⟨200, keepT [2, 3, 21, 183] [.c (.ptr 1 0), .c (.ptr 2 0), .c (.ptr 3 0), .c (.val (.int .i64 (((zz.1 : Nat) : Int))))], [.row false (.a8 (b)), .row true (.a8 (zer8 64)), .row true (.a64 (Y11)), .row true (.a8 (zz.2))]⟩) (fun j35 => (j35, sha512_L35 Y11 j35)) (64) (by kernel_rfl) ?_ ?_
    · intro j35 hj35
      dsimp only
      have hX12 : (sha512_L35 Y11 j35).length = 64 := by rw [sha512_L35_len Y11 hY11 _]; try omega
      rw [sha512_L35.eq_2, sha512_L35_S]
      try simp only [htx]
      generalize sha512_L35 Y11 j35 = X12 at *
      refine S_ ?_
      refine c_region ?_
      refine s_val (v_lssN (b := 64) rfl rfl) rfl ?_
      refine s_nil ?_
      refine S_ ?_
      refine c_region ?_
      refine s_val (v_moveC rfl) rfl ?_
      refine s_val (v_assignC rfl) rfl ?_
      refine s_nil ?_
      refine S_ ?_
      refine c_region ?_
      refine s_val (v_moveC rfl) rfl ?_
      refine s_val (v_moveC rfl) rfl ?_
      refine s_val (v_quoN (b := 8) rfl rfl (by omega) (by omega)) rfl ?_
      refine s_val (v_idxA1 rfl rfl Try.underlying45 sz_40 (by omega)) rfl ?_
      refine s_val (v_load64 rfl rfl row_40 LT_) rfl ?_
      refine s_val (v_moveC rfl) rfl ?_
      refine s_val (v_remN (b := 8) rfl rfl (by omega) (by omega)) rfl ?_
      refine s_val (v_mulN (a := 8) rfl rfl (by omega)) rfl ?_
      first
        | refine s_val (v_subN (a := 56) rfl rfl (by omega) (by omega)) rfl ?_
        | refine s_val (v_subI rfl rfl (by omega)) rfl ?_
      refine s_val (v_shr64n rfl rfl) rfl ?_
      refine s_val (v_conv rfl Try.underlying40 Try.underlying5 (w64_8 _)) rfl ?_
      refine s_val (v_idxA1 rfl rfl Try.underlying26 sz_5 (by omega)) rfl ?_
      refine s_store8 rfl rfl rfl sz_5 LT_ SET_ ?_
      refine s_nil ?_
      refine S_ ?_
      refine c_region ?_
      refine s_val (v_addN (b := 1) rfl rfl (by omega)) rfl ?_
      refine s_val (v_moveC rfl) rfl ?_
      refine s_nil ?_
      exact ⟨(j35 + 1, _), by kernel_rfl, rfl⟩
    · dsimp only
      have hY13 : (sha512_L35 Y11 64).length = 64 := by rw [sha512_L35_len Y11 hY11 _]; try omega
      generalize sha512_L35 Y11 64 = Y13 at *
      refine S_ ?_
      refine c_region ?_
      refine s_val (v_lssN (b := 64) rfl rfl) rfl ?_
      refine s_nil ?_
      refine S_ ?_
      refine c_region ?_
      refine s_val (v_loadR rfl rfl row_26 sz_26 EQ_ (by decide)) rfl ?_
      refine s_storeR rfl rfl rfl rfl sz_26 EQ_ EQ_ SET_ ?_
      refine s_nil ?_
      refine S_ ?_
      rw [hP.out]
      exact k_1 (r_row rfl rfl row_26 sz_26 EQ_ (by decide)) (by first | kernel_rfl | rfl)
theorem sha512_evS (b : List (BitVec 8)) (n : Nat) (cap : Nat) (hb : b.length = n) (hn : n ≤ 2199023255552) : Ev Try.prog (.call 11 [.c (.sl 0 0 n cap 1)] [.row false (.a8 (b))]) (.val (.agg (.a8 (sha512 b))) [.row false (.a8 (b))]) := by
  have h_ := sha512_ev b 0 n cap (by omega) hn
  rw [cut_all hb] at h_
  exact h_

@[simp] theorem sha512_len (tx : List (BitVec 8)) : (sha512 tx).length = 64 := by
  unfold sha512
  simp [sha512_L8_len, sha512_L19_len, sha512_L29_len, sha512_L4_len, sha512_L8_len, sha512_L19_len, sha512_L29_len, sha512_L35_len, *]

attribute [irreducible] sha512
end Go.Proofs.Ytgjilodkdgcoaaa
