/- sha.Sum256 (Drawn up by a program.) -/
import Derived.Test.YtlnekohkbhidnaaSPad
import Derived.Test.YtlnekohkbhidnaaSRot
namespace Go.Proofs.Ytlnekohkbhidnaa
open Go.RowKit
def sha256_L8_S (tx : List (BitVec 8)) (j4 : Nat) (X4 : List (BitVec 32)) (j8 : Nat) : List (BitVec 32) := if j8 < 16 then put X4 j8 ((shaHigh (shaPad tx) ((64 * j4) + (4 * j8)) (((4 * j8) + 4) - (4 * j8))).setWidth 32) else put X4 j8 ((((nth X4 (j8 - 16)) + (((rotl32 (nth X4 (j8 - 15)) (-7)) ^^^ (rotl32 (nth X4 (j8 - 15)) (-18))) ^^^ ((nth X4 (j8 - 15)) >>> 3))) + (nth X4 (j8 - 7))) + (((rotl32 (nth X4 (j8 - 2)) (-17)) ^^^ (rotl32 (nth X4 (j8 - 2)) (-19))) ^^^ ((nth X4 (j8 - 2)) >>> 10)))
def sha256_L8 (tx : List (BitVec 8)) (j4 : Nat) : Nat → List (BitVec 32)
  | 0 => zer32 64
  | j8 + 1 => sha256_L8_S tx j4 (sha256_L8 tx j4 j8) j8
@[simp] theorem sha256_L8_len (tx : List (BitVec 8)) (j4 : Nat) (j8 : Nat) : (sha256_L8 tx j4 j8).length = 64 := by
  induction j8 with
  | zero => first | (simp [sha256_L8, *]; done) | (simp [sha256_L8, *]; omega)
  | succ j8 ih => rw [sha256_L8.eq_2, sha256_L8_S]; first | (simp [ih]; done) | (simp [ih]; omega) | (simp [*]; done) | (split <;> first | (simp [ih]; done) | (simp [ih]; omega) | (simp [*]; done))
def sha256_L19_S (Y5 : List (BitVec 32)) (X6 : List (BitVec 32)) (j19 : Nat) : List (BitVec 32) := [(((((nth X6 7) + (((rotl32 (nth X6 4) (-6)) ^^^ (rotl32 (nth X6 4) (-11))) ^^^ (rotl32 (nth X6 4) (-25)))) + (((nth X6 4) &&& (nth X6 5)) ^^^ ((~~~(nth X6 4)) &&& (nth X6 6)))) + (nth shaK256 j19)) + (nth Y5 j19)) + ((((rotl32 (nth X6 0) (-2)) ^^^ (rotl32 (nth X6 0) (-13))) ^^^ (rotl32 (nth X6 0) (-22))) + ((((nth X6 0) &&& (nth X6 1)) ^^^ ((nth X6 0) &&& (nth X6 2))) ^^^ ((nth X6 1) &&& (nth X6 2)))), nth X6 0, nth X6 1, nth X6 2, (nth X6 3) + (((((nth X6 7) + (((rotl32 (nth X6 4) (-6)) ^^^ (rotl32 (nth X6 4) (-11))) ^^^ (rotl32 (nth X6 4) (-25)))) + (((nth X6 4) &&& (nth X6 5)) ^^^ ((~~~(nth X6 4)) &&& (nth X6 6)))) + (nth shaK256 j19)) + (nth Y5 j19)), nth X6 4, nth X6 5, nth X6 6]
def sha256_L19 (X3 : List (BitVec 32)) (Y5 : List (BitVec 32)) : Nat → List (BitVec 32)
  | 0 => X3
  | j19 + 1 => sha256_L19_S Y5 (sha256_L19 X3 Y5 j19) j19
theorem sha256_L19_len (X3 : List (BitVec 32)) (Y5 : List (BitVec 32)) (hX3 : X3.length = 8) (hY5 : Y5.length = 64) (j19 : Nat) : (sha256_L19 X3 Y5 j19).length = 8 := by
  induction j19 with
  | zero => first | (simp [sha256_L19, *]; done) | (simp [sha256_L19, *]; omega)
  | succ j19 ih => rw [sha256_L19.eq_2, sha256_L19_S]; first | (simp [ih]; done) | (simp [ih]; omega) | (simp [sha256_L8_len, *]; done) | (split <;> first | (simp [ih]; done) | (simp [ih]; omega) | (simp [sha256_L8_len, *]; done))
def sha256_L29_S (Y7 : List (BitVec 32)) (X8 : List (BitVec 32)) (j29 : Nat) : List (BitVec 32) := put X8 j29 ((nth X8 j29) + (nth Y7 j29))
def sha256_L29 (X3 : List (BitVec 32)) (Y7 : List (BitVec 32)) : Nat → List (BitVec 32)
  | 0 => X3
  | j29 + 1 => sha256_L29_S Y7 (sha256_L29 X3 Y7 j29) j29
theorem sha256_L29_len (X3 : List (BitVec 32)) (Y7 : List (BitVec 32)) (hX3 : X3.length = 8) (hY7 : Y7.length = 8) (j29 : Nat) : (sha256_L29 X3 Y7 j29).length = 8 := by
  induction j29 with
  | zero => first | (simp [sha256_L29, *]; done) | (simp [sha256_L29, *]; omega)
  | succ j29 ih => rw [sha256_L29.eq_2, sha256_L29_S]; first | (simp [ih]; done) | (simp [ih]; omega) | (simp [sha256_L8_len, sha256_L19_len, *]; done) | (split <;> first | (simp [ih]; done) | (simp [ih]; omega) | (simp [sha256_L8_len, sha256_L19_len, *]; done))
def sha256_L4_S (tx : List (BitVec 8)) (X3 : List (BitVec 32)) (j4 : Nat) : List (BitVec 32) := (sha256_L29 X3 (sha256_L19 X3 (sha256_L8 tx j4 64) 64) 8)
def sha256_L4 (tx : List (BitVec 8)) : Nat → List (BitVec 32)
  | 0 => [1779033703#32, 3144134277#32, 1013904242#32, 2773480762#32, 1359893119#32, 2600822924#32, 528734635#32, 1541459225#32]
  | j4 + 1 => sha256_L4_S tx (sha256_L4 tx j4) j4
@[simp] theorem sha256_L4_len (tx : List (BitVec 8)) (j4 : Nat) : (sha256_L4 tx j4).length = 8 := by
  induction j4 with
  | zero => first | (simp [sha256_L4, *]; done) | (simp [sha256_L4, *]; omega)
  | succ j4 ih => rw [sha256_L4.eq_2, sha256_L4_S]; first | (simp [ih]; done) | (simp [ih]; omega) | (simp [sha256_L8_len, sha256_L19_len, sha256_L29_len, *]; done) | (split <;> first | (simp [ih]; done) | (simp [ih]; omega) | (simp [sha256_L8_len, sha256_L19_len, sha256_L29_len, *]; done))
def sha256_L35_S (Y11 : List (BitVec 32)) (X12 : List (BitVec 8)) (j35 : Nat) : List (BitVec 8) := put X12 j35 (((nth Y11 (j35 / 4)) >>> (24 - (8 * (j35 % 4)))).setWidth 8)
def sha256_L35 (Y11 : List (BitVec 32)) : Nat → List (BitVec 8)
  | 0 => zer8 32
  | j35 + 1 => sha256_L35_S Y11 (sha256_L35 Y11 j35) j35
theorem sha256_L35_len (Y11 : List (BitVec 32)) (hY11 : Y11.length = 8) (j35 : Nat) : (sha256_L35 Y11 j35).length = 32 := by
  induction j35 with
  | zero => first | (simp [sha256_L35, *]; done) | (simp [sha256_L35, *]; omega)
  | succ j35 ih => rw [sha256_L35.eq_2, sha256_L35_S]; first | (simp [ih]; done) | (simp [ih]; omega) | (simp [sha256_L8_len, sha256_L19_len, sha256_L29_len, sha256_L4_len, *]; done) | (split <;> first | (simp [ih]; done) | (simp [ih]; omega) | (simp [sha256_L8_len, sha256_L19_len, sha256_L29_len, sha256_L4_len, *]; done))
def sha256 (tx : List (BitVec 8)) : List (BitVec 8) := (sha256_L35 (sha256_L4 tx ((tx.length + 72) / 64)) 32)
set_option maxRecDepth 100000 in
set_option maxHeartbeats 2000000 in
theorem sha256_ev (b : List (BitVec 8)) (o : Nat) (n : Nat) (cap : Nat) (hb : o + n ≤ b.length) (hn : n ≤ 2199023255552) : Ev Try.prog (.call 9 [.c (.sl 0 o n cap 1)] [.row false (.a8 (b))]) (.val (.agg (.a8 (sha256 (cut b o n)))) [.row false (.a8 (b))]) := by
  have hP : Hid (sha256 (cut b o n) = (sha256_L35 (sha256_L4 (cut b o n) (((cut b o n).length + 72) / 64)) 32)) := ⟨rfl⟩
  have htx : (cut b o n).length = n := by rw [cut_length]; omega
  try simp only [htx] at hP
  refine c_call Try.func9 rfl Try.ntmps9 rfl LEN_ ?_
  refine S_ ?_
  refine c_region ?_
  refine s_memN (m_alloc al_23 LEN_) APP_ rfl ?_
  refine s_nil ?_
  refine S_ ?_
  refine c_region ?_
  refine s_val (v_bld32 (l := [1779033703#32, 3144134277#32, 1013904242#32, 2773480762#32, 1359893119#32, 2600822924#32, 528734635#32, 1541459225#32]) zc_37 Try.underlying37 sz_36 rfl rfl (by decide)) rfl ?_
  refine s_memN (m_alloc al_37 LEN_) APP_ rfl ?_
  refine s_storeR rfl rfl rfl rfl sz_37 EQ_ EQ_ SET_ ?_
  refine s_nil ?_
  refine S_ ?_
  refine c_region ?_
  refine s_evN (e_callR (bs := []) (shaK256_ev) ok_17 (by kernel_rfl) (by kernel_rfl) rfl VAL_) APP_ rfl ?_
  refine s_val (v_assignC rfl) rfl ?_
  refine s_nil ?_
  have hQ1 : (shaK256).length = 64 := LQ_
  refine S_ ?_
  refine c_region ?_
  refine s_val (v_moveC rfl) rfl ?_
  refine s_evN (e_callR (bs := [0]) (shaPad_ev b o n cap HYP_ HYP_) ok_18 (by kernel_rfl) (by kernel_rfl) rfl VAL_) APP_ rfl ?_
  refine s_val (v_assignC rfl) rfl ?_
  refine s_nil ?_
  have hQ2 : (shaPad (cut b o n)).length = ((n + 1) + (120 - (n + 1) % 64) % 64) + 8 := LQ_
  refine S_ ?_
  refine c_loopC [2, 3, 4, 5] (fun (zz : Nat × List (BitVec 32)) => ⟨201, keepT [2, 3, 4, 5] [.c (.ptr 1 0), .c (.ptr 2 0), .c (.sl 3 0 64 64 1), .c (.sl 4 (64 * zz.1) ((((n + 1) + (120 - (n + 1) % 64) % 64) + 8) - 64 * zz.1) ((((n + 1) + (120 - (n + 1) % 64) % 64) + 8) - 64 * zz.1) 1)], [.row false (.a8 (b)), .row true (.a8 (zer8 32)), .row true (.a32 (zz.2)), .row true (.a32 (shaK256)), .row true (.a8 (shaPad (cut b o n)))]⟩) (fun j4 => (j4, sha256_L4 (cut b o n) j4)) ((n + 72) / 64) (by kernel_rfl) ?_ ?_
  · intro j4 hj4
    try dsimp only
    have hX3 : (sha256_L4 (cut b o n) j4).length = 8 := by rw [sha256_L4_len (cut b o n) _]; try omega
    rw [sha256_L4.eq_2, sha256_L4_S]
    try simp only [htx]
    generalize sha256_L4 (cut b o n) j4 = X3 at *
    refine S_ ?_
    refine c_region ?_
    refine s_val (v_moveC rfl) rfl ?_
    refine s_val (v_lenS rfl Try.underlying22) rfl ?_
    refine s_val (v_gtrN (b := 0) rfl rfl) rfl ?_
    refine s_nil ?_
    refine S_ ?_
    refine c_region ?_
    refine s_memN (m_alloc al_41 LEN_) APP_ rfl ?_
    refine s_nil ?_
    refine S_ ?_
    refine c_region ?_
    refine s_val (v_moveC rfl) rfl ?_
    refine s_nil ?_
    refine S_ ?_
    refine c_loopC [2, 3, 4, 5, 6, 32] (fun (zz : Nat × List (BitVec 32)) => ⟨201, keepT [2, 3, 4, 5, 6, 32] [.c (.ptr 1 0), .c (.ptr 2 0), .c (.sl 3 0 64 64 1), .c (.sl 4 (64 * j4) ((((n + 1) + (120 - (n + 1) % 64) % 64) + 8) - 64 * j4) ((((n + 1) + (120 - (n + 1) % 64) % 64) + 8) - 64 * j4) 1), .c (.ptr 5 0), .c (.val (.int .i64 (((zz.1 : Nat) : Int))))], [.row false (.a8 (b)), .row true (.a8 (zer8 32)), .row true (.a32 (X3)), .row true (.a32 (shaK256)), .row true (.a8 (shaPad (cut b o n))), .row true (.a32 (zz.2))]⟩) (fun j8 => (j8, sha256_L8 (cut b o n) j4 j8)) (64) (by kernel_rfl) ?_ ?_
    · intro j8 hj8
      try dsimp only
      have hX4 : (sha256_L8 (cut b o n) j4 j8).length = 64 := by rw [sha256_L8_len (cut b o n) j4 _]; try omega
      rw [sha256_L8.eq_2, sha256_L8_S]
      try simp only [htx]
      generalize sha256_L8 (cut b o n) j4 j8 = X4 at *
      refine S_ ?_
      refine c_region ?_
      refine s_val (v_lssN (b := 64) rfl rfl) rfl ?_
      refine s_nil ?_
      refine S_ ?_
      refine c_region ?_
      refine s_val (v_moveC rfl) rfl ?_
      refine s_val (v_assignC rfl) rfl ?_
      refine s_nil ?_
      refine S_ ?_
      refine c_region ?_
      refine s_val (v_moveC rfl) rfl ?_
      refine s_val (v_lssN (b := 16) rfl rfl) rfl ?_
      refine s_nil ?_
      refine Q_ ?_
      by_cases hc5 : j8 < 16
      · try simp only [if_pos hc5] at *
        refine c_condT rfl (decide_eq_true hc5) ?_
        refine S_ ?_
        refine c_region ?_
        refine s_val (v_moveC rfl) rfl ?_
        refine s_val (v_moveC rfl) rfl ?_
        refine s_val (v_moveC rfl) rfl ?_
        refine s_val (v_mulN (a := 4) rfl rfl (by omega)) rfl ?_
        refine s_val (v_moveC rfl) rfl ?_
        refine s_val (v_mulN (a := 4) rfl rfl (by omega)) rfl ?_
        refine s_val (v_addN (b := 4) rfl rfl (by omega)) rfl ?_
        refine s_val (v_slSo rfl Try.underlying22 sz_5 rfl rfl (by omega) (by omega)) rfl ?_
        refine s_evN (e_callR (bs := [4]) (shaHigh_ev (shaPad (cut b o n)) ((64 * j4) + (4 * j8)) (((4 * j8) + 4) - (4 * j8)) (((((n + 1) + (120 - (n + 1) % 64) % 64) + 8) - 64 * j4) - (4 * j8)) HYP_ HYP_) ok_19 (by kernel_rfl) (by kernel_rfl) rfl VAL_) APP_ rfl ?_
        refine s_val (v_conv rfl Try.underlying42 Try.underlying36 (w64_32 _)) rfl ?_
        refine s_val (v_idxA1 rfl rfl Try.underlying41 sz_36 (by omega)) rfl ?_
        refine s_store32 rfl rfl rfl sz_36 LT_ SET_ ?_
        refine s_nil ?_
        refine S_ ?_
        refine c_region ?_
        refine s_val (v_addN (b := 1) rfl rfl (by omega)) rfl ?_
        refine s_val (v_moveC rfl) rfl ?_
        refine s_nil ?_
        exact ⟨(j8 + 1, _), by kernel_rfl, rfl⟩
      · try simp only [if_neg hc5] at *
        refine c_condF rfl (decide_eq_false hc5) ?_
        refine S_ ?_
        refine c_draw 10 mixed (by kernel_rfl) rfl rfl rfl ?_
        refine h_val (v_moveC rfl) rfl ?_
        first
          | refine h_val (v_subN (b := 15) rfl rfl (by omega) (by omega)) rfl ?_
          | refine h_val (v_subI rfl rfl (by omega)) rfl ?_
        refine h_val (v_idxA1 rfl rfl Try.underlying41 sz_36 (by omega)) rfl ?_
        refine h_val (v_load32 rfl rfl row_36 LT_) rfl ?_
        refine h_val (v_moveC rfl) rfl ?_
        first
          | refine h_val (v_subN (b := 2) rfl rfl (by omega) (by omega)) rfl ?_
          | refine h_val (v_subI rfl rfl (by omega)) rfl ?_
        refine h_val (v_idxA1 rfl rfl Try.underlying41 sz_36 (by omega)) rfl ?_
        refine h_val (v_load32 rfl rfl row_36 LT_) rfl ?_
        refine h_val (v_assignC rfl) rfl ?_
        refine h_val (v_assignC rfl) rfl ?_
        refine h_nil ?_
        refine s_nil ?_
        refine S_ ?_
        refine c_region ?_
        refine s_val (v_moveC rfl) rfl ?_
        refine s_evN (e_callR (bs := []) (rotl32_ev (nth X4 (j8 - 15)) (-7)) ok_20 (by kernel_rfl) (by kernel_rfl) rfl VAL_) APP_ rfl ?_
        refine s_val (v_moveC rfl) rfl ?_
        refine s_evN (e_callR (bs := []) (rotl32_ev (nth X4 (j8 - 15)) (-18)) ok_20 (by kernel_rfl) (by kernel_rfl) rfl VAL_) APP_ rfl ?_
        refine s_val (v_xor32 rfl rfl) rfl ?_
        refine s_val (v_moveC rfl) rfl ?_
        refine s_val (v_shr32n (j := 3) rfl rfl) rfl ?_
        refine s_val (v_xor32 rfl rfl) rfl ?_
        refine s_val (v_assignC rfl) rfl ?_
        refine s_nil ?_
        refine S_ ?_
        refine c_region ?_
        refine s_val (v_moveC rfl) rfl ?_
        refine s_evN (e_callR (bs := []) (rotl32_ev (nth X4 (j8 - 2)) (-17)) ok_20 (by kernel_rfl) (by kernel_rfl) rfl VAL_) APP_ rfl ?_
        refine s_val (v_moveC rfl) rfl ?_
        refine s_evN (e_callR (bs := []) (rotl32_ev (nth X4 (j8 - 2)) (-19)) ok_20 (by kernel_rfl) (by kernel_rfl) rfl VAL_) APP_ rfl ?_
        refine s_val (v_xor32 rfl rfl) rfl ?_
        refine s_val (v_moveC rfl) rfl ?_
        refine s_val (v_shr32n (j := 10) rfl rfl) rfl ?_
        refine s_val (v_xor32 rfl rfl) rfl ?_
        refine s_val (v_assignC rfl) rfl ?_
        refine s_nil ?_
        refine S_ ?_
        refine c_draw 15 mixed (by kernel_rfl) rfl rfl rfl ?_
        refine h_val (v_moveC rfl) rfl ?_
        refine h_val (v_moveC rfl) rfl ?_
        first
          | refine h_val (v_subN (b := 16) rfl rfl (by omega) (by omega)) rfl ?_
          | refine h_val (v_subI rfl rfl (by omega)) rfl ?_
        refine h_val (v_idxA1 rfl rfl Try.underlying41 sz_36 (by omega)) rfl ?_
        refine h_val (v_load32 rfl rfl row_36 LT_) rfl ?_
        refine h_val (v_moveC rfl) rfl ?_
        refine h_val (v_add32 rfl rfl) rfl ?_
        refine h_val (v_moveC rfl) rfl ?_
        first
          | refine h_val (v_subN (b := 7) rfl rfl (by omega) (by omega)) rfl ?_
          | refine h_val (v_subI rfl rfl (by omega)) rfl ?_
        refine h_val (v_idxA1 rfl rfl Try.underlying41 sz_36 (by omega)) rfl ?_
        refine h_val (v_load32 rfl rfl row_36 LT_) rfl ?_
        refine h_val (v_add32 rfl rfl) rfl ?_
        refine h_val (v_moveC rfl) rfl ?_
        refine h_val (v_add32 rfl rfl) rfl ?_
        refine h_val (v_idxA1 rfl rfl Try.underlying41 sz_36 (by omega)) rfl ?_
        refine h_nil ?_
        refine s_store32 rfl rfl rfl sz_36 LT_ SET_ ?_
        refine s_nil ?_
        refine S_ ?_
        refine c_region ?_
        refine s_val (v_addN (b := 1) rfl rfl (by omega)) rfl ?_
        refine s_val (v_moveC rfl) rfl ?_
        refine s_nil ?_
        exact ⟨(j8 + 1, _), by kernel_rfl, rfl⟩
    · try dsimp only
      have hY6 : (sha256_L8 (cut b o n) j4 64).length = 64 := by rw [sha256_L8_len (cut b o n) j4 _]; try omega
      generalize sha256_L8 (cut b o n) j4 64 = Y6 at *
      refine S_ ?_
      refine c_region ?_
      refine s_val (v_lssN (a := 64) (b := 64) rfl rfl) rfl ?_
      refine s_nil ?_
      refine S_ ?_
      refine c_region ?_
      refine s_val (v_loadR rfl rfl row_37 sz_37 EQ_ (by decide)) rfl ?_
      refine s_memN (m_alloc al_37 LEN_) APP_ rfl ?_
      refine s_storeR rfl rfl rfl rfl sz_37 EQ_ EQ_ SET_ ?_
      refine s_nil ?_
      refine S_ ?_
      refine c_region ?_
      refine s_val (v_moveC rfl) rfl ?_
      refine s_nil ?_
      refine S_ ?_
      refine c_loopC [2, 3, 4, 5, 6, 12, 89] (fun (zz : Nat × List (BitVec 32)) => ⟨201, keepT [2, 3, 4, 5, 6, 12, 89] [.c (.ptr 1 0), .c (.ptr 2 0), .c (.sl 3 0 64 64 1), .c (.sl 4 (64 * j4) ((((n + 1) + (120 - (n + 1) % 64) % 64) + 8) - 64 * j4) ((((n + 1) + (120 - (n + 1) % 64) % 64) + 8) - 64 * j4) 1), .c (.ptr 5 0), .c (.ptr 6 0), .c (.val (.int .i64 (((zz.1 : Nat) : Int))))], [.row false (.a8 (b)), .row true (.a8 (zer8 32)), .row true (.a32 (X3)), .row true (.a32 (shaK256)), .row true (.a8 (shaPad (cut b o n))), .row true (.a32 (Y6)), .row true (.a32 (zz.2))]⟩) (fun j19 => (j19, sha256_L19 X3 Y6 j19)) (64) (by kernel_rfl) ?_ ?_
      · intro j19 hj19
        try dsimp only
        have hX7 : (sha256_L19 X3 Y6 j19).length = 8 := by rw [sha256_L19_len X3 Y6 hX3 hY6 _]; try omega
        rw [sha256_L19.eq_2, sha256_L19_S]
        try simp only [htx]
        generalize sha256_L19 X3 Y6 j19 = X7 at *
        refine S_ ?_
        refine c_region ?_
        refine s_val (v_lssN (b := 64) rfl rfl) rfl ?_
        refine s_nil ?_
        refine S_ ?_
        refine c_region ?_
        refine s_val (v_moveC rfl) rfl ?_
        refine s_val (v_assignC rfl) rfl ?_
        refine s_nil ?_
        refine S_ ?_
        refine c_draw 6 mixed (by kernel_rfl) rfl rfl rfl ?_
        refine h_val (v_idxA1 (j := 4) rfl rfl Try.underlying37 sz_36 (by omega)) rfl ?_
        refine h_val (v_load32 rfl rfl row_36 LT_) rfl ?_
        refine h_val (v_idxA1 (j := 0) rfl rfl Try.underlying37 sz_36 (by omega)) rfl ?_
        refine h_val (v_load32 rfl rfl row_36 LT_) rfl ?_
        refine h_val (v_assignC rfl) rfl ?_
        refine h_val (v_assignC rfl) rfl ?_
        refine h_nil ?_
        refine s_nil ?_
        refine S_ ?_
        refine c_region ?_
        refine s_val (v_moveC rfl) rfl ?_
        refine s_evN (e_callR (bs := []) (rotl32_ev (nth X7 4) (-6)) ok_20 (by kernel_rfl) (by kernel_rfl) rfl VAL_) APP_ rfl ?_
        refine s_val (v_moveC rfl) rfl ?_
        refine s_evN (e_callR (bs := []) (rotl32_ev (nth X7 4) (-11)) ok_20 (by kernel_rfl) (by kernel_rfl) rfl VAL_) APP_ rfl ?_
        refine s_val (v_xor32 rfl rfl) rfl ?_
        refine s_val (v_moveC rfl) rfl ?_
        refine s_evN (e_callR (bs := []) (rotl32_ev (nth X7 4) (-25)) ok_20 (by kernel_rfl) (by kernel_rfl) rfl VAL_) APP_ rfl ?_
        refine s_val (v_xor32 rfl rfl) rfl ?_
        refine s_val (v_assignC rfl) rfl ?_
        refine s_nil ?_
        refine S_ ?_
        refine c_draw 25 mixed (by kernel_rfl) rfl rfl rfl ?_
        refine h_val (v_idxA1 (j := 7) rfl rfl Try.underlying37 sz_36 (by omega)) rfl ?_
        refine h_val (v_load32 rfl rfl row_36 LT_) rfl ?_
        refine h_val (v_moveC rfl) rfl ?_
        refine h_val (v_add32 rfl rfl) rfl ?_
        refine h_val (v_moveC rfl) rfl ?_
        refine h_val (v_idxA1 (j := 5) rfl rfl Try.underlying37 sz_36 (by omega)) rfl ?_
        refine h_val (v_load32 rfl rfl row_36 LT_) rfl ?_
        refine h_val (v_and32 rfl rfl) rfl ?_
        refine h_val (v_moveC rfl) rfl ?_
        refine h_val (v_unxor32 rfl) rfl ?_
        refine h_val (v_idxA1 (j := 6) rfl rfl Try.underlying37 sz_36 (by omega)) rfl ?_
        refine h_val (v_load32 rfl rfl row_36 LT_) rfl ?_
        refine h_val (v_and32 rfl rfl) rfl ?_
        refine h_val (v_xor32 rfl rfl) rfl ?_
        refine h_val (v_add32 rfl rfl) rfl ?_
        refine h_val (v_moveC rfl) rfl ?_
        refine h_val (v_moveC rfl) rfl ?_
        refine h_val (v_idxS1 rfl rfl Try.underlying38 sz_36 (by omega)) rfl ?_
        refine h_val (v_load32 rfl rfl row_36 LT_) rfl ?_
        refine h_val (v_add32 rfl rfl) rfl ?_
        refine h_val (v_moveC rfl) rfl ?_
        refine h_val (v_idxA1 rfl rfl Try.underlying41 sz_36 (by omega)) rfl ?_
        refine h_val (v_load32 rfl rfl row_36 LT_) rfl ?_
        refine h_val (v_add32 rfl rfl) rfl ?_
        refine h_val (v_assignC rfl) rfl ?_
        refine h_nil ?_
        refine s_nil ?_
        refine S_ ?_
        refine c_region ?_
        refine s_val (v_moveC rfl) rfl ?_
        refine s_evN (e_callR (bs := []) (rotl32_ev (nth X7 0) (-2)) ok_20 (by kernel_rfl) (by kernel_rfl) rfl VAL_) APP_ rfl ?_
        refine s_val (v_moveC rfl) rfl ?_
        refine s_evN (e_callR (bs := []) (rotl32_ev (nth X7 0) (-13)) ok_20 (by kernel_rfl) (by kernel_rfl) rfl VAL_) APP_ rfl ?_
        refine s_val (v_xor32 rfl rfl) rfl ?_
        refine s_val (v_moveC rfl) rfl ?_
        refine s_evN (e_callR (bs := []) (rotl32_ev (nth X7 0) (-22)) ok_20 (by kernel_rfl) (by kernel_rfl) rfl VAL_) APP_ rfl ?_
        refine s_val (v_xor32 rfl rfl) rfl ?_
        refine s_val (v_assignC rfl) rfl ?_
        refine s_nil ?_
        refine S_ ?_
        refine c_region ?_
        refine s_val (v_moveC rfl) rfl ?_
        refine s_val (v_moveC rfl) rfl ?_
        refine s_val (v_idxA1 (j := 1) rfl rfl Try.underlying37 sz_36 (by omega)) rfl ?_
        refine s_val (v_load32 rfl rfl row_36 LT_) rfl ?_
        refine s_val (v_and32 rfl rfl) rfl ?_
        refine s_val (v_moveC rfl) rfl ?_
        refine s_val (v_idxA1 (j := 2) rfl rfl Try.underlying37 sz_36 (by omega)) rfl ?_
        refine s_val (v_load32 rfl rfl row_36 LT_) rfl ?_
        refine s_val (v_and32 rfl rfl) rfl ?_
        refine s_val (v_xor32 rfl rfl) rfl ?_
        refine s_val (v_idxA1 (j := 1) rfl rfl Try.underlying37 sz_36 (by omega)) rfl ?_
        refine s_val (v_load32 rfl rfl row_36 LT_) rfl ?_
        refine s_val (v_idxA1 (j := 2) rfl rfl Try.underlying37 sz_36 (by omega)) rfl ?_
        refine s_val (v_load32 rfl rfl row_36 LT_) rfl ?_
        refine s_val (v_and32 rfl rfl) rfl ?_
        refine s_val (v_xor32 rfl rfl) rfl ?_
        refine s_val (v_add32 rfl rfl) rfl ?_
        refine s_val (v_assignC rfl) rfl ?_
        refine s_nil ?_
        refine S_ ?_
        refine c_region ?_
        refine s_val (v_moveC rfl) rfl ?_
        refine s_val (v_moveC rfl) rfl ?_
        refine s_val (v_add32 rfl rfl) rfl ?_
        refine s_val (v_moveC rfl) rfl ?_
        refine s_val (v_idxA1 (j := 1) rfl rfl Try.underlying37 sz_36 (by omega)) rfl ?_
        refine s_val (v_load32 rfl rfl row_36 LT_) rfl ?_
        refine s_val (v_idxA1 (j := 2) rfl rfl Try.underlying37 sz_36 (by omega)) rfl ?_
        refine s_val (v_load32 rfl rfl row_36 LT_) rfl ?_
        refine s_val (v_idxA1 (j := 3) rfl rfl Try.underlying37 sz_36 (by omega)) rfl ?_
        refine s_val (v_load32 rfl rfl row_36 LT_) rfl ?_
        refine s_val (v_moveC rfl) rfl ?_
        refine s_val (v_add32 rfl rfl) rfl ?_
        refine s_val (v_moveC rfl) rfl ?_
        refine s_val (v_idxA1 (j := 5) rfl rfl Try.underlying37 sz_36 (by omega)) rfl ?_
        refine s_val (v_load32 rfl rfl row_36 LT_) rfl ?_
        refine s_val (v_idxA1 (j := 6) rfl rfl Try.underlying37 sz_36 (by omega)) rfl ?_
        refine s_val (v_load32 rfl rfl row_36 LT_) rfl ?_
        refine s_val (v_bld32 (l := [_, _, _, _, _, _, _, _]) zc_37 Try.underlying37 sz_36 rfl rfl (by decide)) rfl ?_
        refine s_storeR rfl rfl rfl rfl sz_37 EQ_ EQ_ SET_ ?_
        refine s_nil ?_
        refine S_ ?_
        refine c_region ?_
        refine s_val (v_addN (b := 1) rfl rfl (by omega)) rfl ?_
        refine s_val (v_moveC rfl) rfl ?_
        refine s_nil ?_
        exact ⟨(j19 + 1, _), by kernel_rfl, rfl⟩
      · try dsimp only
        have hY8 : (sha256_L19 X3 Y6 64).length = 8 := by rw [sha256_L19_len X3 Y6 hX3 hY6 _]; try omega
        generalize sha256_L19 X3 Y6 64 = Y8 at *
        refine S_ ?_
        refine c_region ?_
        refine s_val (v_lssN (a := 64) (b := 64) rfl rfl) rfl ?_
        refine s_nil ?_
        refine S_ ?_
        refine c_region ?_
        refine s_val (v_moveC rfl) rfl ?_
        refine s_nil ?_
        refine S_ ?_
        refine c_loopC [2, 3, 4, 5, 12, 172] (fun (zz : Nat × List (BitVec 32)) => ⟨201, keepT [2, 3, 4, 5, 12, 172] [.c (.ptr 1 0), .c (.ptr 2 0), .c (.sl 3 0 64 64 1), .c (.sl 4 (64 * j4) ((((n + 1) + (120 - (n + 1) % 64) % 64) + 8) - 64 * j4) ((((n + 1) + (120 - (n + 1) % 64) % 64) + 8) - 64 * j4) 1), .c (.ptr 5 0), .c (.val (.int .i64 (((zz.1 : Nat) : Int))))], [.row false (.a8 (b)), .row true (.a8 (zer8 32)), .row true (.a32 (zz.2)), .row true (.a32 (shaK256)), .row true (.a8 (shaPad (cut b o n))), .row true (.a32 (Y8))]⟩) (fun j29 => (j29, sha256_L29 X3 Y8 j29)) (8) (by kernel_rfl) ?_ ?_
        · intro j29 hj29
          try dsimp only
          have hX9 : (sha256_L29 X3 Y8 j29).length = 8 := by rw [sha256_L29_len X3 Y8 hX3 hY8 _]; try omega
          rw [sha256_L29.eq_2, sha256_L29_S]
          try simp only [htx]
          generalize sha256_L29 X3 Y8 j29 = X9 at *
          refine S_ ?_
          refine c_region ?_
          refine s_val (v_lssN (b := 8) rfl rfl) rfl ?_
          refine s_nil ?_
          refine S_ ?_
          refine c_region ?_
          refine s_val (v_moveC rfl) rfl ?_
          refine s_val (v_assignC rfl) rfl ?_
          refine s_nil ?_
          refine S_ ?_
          refine c_draw 8 mixed (by kernel_rfl) rfl rfl rfl ?_
          refine h_val (v_moveC rfl) rfl ?_
          refine h_val (v_idxA1 rfl rfl Try.underlying37 sz_36 (by omega)) rfl ?_
          refine h_val (v_load32 rfl rfl row_36 LT_) rfl ?_
          refine h_val (v_moveC rfl) rfl ?_
          refine h_val (v_idxA1 rfl rfl Try.underlying37 sz_36 (by omega)) rfl ?_
          refine h_val (v_load32 rfl rfl row_36 LT_) rfl ?_
          refine h_val (v_add32 rfl rfl) rfl ?_
          refine h_val (v_idxA1 rfl rfl Try.underlying37 sz_36 (by omega)) rfl ?_
          refine h_nil ?_
          refine s_store32 rfl rfl rfl sz_36 LT_ SET_ ?_
          refine s_nil ?_
          refine S_ ?_
          refine c_region ?_
          refine s_val (v_addN (b := 1) rfl rfl (by omega)) rfl ?_
          refine s_val (v_moveC rfl) rfl ?_
          refine s_nil ?_
          exact ⟨(j29 + 1, _), by kernel_rfl, rfl⟩
        · try dsimp only
          have hY10 : (sha256_L29 X3 Y8 8).length = 8 := by rw [sha256_L29_len X3 Y8 hX3 hY8 _]; try omega
          generalize sha256_L29 X3 Y8 8 = Y10 at *
          refine S_ ?_
          refine c_region ?_
          refine s_val (v_lssN (a := 8) (b := 8) rfl rfl) rfl ?_
          refine s_nil ?_
          refine S_ ?_
          refine c_region ?_
          refine s_val (v_moveC rfl) rfl ?_
          refine s_val (v_slSo (l := 64) rfl Try.underlying22 sz_5 rfl rfl (by omega) (by omega)) rfl ?_
          refine s_val (v_assignC rfl) rfl ?_
          refine s_nil ?_
          exact ⟨(j4 + 1, _), by kernel_rfl, rfl⟩
  · try dsimp only
    have hY11 : (sha256_L4 (cut b o n) ((n + 72) / 64)).length = 8 := by rw [sha256_L4_len (cut b o n) _]; try omega
    generalize sha256_L4 (cut b o n) ((n + 72) / 64) = Y11 at *
    refine S_ ?_
    refine c_region ?_
    refine s_val (v_moveC rfl) rfl ?_
    refine s_val (v_lenS rfl Try.underlying22) rfl ?_
    refine s_val (v_gtrN (b := 0) rfl rfl) rfl ?_
    refine s_nil ?_
    refine S_ ?_
    refine c_region ?_
    refine s_memN (m_alloc al_23 LEN_) APP_ rfl ?_
    refine s_nil ?_
    refine S_ ?_
    refine c_region ?_
    refine s_val (v_moveC rfl) rfl ?_
    refine s_nil ?_
    refine S_ ?_
    refine c_loopC [2, 3, 21, 184] (fun (zz : Nat × List (BitVec 8)) => ⟨201, keepT [2, 3, 21, 184] [.c (.ptr 1 0), .c (.ptr 2 0), .c (.ptr 3 0), .c (.val (.int .i64 (((zz.1 : Nat) : Int))))], [.row false (.a8 (b)), .row true (.a8 (zer8 32)), .row true (.a32 (Y11)), .row true (.a8 (zz.2))]⟩) (fun j35 => (j35, sha256_L35 Y11 j35)) (32) (by kernel_rfl) ?_ ?_
    · intro j35 hj35
      try dsimp only
      have hX12 : (sha256_L35 Y11 j35).length = 32 := by rw [sha256_L35_len Y11 hY11 _]; try omega
      rw [sha256_L35.eq_2, sha256_L35_S]
      try simp only [htx]
      generalize sha256_L35 Y11 j35 = X12 at *
      refine S_ ?_
      refine c_region ?_
      refine s_val (v_lssN (b := 32) rfl rfl) rfl ?_
      refine s_nil ?_
      refine S_ ?_
      refine c_region ?_
      refine s_val (v_moveC rfl) rfl ?_
      refine s_val (v_assignC rfl) rfl ?_
      refine s_nil ?_
      refine S_ ?_
      refine c_region ?_
      refine s_val (v_moveC rfl) rfl ?_
      refine s_val (v_moveC rfl) rfl ?_
      refine s_val (v_quoN (b := 4) rfl rfl (by omega) (by omega)) rfl ?_
      refine s_val (v_idxA1 rfl rfl Try.underlying37 sz_36 (by omega)) rfl ?_
      refine s_val (v_load32 rfl rfl row_36 LT_) rfl ?_
      refine s_val (v_moveC rfl) rfl ?_
      refine s_val (v_remN (b := 4) rfl rfl (by omega) (by omega)) rfl ?_
      refine s_val (v_mulN (a := 8) rfl rfl (by omega)) rfl ?_
      first
        | refine s_val (v_subN (a := 24) rfl rfl (by omega) (by omega)) rfl ?_
        | refine s_val (v_subI rfl rfl (by omega)) rfl ?_
      refine s_val (v_shr32n rfl rfl) rfl ?_
      refine s_val (v_conv rfl Try.underlying36 Try.underlying5 (w32_8 _)) rfl ?_
      refine s_val (v_idxA1 rfl rfl Try.underlying23 sz_5 (by omega)) rfl ?_
      refine s_store8 rfl rfl rfl sz_5 LT_ SET_ ?_
      refine s_nil ?_
      refine S_ ?_
      refine c_region ?_
      refine s_val (v_addN (b := 1) rfl rfl (by omega)) rfl ?_
      refine s_val (v_moveC rfl) rfl ?_
      refine s_nil ?_
      exact ⟨(j35 + 1, _), by kernel_rfl, rfl⟩
    · try dsimp only
      have hY13 : (sha256_L35 Y11 32).length = 32 := by rw [sha256_L35_len Y11 hY11 _]; try omega
      generalize sha256_L35 Y11 32 = Y13 at *
      refine S_ ?_
      refine c_region ?_
      refine s_val (v_lssN (a := 32) (b := 32) rfl rfl) rfl ?_
      refine s_nil ?_
      refine S_ ?_
      refine c_region ?_
      refine s_val (v_loadR rfl rfl row_23 sz_23 EQ_ (by decide)) rfl ?_
      refine s_storeR rfl rfl rfl rfl sz_23 EQ_ EQ_ SET_ ?_
      refine s_nil ?_
      refine S_ ?_
      rw [hP.out]
      exact k_1 (r_row rfl rfl row_23 sz_23 EQ_ (by decide)) (by first | kernel_rfl | rfl)
theorem sha256_evS (b : List (BitVec 8)) (n : Nat) (cap : Nat) (hb : b.length = n) (hn : n ≤ 2199023255552) : Ev Try.prog (.call 9 [.c (.sl 0 0 n cap 1)] [.row false (.a8 (b))]) (.val (.agg (.a8 (sha256 b))) [.row false (.a8 (b))]) := by
  have h_ := sha256_ev b 0 n cap (by omega) hn
  rw [cut_all hb] at h_
  exact h_

@[simp] theorem sha256_len (tx : List (BitVec 8)) : (sha256 tx).length = 32 := by
  unfold sha256
  first | (simp [sha256_L8_len, sha256_L19_len, sha256_L29_len, sha256_L4_len, sha256_L35_len, *]; done) | (simp [sha256_L8_len, sha256_L19_len, sha256_L29_len, sha256_L4_len, sha256_L35_len, *]; omega)

attribute [irreducible] sha256
end Go.Proofs.Ytlnekohkbhidnaa
